/-
  Proved here: (*skeen.clock).deliver. Conditions: the ids of what waits rise and are command.plain at one kind of commands. No condition but the kind. stream.commit, behind stream.Do's own look at the topics.
-/
import Derived.Test.YtdfmcgekfogpbabGreatDoorY15
import Derived.Test.YtdfmcgekfogpbabGreatDoorY19
import Derived.WalkMore
set_option maxRecDepth 100000
namespace Go.Proofs.YtdfmcgekfogpbabGreatDoor
open Go.RowKit
def DlvEnd (w0:World) (g:Nat) (r:Sk × List PM) (e:Ending) (w':World):Prop:=∃ al cl,e=.returned (.slice al r.2.length cl)∧OwnMs w' w0.heap.size (.slice al r.2.length cl) r.2∧Ck w' w0.heap.size g r.1∧Below w0.heap.size w0 w'
theorem news_new (w:World) (t:TypeId) (cs:List Value):∀ j u,cs[j]?=some u→(w.alloc (.cells cs.toArray t)).cell? ((⟨w.heap.size,0,none⟩:Addr).add j)=some u:=fun j u hu=>by
 rw [Addr.add_lit,(Blk.new (w:=w) (t:=t) (cs:=cs) rfl).cell,Nat.zero_add]
 exact hu
set_option maxHeartbeats 16000000 in
set_option maxRecDepth 100000 in
theorem deliver_any {w0 w:World} {g:Nat} {s:Sk} {r:Sk × List PM} (h:Ck w w0.heap.size g s) (h0:Below w0.heap.size w0 w) (hg:w0.heap.size≤g) (hu:idsUp s.waits) (hl:s.waits.length+s.done.length≤100000) (hr:r=delS s.waits.length s []) :
  Calls Tryz.prog 59 #[.pointer (some ⟨g,0,none⟩)] w (DlvEnd w0 g r):=by
 obtain ⟨i0,hi,hz0,hz1,hz2⟩:=info_parts info_stp
 obtain ⟨i1,gi,gz0,gz1,gz2⟩:=info_parts info_msg
 obtain ⟨pl,a1,c1,b1,d1,hck⟩:=h
 obtain ⟨B,hB⟩:∃ B,B=w0.heap.size:=⟨_,rfl⟩
 have HBE:=LH hB
 rw [← hB] at hck h0 hg
 have HK:=LH hck
 have HB:=LH h0
 have HU:=LH hu
 have HL:=LH hl
 have HR:=LH hr
 have hBw:B≤w.heap.size:=by have:=h0.size;omega
 clear hck h0 hu hl hr hB
 go_enter Tryz.func59,Tryz.ntmps59
 go_wp2
 go_step3
 go_wp2
 go_step3
 go_wp2
 go_loopg [2,3,4,5] s.waits.length (fun gh lv _ _ _ wr=>∃ (ck:Int) (wl:List Wt) (dl:List (Int × Int)) (pl:List (Value × Wt)) (a1:Option Addr) (c1:Nat) (b1:Option Addr) (d1:Nat) (out:List PM) (al:Option Addr) (cl:Nat),gh=wl.length∧lv=.slice al out.length cl ∧
  Hid (CkR wr B g ⟨ck,wl,dl⟩ pl a1 c1 b1 d1)∧Hid (OwnMs wr B (.slice al out.length cl) out)∧Hid (idsUp wl)∧Hid (wl.length+dl.length≤100000)∧Hid (wl.length+out.length≤100000)∧Hid (r=delS wl.length ⟨ck,wl,dl⟩ out)∧Hid (Below B w0 wr))
 case atStart=>exact ⟨s.clock,s.waits,s.done,pl,a1,c1,b1,d1,[],none,0,rfl,rfl,HK,LH (OwnMs.nil _ _),HU,HL,LH (by have:=HL.out;simp;omega),HR,HB⟩
 case round =>
  clear HK HB HU HL HR hBw
  obtain ⟨ck,wl,dl,pl,a1,c1,b1,d1,out,al,cl,rfl,rfl,HK,HO,HU,HL,HM,HR,HB⟩:=hrel
  obtain ⟨n,hn⟩:∃ n,n=wl.length:=⟨_,rfl⟩
  obtain ⟨dn,hdn⟩:∃ dn,dn=dl.length:=⟨_,rfl⟩
  have hq:Blk wr g 142 [.int .i64 ck,.slice a1 n c1,.slice b1 dn d1]:=by rw [hn,hdn];exact HK.out.2.1
  have hpl:pl.map (·.2)=wl:=HK.out.1
  have hll:pl.length=n:=by rw [hn,← hpl,List.length_map]
  have hBw:B≤wr.heap.size:=by have h1:=HB.out.size;have h2:=HBE.out;omega
  obtain ⟨q0,q1,q2,qz⟩:=cells3 hq
  have ql:=hq.lt
  have HN:=LH hn
  have HDN:=LH hdn
  have HPL:=LH hpl
  have HQ:=LH hq
  try rw [← hn]
  by_cases hz:n=0
  ·subst hz
   have e:r=(⟨ck,wl,dl⟩,out):=by rw [HR.out,← hn];rfl
   have HE:=LH e
   clear e hn hdn hpl hll hq
   go_wp2_with fail
   go_ret
   exact ⟨al,cl,by rw [HE.out];rfl,by rw [HE.out];rw [← HBE.out];exact HO.out,by rw [HE.out,← HBE.out];exact ⟨_,_,_,_,_,HK.out⟩,by rw [← HBE.out];exact HB.out⟩
  ·cases pl with
   |nil=>simp at hll;omega
   |cons p0 pt =>
    obtain ⟨p,hp⟩:∃ p,p=minP p0 pt:=⟨_,rfl⟩
    have hpm:p∈p0 :: pt:=by rw [hp];exact minP_mem _ _
    obtain ⟨sa,sn,sc,hsl⟩:=isSl_own (HK.out.2.2.2.1 p hpm)
    have KM:Hid (∀ W,Below wr.heap.size wr W→Calls Tryz.prog 103 #[.slice a1 n c1,.func (.func 104) #[] #[]] W fun e w'=>e=.returned (pv p)∧Below W.heap.size W w'):=fun W hW=>by
     have:=min_any (w:=W) (r:=p) (HK.out.keep hW).wts hp
     rw [← hn] at this
     exact this
    obtain ⟨u,x⟩:=p
    simp only at hsl
    subst hsl
    have hx:x=minW p0.2 (pt.map (·.2)):=by have:=minP_snd p0 pt;rw [← hp] at this;exact this
    have hhas:hasW wl x.msg.id=true:=by
     rw [hasW,List.any_eq_true]
     exact ⟨x,by rw [← hpl];exact List.mem_map.2 ⟨_,hpm,rfl⟩,by simp⟩
    obtain ⟨P,hP⟩:∃ P,P=posW wl x.msg.id:=⟨_,rfl⟩
    have hPn:P < n:=by rw [hP,hn];exact posW_lt hhas
    have hsm:smallI x.msg.id:=HU.out.2 _ (by rw [← hpl];exact List.mem_map.2 ⟨_,hpm,rfl⟩)
    have KF:Hid (∀ W,Below wr.heap.size wr W→Calls Tryz.prog 105 #[.pointer (some ⟨g,0,none⟩),.int .i64 x.msg.id] W fun e W'=>e=.returned (.tuple #[.int .i64 (P:Nat),.bool true])∧Below W.heap.size W W'):=fun W hW=>by
     have:=find_any (w:=W) x.msg.id ((HK.out.keep hW).2.1.cell 1) (HK.out.keep hW).wts (by rw [hpl];exact HU.out) hsm (by have:=HL.out;omega)
     rw [hpl,← hP,hhas] at this
     exact this
    have HRR:Hid (r=if x.fin=true then delS (n - 1) ⟨ck,delW wl P,dl++[ofW x]⟩ (out++[x.msg]) else (⟨ck,wl,dl⟩,out)):=by
     obtain ⟨m,hm⟩:∃ m,n=m+1:=⟨n - 1,by omega⟩
     have h1:=HR.out
     rw [← hn,hm] at h1
     rw [hm]
     obtain ⟨y,l,hyl⟩:∃ y l,wl=y :: l:=⟨p0.2,pt.map (·.2),by rw [← hpl];rfl⟩
     have hyy:y=p0.2∧l=pt.map (·.2):=by rw [← hpl] at hyl;simpa [eq_comm] using hyl
     rw [delS] at h1
     simp only [hyl] at h1
     rw [hyy.1,hyy.2,← hx] at h1
     rw [hP,hyl]
     rw [hyy.1,hyy.2]
     exact h1
    have HPM:=LH hpm
    have hnn:(0:Int) < (n:Int):=by omega
    clear HR hx hhas hsm hP hp hn hdn hpl hll hq
    go_wp2_with fail
    refine (KM.out _ (by repeat (first|with_reducible (first|exact Below.refl _ _|apply Below.drew|apply below_alloc)|((first|with_reducible refine Below.alloc ?_ ?_ _|with_reducible refine Below.setCell ?_ ?_ _);rotate_left;focus (first|(simp <;> omega)|omega))))).mono ?_
    rintro e w1 ⟨rfl,hb⟩
    have HX1:Hid (Below wr.heap.size wr w1):=below_step (by repeat (first|with_reducible (first|exact Below.refl _ _|apply Below.drew|apply below_alloc)|((first|with_reducible refine Below.alloc ?_ ?_ _|with_reducible refine Below.setCell ?_ ?_ _);rotate_left;focus (first|(simp <;> omega)|omega)))) hb
    obtain ⟨⟨xi,xg,xt,xk,xb⟩,tm,fn⟩:=x
    have hpv:pv (.slice sa sn sc,(⟨⟨xi,xg,xt,xk,xb⟩,tm,fn⟩:Wt))=.agg #[.int .i64 xi,.slice sa sn sc,.int .i64 xt,.string xk,.string xb,.int .i64 tm,.bool fn]:=rfl
    rw [hpv]
    obtain ⟨q0,q1,q2,qz⟩:=cells3 (HQ.out.step HX1.out)
    have ql1:=(HQ.out.step HX1.out).lt
    simp only at KF HRR
    clear hb KM hpv hz
    cases fn
    case false =>
     have e:r=(⟨ck,wl,dl⟩,out):=by rw [HRR.out];rfl
     have HE:=LH e
     clear e HRR KF
     go_wp2_with fail
     go_ret
     have hXf:Below wr.heap.size wr _:=(HX1.out.alloc HX1.out.size (.cells #[.int .i64 xi,.slice sa sn sc,.int .i64 xt,.string xk,.string xb,.int .i64 tm,.bool false] 196))
     exact ⟨al,cl,by rw [HE.out];rfl,by rw [HE.out,← HBE.out];exact HO.out.keep hXf,by rw [HE.out,← HBE.out];exact ⟨_,_,_,_,_,HK.out.keep hXf⟩,by rw [← HBE.out];exact Below.step HB.out hXf hBw⟩
    go_wp2_with fail
    refine (KF.out _ (by repeat (first|with_reducible (first|exact HX1.out|exact Below.refl _ _|apply Below.drew|apply below_alloc)|((first|with_reducible refine Below.alloc ?_ ?_ _|with_reducible refine Below.setCell ?_ ?_ _);rotate_left;focus (first|(simp <;> omega)|omega))))).mono ?_
    rintro e w2 ⟨rfl,hb⟩
    have HX2:Hid (Below wr.heap.size wr w2):=below_step (by repeat (first|with_reducible (first|exact HX1.out|exact Below.refl _ _|apply Below.drew|apply below_alloc)|((first|with_reducible refine Below.alloc ?_ ?_ _|with_reducible refine Below.setCell ?_ ?_ _);rotate_left;focus (first|(simp <;> omega)|omega)))) hb
    have HL2:Hid (Blk w2 w1.heap.size 196 [.int .i64 xi,.slice sa sn sc,.int .i64 xt,.string xk,.string xb,.int .i64 tm,.bool true]):=LH (Blk.step (by repeat (first|with_reducible exact Blk.new rfl|((with_reducible apply Blk.new);focus (first|rfl|(simp <;> omega)))|with_reducible (first|apply Blk.drew|apply Blk.alloc|apply Blk.set_)|((with_reducible apply Blk.far);rotate_left;focus (first|(simp <;> omega)|omega)))) hb)
    have sl1:=HX1.out.size
    clear hb KF q0 q1 q2 qz ql1
    have hrow:=ownsRow_keep HK.out.2.2.1 HX2.out
    simp only [← HN.out] at hrow
    obtain ⟨g1,cp,hv⟩:=row_form hrow (by omega)
    obtain ⟨rfl,rfl⟩:a1=some ⟨g1,0,none⟩∧c1=cp:=by simpa using hv
    have hg1:g1 < wr.heap.size:=(HK.out.2.2.1.lt _ rfl).2
    have hB1:B≤g1:=(HK.out.2.2.1.lt _ rfl).1
    have hq2:=HQ.out.step HX2.out
    obtain ⟨q0,q1,q2,qz⟩:=cells3 hq2
    have ql2:=hq2.lt
    have hw1:IntKind.i64.wrap ((P:Int)+1)=(P:Int)+1:=by have:=HL.out;have:=HN.out;rw [IntKind.wrap_i64];omega
    have KDel:Hid (Calls Tryz.prog 109 #[.slice (some ⟨g1,0,none⟩) n c1,.int .i64 (P:Int),.int .i64 ((P:Int)+1)] w2 (DelEnd B g1 n c1 ((delW (p0 :: pt) P).flatMap wtCs) w2)):=del_any hrow (wtCs_one fun p hp=>isSl_own (HK.out.2.2.2.1 p hp)) hPn (del_flat wtCs_len _ P)
    have HROW:=LH hrow
    clear hv hrow
    go_wp2_with fail
    refine KDel.out.mono ?_
    rintro e w3 ⟨rfl,o3,g3⟩
    have hq3:=hq2.grown g3 (row_blk HROW.out hq2 (by decide))
    have HK4:Hid (CkR (w3.setCell ⟨g,1,none⟩ (.slice (some ⟨g1,0,none⟩) (n - 1) c1)) B g ⟨ck,delW wl P,dl⟩ (delW (p0 :: pt) P) (some ⟨g1,0,none⟩) c1 b1 d1):=CkR.waits (HK.out.keep HX2.out) g3 (by rw [delW_map,HPL.out]) (by rw [delW_len (by rw [← HN.out];exact hPn),← HN.out]) o3 (fun p hp=>OwnI.keep' (HK.out.2.2.2.1 p (delW_mem hp)) HX2.out)
    have hO3:OwnMs w3 B (.slice al out.length cl) out:=(HO.out.keep HX2.out).row HROW.out g3 (by decide) (by decide)
    have HO4:Hid (OwnMs (w3.setCell ⟨g,1,none⟩ (.slice (some ⟨g1,0,none⟩) (n - 1) c1)) B (.slice al out.length cl) out):=LH (hO3.blk hq3 (heap_set _ _ _ _) (by decide) (by decide))
    have hl3:=HL2.out.grown g3 (by simp;omega)
    have HL4:Hid (Blk (w3.setCell ⟨g,1,none⟩ (.slice (some ⟨g1,0,none⟩) (n - 1) c1)) w1.heap.size 196 [.int .i64 xi,.slice sa sn sc,.int .i64 xt,.string xk,.string xb,.int .i64 tm,.bool true]):=LH (hl3.far (by omega) _)
    have hU2:OwnI w2 B (.slice sa sn sc) xg:=OwnI.keep' (HK.out.2.2.2.1 _ HPM.out) HX2.out
    have hU3:OwnI w3 B (.slice sa sn sc) xg:=ownsRow_grown' hU2 g3 (fun _ hk=>rows_ne hU2 HROW.out (by decide) (by rw [← hk];rfl))
    have HU4:Hid (OwnI (w3.setCell ⟨g,1,none⟩ (.slice (some ⟨g1,0,none⟩) (n - 1) c1)) B (.slice sa sn sc) xg):=LH (row_far hU3 (heap_set _ _ _ _) (row_blk hU3 hq3 (by decide)))
    have HB4:Hid (Below B w0 (w3.setCell ⟨g,1,none⟩ (.slice (some ⟨g1,0,none⟩) (n - 1) c1))):=LH ((grown_below (Below.step HB.out HX2.out hBw) g3 (by have:=HX2.out.size;omega) (fun k hk=>by cases hk;exact hB1)).setCell hg _)
    obtain ⟨q0,q1,q2,qz⟩:=cells3 hq3
    have ql3:=hq3.lt
    have hgl:g≠w1.heap.size:=by have:=HQ.out.lt;omega
    clear hO3 hl3 hU2 hU3 o3 g3 hq2 hq3 KDel HROW hg1 hw1
    go_wp2_with fail
    generalize w3.setCell ⟨g,1,none⟩ (.slice (some ⟨g1,0,none⟩) (n - 1) c1)=w4 at HK4 HO4 HL4 HU4 HB4 ⊢
    clear q0 q1 q2 qz ql2 ql3
    have hdl:(delW wl P).length=n - 1:=by rw [delW_len (by rw [← HN.out];exact hPn),← HN.out]
    have HDL:=LH hdl
    have hq4:Blk w4 g 142 [.int .i64 ck,.slice (some ⟨g1,0,none⟩) (n - 1) c1,.slice b1 dn d1]:=by rw [← hdl,HDN.out];exact HK4.out.2.1
    have HD4:Hid (w4.ownsRow B 199 2 (.slice b1 dn d1) dn (dl.flatMap stCells)):=by rw [HDN.out];exact HK4.out.2.2.2.2
    have HQ4:=LH hq4
    obtain ⟨q0,q1,q2,qz⟩:=cells3 hq4
    obtain ⟨⟨⟨l0,l1,l2,l3⟩,l4,l5,l6⟩,lz⟩:=cells7 HL4.out
    have ql4:=hq4.lt
    have ll4:=HL4.out.lt
    have hdn:dn≤100000:=by have:=HL.out;have:=HDN.out;omega
    have hBw4:B≤w4.heap.size:=by have:=HB4.out.size;have:=HBE.out;omega
    have KO:Hid (∀ W,Calls Tryz.prog 102 #[.agg #[.int .i64 xi,.slice sa sn sc,.int .i64 xt,.string xk,.string xb,.int .i64 tm,.bool true]] W fun e W'=>e=.returned (.agg #[.int .i64 tm,.int .i64 xi])∧Below W.heap.size W W'):=fun W=>of_any sa sn sc ⟨⟨xi,xg,xt,xk,xb⟩,tm,true⟩ W
    have H1ST:Hid (∀ v∈stCells (tm,xi),v.oneCell'=true):=LH (fun v hv=>st_one [(tm,xi)] v (by simpa using hv))
    have m1:dn+1≤maxLen:=by unfold maxLen;omega
    have m2:(dn+1) * 16≤140737488355328:=by omega
    clear hq4 hdl
    go_region_law (first
     |(go_simp;go_at_call 102;refine (KO.out _).mono ?_;rintro e w5 ⟨rfl,hb⟩;have HX5:Hid (Below w4.heap.size w4 w5):=below_step (by repeat (first|with_reducible (first|exact Below.refl _ _|apply Below.drew|apply below_alloc)|((first|with_reducible refine Below.alloc ?_ ?_ _|with_reducible refine Below.setCell ?_ ?_ _);rotate_left;focus (first|(simp <;> omega)|omega)))) hb;have HQ5:=LH (HQ4.out.step HX5.out);have HL5:=LH (HL4.out.step HX5.out);have sl5:=HX5.out.size;have ql5:=HQ5.out.lt;have ll5:=HL5.out.lt;obtain ⟨n0,n1,n2,nz⟩:=cells3 HQ5.out;obtain ⟨⟨⟨k0,k1,k2,k3⟩,k4,k5,k6⟩,kz⟩:=cells7 HL5.out;have HA5:=LH (ownsRow_keep HD4.out HX5.out);clear hb)
     |(refine step_append_lies _ rfl _ _ 27 rfl B 199 i0 _ 2 16 Tryz.underlying27 hi hz0 hz1 hz2 rfl (by decide) _ dn _ rfl (HA5.out.alloc _) ⟨w5.heap.size,0,none⟩ 1 1 (stCells (tm,xi)) rfl rfl (news_new _ _ _) H1ST.out (by decide) m1 m2 (by simp;omega) _ rfl ?_;intro g6 cap6 w6 hown hgrow hat6 hlt6;have HOWN:=LH hown;have HGROW:=LH hgrow;have hq6:=(HQ5.out.alloc _).grown hgrow (row_blk HA5.out HQ5.out (by decide));obtain ⟨n0,n1,n2,nz⟩:=cells3 hq6;have nl6:=hq6.lt;have HQ6:=LH hq6;clear hown hgrow hq6))
    all_goals
     have hWW:Below w4.heap.size w4 (w5.alloc (.cells #[.int .i64 tm,.int .i64 xi] 199)):=HX5.out.alloc sl5 _
     have hDW:=ownsRow_keep HD4.out hWW
     have HK7:Hid (CkR (w6.setCell ⟨g,2,none⟩ (.slice (some ⟨g6,0,none⟩) (dn+1) cap6)) B g ⟨ck,delW wl P,dl++[(tm,xi)]⟩ (delW (p0 :: pt) P) (some ⟨g1,0,none⟩) c1 (some ⟨g6,0,none⟩) cap6) :=
      CkR.dones (HK4.out.keep hWW) (by have:=HGROW.out;rw [HDN.out] at this;exact this) (by rw [List.length_append,HDN.out];rfl) (by have:=HOWN.out;simpa [List.flatMap_append] using this)
     have hO6:OwnMs w6 B (.slice al out.length cl) out:=(HO4.out.keep hWW).row hDW HGROW.out (by decide) (by decide)
     have HO7:Hid (OwnMs (w6.setCell ⟨g,2,none⟩ (.slice (some ⟨g6,0,none⟩) (dn+1) cap6)) B (.slice al out.length cl) out):=LH (hO6.blk HQ6.out (heap_set _ _ _ _) (by decide) (by decide))
     have hl6:=(HL4.out.step hWW).grown HGROW.out (row_blk hDW (HL4.out.step hWW) (by decide))
     have HL7:Hid (Blk (w6.setCell ⟨g,2,none⟩ (.slice (some ⟨g6,0,none⟩) (dn+1) cap6)) w1.heap.size 196 [.int .i64 xi,.slice sa sn sc,.int .i64 xt,.string xk,.string xb,.int .i64 tm,.bool true]):=LH (hl6.far (by omega) _)
     have hU6:OwnI w6 B (.slice sa sn sc) xg:=ownsRow_grown' (HU4.out.keep' hWW) HGROW.out (fun _ hk=>rows_ne (HU4.out.keep' hWW) hDW (by decide) hk)
     have HU7:Hid (OwnI (w6.setCell ⟨g,2,none⟩ (.slice (some ⟨g6,0,none⟩) (dn+1) cap6)) B (.slice sa sn sc) xg):=LH (row_far hU6 (heap_set _ _ _ _) (row_blk hU6 HQ6.out (by decide)))
     have HB7:Hid (Below B w0 (w6.setCell ⟨g,2,none⟩ (.slice (some ⟨g6,0,none⟩) (dn+1) cap6))):=LH ((grown_below (Below.step HB4.out hWW hBw4) HGROW.out (by have:=hWW.size;omega) (fun k hk=>(HD4.out.lt k hk).1)).setCell hg _)
     obtain ⟨⟨⟨k0,k1,k2,k3⟩,k4,k5,k6⟩,kz⟩:=cells7 hl6
     clear hWW hDW hO6 hl6 hU6 HX5 HQ5 HL5 HA5 HOWN HGROW HK4 HO4 HL4 HU4 HB4 HQ4 HD4
     go_upto_region 7 with fail
     have HQ7:Hid (Blk (w6.setCell ⟨g,2,none⟩ (.slice (some ⟨g6,0,none⟩) (dn+1) cap6)) g 142 _):=LH (HQ6.out.set_ 2 _)
     generalize w6.setCell ⟨g,2,none⟩ (.slice (some ⟨g6,0,none⟩) (dn+1) cap6)=w7 at HK7 HO7 HL7 HU7 HB7 HQ7 ⊢
     obtain ⟨⟨⟨h0,h1,h2,h3⟩,h4,h5,h6⟩,hz⟩:=cells7 HL7.out
     have hl7:=HL7.out.lt
     have hBw7:B≤w7.heap.size:=by have:=HB7.out.size;have:=HBE.out;omega
     obtain ⟨ml,hm1,hm2,hm3⟩:=HO7.out
     have HM1:=LH hm1
     have HM2:=LH hm2
     have HM3:=LH hm3
     have hol:out.length+1≤200000:=by have:=HM.out;have:=HN.out;omega
     have m3:out.length+1≤maxLen:=by unfold maxLen;omega
     have m4:(out.length+1) * 72≤140737488355328:=by omega
     have hmo:∀ v∈msgC (.slice sa sn sc,(⟨xi,xg,xt,xk,xb⟩:PM)),v.oneCell'=true:=by
      intro v hv
      simp only [msgC,msgCs,List.mem_cons,List.not_mem_nil,or_false] at hv
      rcases hv with rfl|rfl|rfl|rfl|rfl <;> rfl
     have HMO:=LH hmo
     clear hm1 hm2 hm3 hmo k0 k1 k2 k3 k4 k5 k6 kz m1 m2 H1ST
     go_wp2_with (at_builtin;refine wpList_append_own _ rfl _ _ 94 rfl B 77 i1 _ 5 72 Tryz.underlying94 gi gz0 gz1 gz2 rfl (by decide) _ out.length _ rfl (HM2.out.alloc _) ⟨w7.heap.size,0,none⟩ 1 1 (msgC (.slice sa sn sc,(⟨xi,xg,xt,xk,xb⟩:PM))) rfl rfl (news_new _ _ _) HMO.out m3 m4 (by simp;omega) ?_)
     intro v8 w8 hown hgrow _
     obtain ⟨a8,c8,rfl⟩:=row_shape hown
     have hWA:Below w7.heap.size w7 (w7.alloc (.cells #[.int .i64 xi,.slice sa sn sc,.int .i64 xt,.string xk,.string xb] 77)):=(Below.refl _ _).alloc (Nat.le_refl _) _
     have HO8:Hid (OwnMs w8 B (.slice a8 (out.length+1) c8) (out++[⟨xi,xg,xt,xk,xb⟩])):=LH (OwnMs.snoc HM1.out (HM2.out.alloc _) (fun p hp=>ownsRow_keep (HM3.out p hp) hWA) (ownsRow_keep HU7.out hWA) hgrow hown rfl)
     have HK8:=LH ((HK7.out.keep hWA).row (HM2.out.alloc _) hgrow (by decide) (by decide) (by decide) (by decide))
     have HB8:Hid (Below B w0 w8):=LH (grown_below (Below.step HB7.out hWA hBw7) hgrow (by have:=hWA.size;omega) (fun k hk=>(HM2.out.lt k hk).1))
     clear hWA hown hgrow
     go_wp2_with fail
     go_roundg (n - 1)
     case measure=>have:=HN.out;omega
     case rel =>
      refine ⟨ck,delW wl P,dl++[(tm,xi)],_,_,_,_,_,out++[⟨xi,xg,xt,xk,xb⟩],a8,c8,HDL.out.symm,by rw [List.length_append];rfl,HK8,?_,LH (idsUp_del HU.out),?_,?_,?_,HB8⟩
      ·rw [List.length_append];exact HO8
      ·refine LH ?_
       have:=HL.out;have:=HN.out
       rw [HDL.out,List.length_append];simp;omega
      ·refine LH ?_
       have:=HM.out;have:=HN.out
       rw [HDL.out,List.length_append];simp;omega
      ·refine LH ?_
       rw [HDL.out,HRR.out]
       rfl
set_option maxHeartbeats 8000000 in
set_option maxRecDepth 100000 in
theorem plain_k9 {v:Value} {c:PC} {w:World} (h:ComR w v c) (hk:c.kind≠0∧c.kind≠1∧c.kind≠2∧c.kind≠3∧c.kind≠4∧c.kind≠5∧c.kind≠6):Calls Tryz.prog 96 #[v] w (PlainEnd (pC c) (okP c) w):=by
 obtain ⟨a,cap,b,bc,rfl,hg,hm⟩:=h
 obtain ⟨q,hq⟩:∃ q,q=onT c:=⟨_,rfl⟩
 have HPC:=LH (show pC c=pC c from rfl)
 have HOK:=LH (show okP c=okP c from rfl)
 obtain ⟨pc,hpc⟩:∃ pc,pc=pC c:=⟨_,rfl⟩
 obtain ⟨ok,hok⟩:∃ ok,ok=okP c:=⟨_,rfl⟩
 rw [← hpc,← hok]
 clear HPC HOK
 obtain ⟨kd,⟨i1,g1,t1,k1,b1⟩,ci,ct,ml,cp,cw,cn⟩:=c
 simp only [onT] at hq hg hm hk ⊢
 have HK:=LH hk
 clear hk
 have HQ:=LH hq
 have HPC:=LH hpc
 have HOK:=LH hok
 have G:=LH hg
 have M:=LH hm
 obtain ⟨gn,hgn⟩:∃ n,n=g1.length:=⟨_,rfl⟩
 obtain ⟨mn,hmn⟩:∃ n,n=ml.length:=⟨_,rfl⟩
 rw [← hgn] at G ⊢
 rw [← hmn] at M ⊢
 have HGN:=LH hgn
 have HMN:=LH hmn
 clear hq hg hm hpc hok hgn hmn
 obtain ⟨z1,hz1⟩:∃ z:Bool,z=idB ci:=⟨_,rfl⟩
 obtain ⟨z2,hz2⟩:∃ z:Bool,z=inB cp 0 3:=⟨_,rfl⟩
 obtain ⟨z3,hz3⟩:∃ z:Bool,z=inB cn 0 1073741824:=⟨_,rfl⟩
 have HZ1:=LH hz1
 have HZ2:=LH hz2
 have HZ3:=LH hz3
 rw [← hz1,← hz2,← hz3] at HQ
 clear hz1 hz2 hz3
 go_enter Tryz.func96,Tryz.ntmps96
 go_upto_region 2 with fail
 go_cut [5] (fun c wx=>c=.bool q∧Hid (Below w.heap.size w wx)∧Hid (Blk wx w.heap.size 79 [.int .u8 kd,.int .i64 i1,.slice a gn cap,.int .i64 t1,.string k1,.string b1,.int .i64 ci,.int .i64 ct,.slice b mn bc,.int .i64 cp,.int .i64 cw,.int .i64 cn])∧Hid (Blk wx (w.heap.size+1) 79 [.int .u8 0,.int .i64 0,.slice none 0 0,.int .i64 0,.string ⟨#[]⟩,.string ⟨#[]⟩,.int .i64 0,.int .i64 0,.slice none 0 0,.int .i64 0,.int .i64 0,.int .i64 0])∧Hid (Blk wx (w.heap.size+1+1) 79 [.int .u8 kd,.int .i64 0,.slice none 0 0,.int .i64 0,.string ⟨#[]⟩,.string ⟨#[]⟩,.int .i64 0,.int .i64 0,.slice none 0 0,.int .i64 0,.int .i64 0,.int .i64 0]))
 case first =>
  have HB0:Hid (Below w.heap.size w (((w.alloc (.cells #[.int .u8 kd,.int .i64 i1,.slice a gn cap,.int .i64 t1,.string k1,.string b1,.int .i64 ci,.int .i64 ct,.slice b mn bc,.int .i64 cp,.int .i64 cw,.int .i64 cn] 79)).alloc (.cells #[.int .u8 0,.int .i64 0,.slice none 0 0,.int .i64 0,.string ⟨#[]⟩,.string ⟨#[]⟩,.int .i64 0,.int .i64 0,.slice none 0 0,.int .i64 0,.int .i64 0,.int .i64 0] 79)).alloc (.cells #[.int .u8 kd,.int .i64 0,.slice none 0 0,.int .i64 0,.string ⟨#[]⟩,.string ⟨#[]⟩,.int .i64 0,.int .i64 0,.slice none 0 0,.int .i64 0,.int .i64 0,.int .i64 0] 79))):=LH (by repeat (first|with_reducible (first|exact Below.refl _ _|apply Below.drew|apply below_alloc)|((first|with_reducible refine Below.alloc ?_ ?_ _|with_reducible refine Below.setCell ?_ ?_ _);rotate_left;focus (first|(simp <;> omega)|omega))))
  have HE:Hid (Blk (((w.alloc (.cells #[.int .u8 kd,.int .i64 i1,.slice a gn cap,.int .i64 t1,.string k1,.string b1,.int .i64 ci,.int .i64 ct,.slice b mn bc,.int .i64 cp,.int .i64 cw,.int .i64 cn] 79)).alloc (.cells #[.int .u8 0,.int .i64 0,.slice none 0 0,.int .i64 0,.string ⟨#[]⟩,.string ⟨#[]⟩,.int .i64 0,.int .i64 0,.slice none 0 0,.int .i64 0,.int .i64 0,.int .i64 0] 79)).alloc (.cells #[.int .u8 kd,.int .i64 0,.slice none 0 0,.int .i64 0,.string ⟨#[]⟩,.string ⟨#[]⟩,.int .i64 0,.int .i64 0,.slice none 0 0,.int .i64 0,.int .i64 0,.int .i64 0] 79)) w.heap.size 79 [.int .u8 kd,.int .i64 i1,.slice a gn cap,.int .i64 t1,.string k1,.string b1,.int .i64 ci,.int .i64 ct,.slice b mn bc,.int .i64 cp,.int .i64 cw,.int .i64 cn]∧Blk (((w.alloc (.cells #[.int .u8 kd,.int .i64 i1,.slice a gn cap,.int .i64 t1,.string k1,.string b1,.int .i64 ci,.int .i64 ct,.slice b mn bc,.int .i64 cp,.int .i64 cw,.int .i64 cn] 79)).alloc (.cells #[.int .u8 0,.int .i64 0,.slice none 0 0,.int .i64 0,.string ⟨#[]⟩,.string ⟨#[]⟩,.int .i64 0,.int .i64 0,.slice none 0 0,.int .i64 0,.int .i64 0,.int .i64 0] 79)).alloc (.cells #[.int .u8 kd,.int .i64 0,.slice none 0 0,.int .i64 0,.string ⟨#[]⟩,.string ⟨#[]⟩,.int .i64 0,.int .i64 0,.slice none 0 0,.int .i64 0,.int .i64 0,.int .i64 0] 79)) (w.heap.size+1) 79 [.int .u8 0,.int .i64 0,.slice none 0 0,.int .i64 0,.string ⟨#[]⟩,.string ⟨#[]⟩,.int .i64 0,.int .i64 0,.slice none 0 0,.int .i64 0,.int .i64 0,.int .i64 0]∧Blk (((w.alloc (.cells #[.int .u8 kd,.int .i64 i1,.slice a gn cap,.int .i64 t1,.string k1,.string b1,.int .i64 ci,.int .i64 ct,.slice b mn bc,.int .i64 cp,.int .i64 cw,.int .i64 cn] 79)).alloc (.cells #[.int .u8 0,.int .i64 0,.slice none 0 0,.int .i64 0,.string ⟨#[]⟩,.string ⟨#[]⟩,.int .i64 0,.int .i64 0,.slice none 0 0,.int .i64 0,.int .i64 0,.int .i64 0] 79)).alloc (.cells #[.int .u8 kd,.int .i64 0,.slice none 0 0,.int .i64 0,.string ⟨#[]⟩,.string ⟨#[]⟩,.int .i64 0,.int .i64 0,.slice none 0 0,.int .i64 0,.int .i64 0,.int .i64 0] 79)) (w.heap.size+1+1) 79 [.int .u8 kd,.int .i64 0,.slice none 0 0,.int .i64 0,.string ⟨#[]⟩,.string ⟨#[]⟩,.int .i64 0,.int .i64 0,.slice none 0 0,.int .i64 0,.int .i64 0,.int .i64 0]) :=
   LH ⟨((Blk.new rfl).alloc _).alloc _,(Blk.new (by simp)).alloc _,Blk.new (by simp)⟩
  cases z1
  ·obtain rfl:q=false:=HQ.out
   go_wp2_with fail
   refine Calls.mono (idB_any ci _) ?_
   rintro e w1 ⟨rfl,rfl⟩
   rw [← HZ1.out]
   go_wp2_with fail
   go_meet
   case rel=>exact ⟨rfl,HB0,HE.out.1,HE.out.2.1,HE.out.2.2⟩
  ·cases z2
   ·obtain rfl:q=false:=HQ.out
    go_wp2_with fail
    refine Calls.mono (idB_any ci _) ?_
    rintro e w1 ⟨rfl,rfl⟩
    rw [← HZ1.out]
    go_wp2_with fail
    refine Calls.mono (inB_any cp 0 3 _) ?_
    rintro e w1 ⟨rfl,rfl⟩
    rw [← HZ2.out]
    go_wp2_with fail
    go_meet
    case rel=>exact ⟨rfl,HB0,HE.out.1,HE.out.2.1,HE.out.2.2⟩
   ·obtain rfl:q=z3:=HQ.out
    go_wp2_with fail
    refine Calls.mono (idB_any ci _) ?_
    rintro e w1 ⟨rfl,rfl⟩
    rw [← HZ1.out]
    go_wp2_with fail
    refine Calls.mono (inB_any cp 0 3 _) ?_
    rintro e w1 ⟨rfl,rfl⟩
    rw [← HZ2.out]
    go_wp2_with fail
    refine Calls.mono (inB_any cn 0 1073741824 _) ?_
    rintro e w1 ⟨rfl,rfl⟩
    rw [← HZ3.out]
    go_wp2_with fail
    go_meet
    case rel=>exact ⟨rfl,HB0,HE.out.1,HE.out.2.1,HE.out.2.2⟩
 case rest =>
  obtain ⟨rfl,HB,HP,HRR,HQQ⟩:=hcut
  have hk:=HK.out
  obtain ⟨⟨⟨q0,q1,q2,q3⟩,⟨q4,q5,q6,q7⟩,q8,q9,q10,q11⟩,qz⟩:=cells12 HQQ.out
  have ql:=HQQ.out.lt
  obtain ⟨⟨⟨p0,p1,p2,p3⟩,⟨p4,p5,p6,p7⟩,p8,p9,p10,p11⟩,pz⟩:=cells12 HP.out
  have pl:=HP.out.lt
  obtain ⟨⟨⟨r0,r1,r2,r3⟩,⟨r4,r5,r6,r7⟩,r8,r9,r10,r11⟩,rz⟩:=cells12 HRR.out
  have rl:=HRR.out.lt
  obtain ⟨h0,h1,h2,h3,h4,h5,h6⟩:=hk
  have h0':(kd == 0)=false:=by simp [h0]
  have h1':(kd == 1)=false:=by simp [h1]
  have h2':(kd == 2)=false:=by simp [h2]
  have h3':(kd == 3)=false:=by simp [h3]
  have h4':(kd == 4)=false:=by simp [h4]
  have h5':(kd == 5)=false:=by simp [h5]
  have h6':(kd == 6)=false:=by simp [h6]
  obtain rfl:pc=pZ kd:=by rw [HPC.out];unfold pC;simp only;rw [if_neg h1,if_neg h2,if_neg h3,if_neg h4,if_neg (by rintro (h|h) <;> contradiction)]
  obtain rfl:ok=false:=by rw [HOK.out];unfold okP;simp only;rw [if_neg h0,if_neg h1,if_neg h2,if_neg h3,if_neg h4,if_neg (by rintro (h|h) <;> contradiction)]
  clear h0 h1 h2 h3 h4 h5 h6
  go_wp2_with fail
  obtain ⟨⟨⟨t0,t1_,t2,t3⟩,⟨t4,t5,t6,t7⟩,t8,t9,t10,t11⟩,-⟩:=cells12 (blk_put12 HRR.out (.int .u8 kd) (.int .i64 0) (.slice none 0 0) (.int .i64 0) (.string ⟨#[]⟩) (.string ⟨#[]⟩) (.int .i64 0) (.int .i64 0) (.slice none 0 0) (.int .i64 0) (.int .i64 0) (.int .i64 0))
  have HBF:=((((((((((((HB.out.setCell (p:=⟨w.heap.size+1,0,none⟩) (by simp) (.int .u8 kd)).setCell (p:=⟨w.heap.size+1,1,none⟩) (by simp) (.int .i64 0)).setCell (p:=⟨w.heap.size+1,2,none⟩) (by simp) (.slice none 0 0)).setCell (p:=⟨w.heap.size+1,3,none⟩) (by simp) (.int .i64 0)).setCell (p:=⟨w.heap.size+1,4,none⟩) (by simp) (.string ⟨#[]⟩)).setCell (p:=⟨w.heap.size+1,5,none⟩) (by simp) (.string ⟨#[]⟩)).setCell (p:=⟨w.heap.size+1,6,none⟩) (by simp) (.int .i64 0)).setCell (p:=⟨w.heap.size+1,7,none⟩) (by simp) (.int .i64 0)).setCell (p:=⟨w.heap.size+1,8,none⟩) (by simp) (.slice none 0 0)).setCell (p:=⟨w.heap.size+1,9,none⟩) (by simp) (.int .i64 0)).setCell (p:=⟨w.heap.size+1,10,none⟩) (by simp) (.int .i64 0)).setCell (p:=⟨w.heap.size+1,11,none⟩) (by simp) (.int .i64 0))
  obtain rfl:=HGN.out
  obtain rfl:=HMN.out
  exact bodyPost_ret (v:=.tuple #[.agg #[.int .u8 kd,.int .i64 0,.slice none 0 0,.int .i64 0,.string ⟨#[]⟩,.string ⟨#[]⟩,.int .i64 0,.int .i64 0,.slice none 0 0,.int .i64 0,.int .i64 0,.int .i64 0],.bool false]) (by simp [results,Tryz.results96,go_sem,t0,t1_,t2,t3,t4,t5,t6,t7,t8,t9,t10,t11]) rfl ⟨_,rfl,⟨none,0,none,0,rfl,ints_nil _,ints_nil _⟩,HBF⟩
end Go.Proofs.YtdfmcgekfogpbabGreatDoor
set_option maxRecDepth 100000
namespace Go.Proofs.YtdfmcgekfogpbabGreatDoor
open Go.RowKit
set_option maxHeartbeats 8000000 in
set_option maxRecDepth 100000 in
theorem strCommit_any {v:Value} {s u:Str} {w:World} {x kind mid mt id time:Int} {ga ma:Option Addr} {gn gc mn mc:Nat} {mk mb:ByteArray} (topic who n:Int) (h:StrR w v s) (ha:askS s topic=0) (hu:commitS s topic who n=(u,x)) :
  Calls Tryz.prog 127 #[v,.agg #[.int .u8 kind,.int .i64 mid,.slice ga gn gc,.int .i64 mt,.string mk,.string mb,.int .i64 id,.int .i64 time,.slice ma mn mc,.int .i64 topic,.int .i64 who,.int .i64 n]] w (DoEnd u x w):=by
 have HS:=LH h
 obtain ⟨a,cap,bb,nc,cc,rfl,hT,-⟩:=h.shape
 obtain ⟨hm,h0,h1⟩:=askS_zero.1 ha
 have h4:=hm.1.1
 have HF:=LH (few_of_may hm)
 have HM:=LH hm
 obtain ⟨i,rfl⟩:∃ i:Nat,topic=(i:Int):=⟨topic.toNat,by omega⟩
 have HI:=LH (show i < s.tops.length by omega)
 obtain ⟨⟨-,hcap,hmx⟩,g,off,rfl,hat⟩:=StrR.top hT (i:=i) h0 (by omega)
 rw [show s.tops.getD (i:Int).toNat default=topN s i from rfl] at hat
 obtain ⟨t,ht⟩:∃ t,t=topN s i:=⟨_,rfl⟩
 rw [commitS,← ht] at hu
 rw [← ht] at hat
 simp only [Int.toNat_natCast] at hat
 have HAT:=LH hat
 have h5:(i:Int) < (s.tops.length:Int):=by omega
 have hgw:g < w.heap.size:=World.block_lt_of_cell? w _ hat.choose_spec.choose_spec.1.1.1.1
 unfold maxLen at hmx
 by_cases hb:who < 0∨8≤who∨n < 0∨1073741824 < n
 ·rw [if_pos hb] at hu
  cases hu
  clear h hT ha hm h4 ht hat
  go_enter Tryz.func127,Tryz.ntmps127
  by_cases c1:who < 0
  rotate_left
  by_cases c2:8≤who
  rotate_left
  by_cases c3:n < 0
  rotate_left
  have c4:1073741824 < n:=by omega
  all_goals
   go_wp2_with fail
   refine bodyPost_ret (v:=.tuple #[.agg #[.slice none 0 0,.slice none 0 0],.int .i64 2]) (by simp [results,Tryz.results127,go_sem]) rfl ⟨_,_,rfl,OwnS.zero _ _,?_⟩
   repeat (first|with_reducible (first|exact Below.refl _ _|apply Below.drew|apply below_alloc)|((first|with_reducible refine Below.alloc ?_ ?_ _|with_reducible refine Below.setCell ?_ ?_ _);rotate_left;focus (first|(simp <;> omega)|omega)))
 ·rw [if_neg hb] at hu
  have b1:¬ who < 0:=by omega
  have b2:¬ 8≤who:=by omega
  have b3:¬ n < 0:=by omega
  have b4:¬ 1073741824 < n:=by omega
  obtain ⟨ea,ecap,⟨⟨⟨c0,c1⟩,c2⟩,c3⟩,-⟩:=HAT.out
  obtain ⟨nx,hnx⟩:∃ nx,nx=t.next:=⟨_,rfl⟩
  rw [← hnx] at hu c1
  have HNX:=LH hnx
  clear hnx
  have d1:((((w.alloc (.cells #[.slice (some ⟨g,off,none⟩) s.tops.length cap,.slice bb nc cc] 33)).alloc (.cells #[.int .u8 kind,.int .i64 mid,.slice ga gn gc,.int .i64 mt,.string mk,.string mb,.int .i64 id,.int .i64 time,.slice ma mn mc,.int .i64 (i:Int),.int .i64 who,.int .i64 n] 79)).alloc (.cells #[.slice none 0 0,.slice none 0 0] 33)).drew).cell? ⟨g,off+i * 4+1,none⟩=some (.int .i64 nx):=(Below.cell (B:=w.heap.size) (by repeat (first|with_reducible (first|exact Below.refl _ _|apply Below.drew|apply below_alloc)|((first|with_reducible refine Below.alloc ?_ ?_ _|with_reducible refine Below.setCell ?_ ?_ _);rotate_left;focus (first|(simp <;> omega)|omega)))) hgw).trans c1
  have g0:g≠w.heap.size:=by omega
  have g1:g≠w.heap.size+1:=by omega
  have g2:g≠w.heap.size+1+1:=by omega
  by_cases hn:nx < n
  ·rw [if_pos hn] at hu
   cases hu
   clear h hT ha hm h4 ht hat hb
   go_enter Tryz.func127,Tryz.ntmps127
   go_wp2_with fail
   go_region
   go_wp2_with fail
   refine bodyPost_ret (v:=.tuple #[.agg #[.slice none 0 0,.slice none 0 0],.int .i64 170]) (by simp [results,Tryz.results127,go_sem]) rfl ⟨_,_,rfl,OwnS.zero _ _,?_⟩
   repeat (first|with_reducible (first|exact Below.refl _ _|apply Below.drew|apply below_alloc)|((first|with_reducible refine Below.alloc ?_ ?_ _|with_reducible refine Below.setCell ?_ ?_ _);rotate_left;focus (first|(simp <;> omega)|omega)))
  ·rw [if_neg hn] at hu
   cases hu
   have HOK:=LH (show okC s.coms=true from hm.2.1)
   have e0:(0:Int)≤who:=by omega
   have e1:who < 8:=by omega
   have e2:0≤n:=by omega
   have e3:n≤1073741824:=by omega
   have HE:=LH (show (0≤who∧who < 8)∧0≤n∧n≤1073741824 from ⟨⟨e0,e1⟩,e2,e3⟩)
   clear h hT ha hm h4 ht hat hb e0 e1 e2 e3
   go_enter Tryz.func127,Tryz.ntmps127
   go_wp2_with fail
   go_region
   go_wp2_with fail
   refine Calls.mono (strTwin_any (s:=s) ?_ HF.out) ?_
   ·exact HS.out.below (by repeat (first|with_reducible (first|exact Below.refl _ _|apply Below.drew|apply below_alloc)|((first|with_reducible refine Below.alloc ?_ ?_ _|with_reducible refine Below.setCell ?_ ?_ _);rotate_left;focus (first|(simp <;> omega)|omega))))
   rintro e w1 ⟨ta,tc,rfl,os,hb⟩
   obtain ⟨a1,cap1,b1,nc1,cc1,ev,-,-⟩:=os.reads.shape
   cases ev
   clear d1 c0 c1 c2 c3
   have HB:Hid (Below w.heap.size w _):=below_step (by repeat (first|with_reducible (first|exact Below.refl _ _|apply Below.drew|apply below_alloc)|((first|with_reducible refine Below.alloc ?_ ?_ _|with_reducible refine Below.setCell ?_ ?_ _);rotate_left;focus (first|(simp <;> omega)|omega)))) hb
   have P:Blk _ (w.heap.size) _ _:=Blk.step (by repeat (first|((with_reducible apply Blk.new);focus (first|rfl|(simp <;> omega)))|with_reducible (first|apply Blk.drew|apply Blk.alloc|apply Blk.set_)|((with_reducible apply Blk.far);rotate_left;focus (first|(simp <;> omega)|omega)))) hb
   obtain ⟨p0,p1,pz⟩:=cells2 P
   have pl:=Blk.lt P
   have HP:=LH P
   clear P
   have HC:Hid (Blk w1 (w.heap.size+1) 79 [.int .u8 kind,.int .i64 mid,.slice ga gn gc,.int .i64 mt,.string mk,.string mb,.int .i64 id,.int .i64 time,.slice ma mn mc,.int .i64 (i:Int),.int .i64 who,.int .i64 n]):=Blk.step (by repeat (first|with_reducible exact Blk.new rfl|((with_reducible apply Blk.new);focus (first|rfl|(simp <;> omega)))|with_reducible (first|apply Blk.drew|apply Blk.alloc|apply Blk.set_)|((with_reducible apply Blk.far);rotate_left;focus (first|(simp <;> omega)|omega)))) hb
   have R:Blk _ (w.heap.size+2) _ _:=Blk.step (by repeat (first|((with_reducible apply Blk.new);focus (first|rfl|(simp <;> omega)))|with_reducible (first|apply Blk.drew|apply Blk.alloc|apply Blk.set_)|((with_reducible apply Blk.far);rotate_left;focus (first|(simp <;> omega)|omega)))) hb
   obtain ⟨r0,r1,rz⟩:=cells2 R
   have rl:=Blk.lt R
   have HR:=LH R
   clear R
   obtain ⟨⟨-,-,-,d9,d10,d11⟩,dz⟩:=cells12 HC.out
   have cl:=HC.out.lt
   obtain ⟨_,_,ev,ot,oc⟩:=os
   cases ev
   have OT:Hid (OwnT w1 (w.heap.size+3) _ _):=ot.le (by simp)
   have OC:Hid (OwnC w1 (w.heap.size+3) _ _):=OwnRows.le oc (by simp)
   clear hb ot oc
   go_wp2_with fail
   have OT1:=LH ((OT.out.far (b:=w.heap.size) (o:=0) (u:=.slice a1 s.tops.length cap1) (by omega)).far (b:=w.heap.size) (o:=1) (u:=.slice b1 nc1 cc1) (by omega))
   have OC1:=LH (OwnC.far (b:=w.heap.size) (o:=1) (u:=.slice b1 nc1 cc1) (OwnC.far (b:=w.heap.size) (o:=0) (u:=.slice a1 s.tops.length cap1) OC.out (by omega)) (by omega))
   refine Calls.mono (set_yes (m:=s.coms) (i:Int) who n OC1.out.reads HOK.out h0 h1 HE.out.1.1 HE.out.1.2 HE.out.2.1 HE.out.2.2) ?_
   rintro e w2 ⟨vc,rfl,oc,hb⟩
   obtain ⟨ac,nac,cac,rfl⟩:=oc.reads.shape
   have hz:w.heap.size+3≤w1.heap.size:=rl
   clear p0 p1 pz pl r0 r1 rz rl d9 d10 d11 dz cl
   have HB2:Hid (Below w.heap.size w _):=below_step (by repeat (first|with_reducible (first|exact HB.out|exact Below.refl _ _|apply Below.drew|apply below_alloc)|((first|with_reducible refine Below.alloc ?_ ?_ _|with_reducible refine Below.setCell ?_ ?_ _);rotate_left;focus (first|(simp <;> omega)|omega)))) hb
   have P:Blk _ (w.heap.size) _ _:=Blk.step (by repeat (first|with_reducible exact HP.out|((with_reducible apply Blk.new);focus (first|rfl|(simp <;> omega)))|with_reducible (first|apply Blk.drew|apply Blk.alloc|apply Blk.set_)|((with_reducible apply Blk.far);rotate_left;focus (first|(simp <;> omega)|omega)))) hb
   try simp only [List.set_cons_zero,List.set_cons_succ] at P
   obtain ⟨p0,p1,pz⟩:=cells2 P
   have pl:=Blk.lt P
   have HP:=LH P
   clear P
   have R:Blk _ (w.heap.size+2) _ _:=Blk.step (by repeat (first|with_reducible exact HR.out|((with_reducible apply Blk.new);focus (first|rfl|(simp <;> omega)))|with_reducible (first|apply Blk.drew|apply Blk.alloc|apply Blk.set_)|((with_reducible apply Blk.far);rotate_left;focus (first|(simp <;> omega)|omega)))) hb
   try simp only [List.set_cons_zero,List.set_cons_succ] at R
   obtain ⟨r0,r1,rz⟩:=cells2 R
   have rl:=Blk.lt R
   have HR:=LH R
   clear R
   have OT2:=LH (OT1.out.keep hb)
   have OC2:Hid (OwnC w2 (w.heap.size+3) _ _):=LH (OwnRows.le oc (by simp;omega))
   clear hb oc
   go_wp2_with fail
   have HP3:=HP.out.set_ 1 (.slice ac nac cac)
   have HR3:=HR.out.far (b:=w.heap.size) (o:=1) (by omega) (.slice ac nac cac)
   have OT3:=OT2.out.far (b:=w.heap.size) (o:=1) (u:=.slice ac nac cac) (by omega)
   have OC3:=OwnC.far (b:=w.heap.size) (o:=1) (u:=.slice ac nac cac) OC2.out (by omega)
   have HR4:=HR3.set_ 0 (.slice a1 s.tops.length cap1)
   obtain ⟨t0,t1,-⟩:=cells2 (HR4.set_ 1 (.slice ac nac cac))
   refine bodyPost_ret (v:=.tuple #[.agg #[.slice a1 s.tops.length cap1,.slice ac nac cac],.int .i64 0]) (by simp [results,Tryz.results127,go_sem,t0,t1]) rfl ⟨_,_,rfl,⟨_,_,rfl,?_,?_⟩,?_⟩
   ·exact OwnT.le ((OT3.far (by omega)).far (by omega)) (by omega)
   ·exact OwnRows.le (OwnC.far (OwnC.far OC3 (by omega)) (by omega)) (by omega)
   ·exact ((HB2.out.setCell (p:=⟨w.heap.size,1,none⟩) (by simp) _).setCell (p:=⟨w.heap.size+2,0,none⟩) (by simp) _).setCell (p:=⟨w.heap.size+2,1,none⟩) (by simp) _
end Go.Proofs.YtdfmcgekfogpbabGreatDoor
