/-
  Proved here: (*skeen.clock).deliver. Conditions: the ids of what waits rise and are command's reader: one kind of commands. No condition but the kind. command's reader: one kind of commands. No condition but the kind.
-/
import Derived.Test.YtkkohllhebdlcaaGreatDoorY16
import Derived.Test.YtkkohllhebdlcaaGreatDoorY19
import Derived.Deep.AppendLies
import Derived.WalkMore
set_option maxRecDepth 100000
namespace Go.Proofs.YtkkohllhebdlcaaGreatDoor
open Go.RowKit
def DlvEnd (w0:World) (g:Nat) (r:Sk × List PM) (e:Ending) (w':World):Prop:=∃ al cl,e=.returned (.slice al r.2.length cl)∧OwnMs w' w0.heap.size (.slice al r.2.length cl) r.2∧Ck w' w0.heap.size g r.1∧Below w0.heap.size w0 w'
theorem news_new (w:World) (t:TypeId) (cs:List Value):∀ j u,cs[j]?=some u→(w.alloc (.cells cs.toArray t)).cell? ((⟨w.heap.size,0,none⟩:Addr).add j)=some u:=fun j u hu=>by
 rw [Addr.add_lit,(Blk.new (w:=w) (t:=t) (cs:=cs) rfl).cell,Nat.zero_add]
 exact hu
set_option maxHeartbeats 16000000 in
set_option maxRecDepth 100000 in
theorem deliver_any {w0 w:World} {g:Nat} {s:Sk} {r:Sk × List PM} (h:Ck w w0.heap.size g s) (h0:Below w0.heap.size w0 w) (hg:w0.heap.size≤g) (hu:idsUp s.waits) (hl:s.waits.length+s.done.length≤100000) (hr:r=delS s.waits.length s []) :
  Calls Tryz.prog 55 #[.pointer (some ⟨g,0,none⟩)] w (DlvEnd w0 g r):=by
 obtain ⟨i0,hi,hz0,hz1,hz2⟩:=info_parts info_stp
 obtain ⟨i1,gi,gz0,gz1,gz2⟩:=info_parts info_msg
 obtain ⟨pl,a1,c1,b1,d1,hck⟩:=h
 obtain ⟨B,hB⟩:∃ B,B=w0.heap.size:=⟨_,rfl⟩
 have HBE:=LH hB
 rw [← hB] at hck h0 hg
 have HK:=LH hck
 have HB:=LH h0
 have HU:=LH hu
 have HL:=LH hl
 have HR:=LH hr
 have hBw:B≤w.heap.size:=by have:=h0.size;omega
 clear hck h0 hu hl hr hB
 go_enter Tryz.func55,Tryz.ntmps55
 go_wp2
 go_step3
 go_wp2
 go_step3
 go_wp2
 go_loopg [2,3,4,5] s.waits.length (fun gh lv _ _ _ wr=>∃ (ck:Int) (wl:List Wt) (dl:List (Int × Int)) (pl:List (Value × Wt)) (a1:Option Addr) (c1:Nat) (b1:Option Addr) (d1:Nat) (out:List PM) (al:Option Addr) (cl:Nat),gh=wl.length∧lv=.slice al out.length cl ∧
  Hid (CkR wr B g ⟨ck,wl,dl⟩ pl a1 c1 b1 d1)∧Hid (OwnMs wr B (.slice al out.length cl) out)∧Hid (idsUp wl)∧Hid (wl.length+dl.length≤100000)∧Hid (wl.length+out.length≤100000)∧Hid (r=delS wl.length ⟨ck,wl,dl⟩ out)∧Hid (Below B w0 wr))
 case atStart=>exact ⟨s.clock,s.waits,s.done,pl,a1,c1,b1,d1,[],none,0,rfl,rfl,HK,LH (OwnMs.nil _ _),HU,HL,LH (by have:=HL.out;simp;omega),HR,HB⟩
 case round =>
  clear HK HB HU HL HR hBw
  obtain ⟨ck,wl,dl,pl,a1,c1,b1,d1,out,al,cl,rfl,rfl,HK,HO,HU,HL,HM,HR,HB⟩:=hrel
  obtain ⟨n,hn⟩:∃ n,n=wl.length:=⟨_,rfl⟩
  obtain ⟨dn,hdn⟩:∃ dn,dn=dl.length:=⟨_,rfl⟩
  have hq:Blk wr g 130 [.int .i64 ck,.slice a1 n c1,.slice b1 dn d1]:=by rw [hn,hdn];exact HK.out.2.1
  have hpl:pl.map (·.2)=wl:=HK.out.1
  have hll:pl.length=n:=by rw [hn,← hpl,List.length_map]
  have hBw:B≤wr.heap.size:=by have h1:=HB.out.size;have h2:=HBE.out;omega
  obtain ⟨q0,q1,q2,qz⟩:=cells3 hq
  have ql:=hq.lt
  have HN:=LH hn
  have HDN:=LH hdn
  have HPL:=LH hpl
  have HQ:=LH hq
  try rw [← hn]
  by_cases hz:n=0
  ·subst hz
   have e:r=(⟨ck,wl,dl⟩,out):=by rw [HR.out,← hn];rfl
   have HE:=LH e
   clear e hn hdn hpl hll hq
   go_wp2_with fail
   go_ret
   exact ⟨al,cl,by rw [HE.out];rfl,by rw [HE.out];rw [← HBE.out];exact HO.out,by rw [HE.out,← HBE.out];exact ⟨_,_,_,_,_,HK.out⟩,by rw [← HBE.out];exact HB.out⟩
  ·cases pl with
   |nil=>simp at hll;omega
   |cons p0 pt =>
    obtain ⟨p,hp⟩:∃ p,p=minP p0 pt:=⟨_,rfl⟩
    have hpm:p∈p0 :: pt:=by rw [hp];exact minP_mem _ _
    obtain ⟨sa,sn,sc,hsl⟩:=isSl_own (HK.out.2.2.2.1 p hpm)
    have KM:Hid (∀ W,Below wr.heap.size wr W→Calls Tryz.prog 82 #[.slice a1 n c1,.func (.func 83) #[] #[]] W fun e w'=>e=.returned (pv p)∧Below W.heap.size W w'):=fun W hW=>by
     have:=min_any (w:=W) (r:=p) (HK.out.keep hW).wts hp
     rw [← hn] at this
     exact this
    obtain ⟨u,x⟩:=p
    simp only at hsl
    subst hsl
    have hx:x=minW p0.2 (pt.map (·.2)):=by have:=minP_snd p0 pt;rw [← hp] at this;exact this
    have hhas:hasW wl x.msg.id=true:=by
     rw [hasW,List.any_eq_true]
     exact ⟨x,by rw [← hpl];exact List.mem_map.2 ⟨_,hpm,rfl⟩,by simp⟩
    obtain ⟨P,hP⟩:∃ P,P=posW wl x.msg.id:=⟨_,rfl⟩
    have hPn:P < n:=by rw [hP,hn];exact posW_lt hhas
    have hsm:smallI x.msg.id:=HU.out.2 _ (by rw [← hpl];exact List.mem_map.2 ⟨_,hpm,rfl⟩)
    have KF:Hid (∀ W,Below wr.heap.size wr W→Calls Tryz.prog 84 #[.pointer (some ⟨g,0,none⟩),.int .i64 x.msg.id] W fun e W'=>e=.returned (.tuple #[.int .i64 (P:Nat),.bool true])∧Below W.heap.size W W'):=fun W hW=>by
     have:=find_any (w:=W) x.msg.id ((HK.out.keep hW).2.1.cell 1) (HK.out.keep hW).wts (by rw [hpl];exact HU.out) hsm (by have:=HL.out;omega)
     rw [hpl,← hP,hhas] at this
     exact this
    have HRR:Hid (r=if x.fin=true then delS (n - 1) ⟨ck,delW wl P,dl++[ofW x]⟩ (out++[x.msg]) else (⟨ck,wl,dl⟩,out)):=by
     obtain ⟨m,hm⟩:∃ m,n=m+1:=⟨n - 1,by omega⟩
     have h1:=HR.out
     rw [← hn,hm] at h1
     rw [hm]
     obtain ⟨y,l,hyl⟩:∃ y l,wl=y :: l:=⟨p0.2,pt.map (·.2),by rw [← hpl];rfl⟩
     have hyy:y=p0.2∧l=pt.map (·.2):=by rw [← hpl] at hyl;simpa [eq_comm] using hyl
     rw [delS] at h1
     simp only [hyl] at h1
     rw [hyy.1,hyy.2,← hx] at h1
     rw [hP,hyl]
     rw [hyy.1,hyy.2]
     exact h1
    have HPM:=LH hpm
    have hnn:(0:Int) < (n:Int):=by omega
    clear HR hx hhas hsm hP hp hn hdn hpl hll hq
    go_wp2_with fail
    refine (KM.out _ (by repeat (first|with_reducible (first|exact Below.refl _ _|apply Below.drew|apply below_alloc)|((first|with_reducible refine Below.alloc ?_ ?_ _|with_reducible refine Below.setCell ?_ ?_ _);rotate_left;focus (first|(simp <;> omega)|omega))))).mono ?_
    rintro e w1 ⟨rfl,hb⟩
    have HX1:Hid (Below wr.heap.size wr w1):=below_step (by repeat (first|with_reducible (first|exact Below.refl _ _|apply Below.drew|apply below_alloc)|((first|with_reducible refine Below.alloc ?_ ?_ _|with_reducible refine Below.setCell ?_ ?_ _);rotate_left;focus (first|(simp <;> omega)|omega)))) hb
    obtain ⟨⟨xi,xg,xt,xk,xb⟩,tm,fn⟩:=x
    have hpv:pv (.slice sa sn sc,(⟨⟨xi,xg,xt,xk,xb⟩,tm,fn⟩:Wt))=.agg #[.int .i64 xi,.slice sa sn sc,.int .i64 xt,.string xk,.string xb,.int .i64 tm,.bool fn]:=rfl
    rw [hpv]
    obtain ⟨q0,q1,q2,qz⟩:=cells3 (HQ.out.step HX1.out)
    have ql1:=(HQ.out.step HX1.out).lt
    simp only at KF HRR
    clear hb KM hpv hz
    cases fn
    case false =>
     have e:r=(⟨ck,wl,dl⟩,out):=by rw [HRR.out];rfl
     have HE:=LH e
     clear e HRR KF
     go_wp2_with fail
     go_ret
     have hXf:Below wr.heap.size wr _:=(HX1.out.alloc HX1.out.size (.cells #[.int .i64 xi,.slice sa sn sc,.int .i64 xt,.string xk,.string xb,.int .i64 tm,.bool false] 65))
     exact ⟨al,cl,by rw [HE.out];rfl,by rw [HE.out,← HBE.out];exact HO.out.keep hXf,by rw [HE.out,← HBE.out];exact ⟨_,_,_,_,_,HK.out.keep hXf⟩,by rw [← HBE.out];exact Below.step HB.out hXf hBw⟩
    go_wp2_with fail
    refine (KF.out _ (by repeat (first|with_reducible (first|exact HX1.out|exact Below.refl _ _|apply Below.drew|apply below_alloc)|((first|with_reducible refine Below.alloc ?_ ?_ _|with_reducible refine Below.setCell ?_ ?_ _);rotate_left;focus (first|(simp <;> omega)|omega))))).mono ?_
    rintro e w2 ⟨rfl,hb⟩
    have HX2:Hid (Below wr.heap.size wr w2):=below_step (by repeat (first|with_reducible (first|exact HX1.out|exact Below.refl _ _|apply Below.drew|apply below_alloc)|((first|with_reducible refine Below.alloc ?_ ?_ _|with_reducible refine Below.setCell ?_ ?_ _);rotate_left;focus (first|(simp <;> omega)|omega)))) hb
    have HL2:Hid (Blk w2 w1.heap.size 65 [.int .i64 xi,.slice sa sn sc,.int .i64 xt,.string xk,.string xb,.int .i64 tm,.bool true]):=LH (Blk.step (by repeat (first|with_reducible exact Blk.new rfl|((with_reducible apply Blk.new);focus (first|rfl|(simp <;> omega)))|with_reducible (first|apply Blk.drew|apply Blk.alloc|apply Blk.set_)|((with_reducible apply Blk.far);rotate_left;focus (first|(simp <;> omega)|omega)))) hb)
    have sl1:=HX1.out.size
    clear hb KF q0 q1 q2 qz ql1
    have hrow:=ownsRow_keep HK.out.2.2.1 HX2.out
    simp only [← HN.out] at hrow
    obtain ⟨g1,cp,hv⟩:=row_form hrow (by omega)
    obtain ⟨rfl,rfl⟩:a1=some ⟨g1,0,none⟩∧c1=cp:=by simpa using hv
    have hg1:g1 < wr.heap.size:=(HK.out.2.2.1.lt _ rfl).2
    have hB1:B≤g1:=(HK.out.2.2.1.lt _ rfl).1
    have hq2:=HQ.out.step HX2.out
    obtain ⟨q0,q1,q2,qz⟩:=cells3 hq2
    have ql2:=hq2.lt
    have hw1:IntKind.i64.wrap ((P:Int)+1)=(P:Int)+1:=by have:=HL.out;have:=HN.out;rw [IntKind.wrap_i64];omega
    have KDel:Hid (Calls Tryz.prog 88 #[.slice (some ⟨g1,0,none⟩) n c1,.int .i64 (P:Int),.int .i64 ((P:Int)+1)] w2 (DelEnd B g1 n c1 ((delW (p0 :: pt) P).flatMap wtCs) w2)):=del_any hrow (wtCs_one fun p hp=>isSl_own (HK.out.2.2.2.1 p hp)) hPn (del_flat wtCs_len _ P)
    have HROW:=LH hrow
    clear hv hrow
    go_wp2_with fail
    refine KDel.out.mono ?_
    rintro e w3 ⟨rfl,o3,g3⟩
    have hq3:=hq2.grown g3 (row_blk HROW.out hq2 (by decide))
    have HK4:Hid (CkR (w3.setCell ⟨g,1,none⟩ (.slice (some ⟨g1,0,none⟩) (n - 1) c1)) B g ⟨ck,delW wl P,dl⟩ (delW (p0 :: pt) P) (some ⟨g1,0,none⟩) c1 b1 d1):=CkR.waits (HK.out.keep HX2.out) g3 (by rw [delW_map,HPL.out]) (by rw [delW_len (by rw [← HN.out];exact hPn),← HN.out]) o3 (fun p hp=>OwnI.keep' (HK.out.2.2.2.1 p (delW_mem hp)) HX2.out)
    have hO3:OwnMs w3 B (.slice al out.length cl) out:=(HO.out.keep HX2.out).row HROW.out g3 (by decide) (by decide)
    have HO4:Hid (OwnMs (w3.setCell ⟨g,1,none⟩ (.slice (some ⟨g1,0,none⟩) (n - 1) c1)) B (.slice al out.length cl) out):=LH (hO3.blk hq3 (heap_set _ _ _ _) (by decide) (by decide))
    have hl3:=HL2.out.grown g3 (by simp;omega)
    have HL4:Hid (Blk (w3.setCell ⟨g,1,none⟩ (.slice (some ⟨g1,0,none⟩) (n - 1) c1)) w1.heap.size 65 [.int .i64 xi,.slice sa sn sc,.int .i64 xt,.string xk,.string xb,.int .i64 tm,.bool true]):=LH (hl3.far (by omega) _)
    have hU2:OwnI w2 B (.slice sa sn sc) xg:=OwnI.keep' (HK.out.2.2.2.1 _ HPM.out) HX2.out
    have hU3:OwnI w3 B (.slice sa sn sc) xg:=ownsRow_grown' hU2 g3 (fun _ hk=>rows_ne hU2 HROW.out (by decide) (by rw [← hk];rfl))
    have HU4:Hid (OwnI (w3.setCell ⟨g,1,none⟩ (.slice (some ⟨g1,0,none⟩) (n - 1) c1)) B (.slice sa sn sc) xg):=LH (row_far hU3 (heap_set _ _ _ _) (row_blk hU3 hq3 (by decide)))
    have HB4:Hid (Below B w0 (w3.setCell ⟨g,1,none⟩ (.slice (some ⟨g1,0,none⟩) (n - 1) c1))):=LH ((grown_below (Below.step HB.out HX2.out hBw) g3 (by have:=HX2.out.size;omega) (fun k hk=>by cases hk;exact hB1)).setCell hg _)
    obtain ⟨q0,q1,q2,qz⟩:=cells3 hq3
    have ql3:=hq3.lt
    have hgl:g≠w1.heap.size:=by have:=HQ.out.lt;omega
    clear hO3 hl3 hU2 hU3 o3 g3 hq2 hq3 KDel HROW hg1 hw1
    go_wp2_with fail
    generalize w3.setCell ⟨g,1,none⟩ (.slice (some ⟨g1,0,none⟩) (n - 1) c1)=w4 at HK4 HO4 HL4 HU4 HB4 ⊢
    clear q0 q1 q2 qz ql2 ql3
    have hdl:(delW wl P).length=n - 1:=by rw [delW_len (by rw [← HN.out];exact hPn),← HN.out]
    have HDL:=LH hdl
    have hq4:Blk w4 g 130 [.int .i64 ck,.slice (some ⟨g1,0,none⟩) (n - 1) c1,.slice b1 dn d1]:=by rw [← hdl,HDN.out];exact HK4.out.2.1
    have HD4:Hid (w4.ownsRow B 104 2 (.slice b1 dn d1) dn (dl.flatMap stCells)):=by rw [HDN.out];exact HK4.out.2.2.2.2
    have HQ4:=LH hq4
    obtain ⟨q0,q1,q2,qz⟩:=cells3 hq4
    obtain ⟨⟨⟨l0,l1,l2,l3⟩,l4,l5,l6⟩,lz⟩:=cells7 HL4.out
    have ql4:=hq4.lt
    have ll4:=HL4.out.lt
    have hdn:dn≤100000:=by have:=HL.out;have:=HDN.out;omega
    have hBw4:B≤w4.heap.size:=by have:=HB4.out.size;have:=HBE.out;omega
    have KO:Hid (∀ W,Calls Tryz.prog 81 #[.agg #[.int .i64 xi,.slice sa sn sc,.int .i64 xt,.string xk,.string xb,.int .i64 tm,.bool true]] W fun e W'=>e=.returned (.agg #[.int .i64 tm,.int .i64 xi])∧Below W.heap.size W W'):=fun W=>of_any sa sn sc ⟨⟨xi,xg,xt,xk,xb⟩,tm,true⟩ W
    have H1ST:Hid (∀ v∈stCells (tm,xi),v.oneCell'=true):=LH (fun v hv=>st_one [(tm,xi)] v (by simpa using hv))
    have m1:dn+1≤maxLen:=by unfold maxLen;omega
    have m2:(dn+1) * 16≤140737488355328:=by omega
    clear hq4 hdl
    go_region_law (first
     |(go_simp;go_at_call 81;refine (KO.out _).mono ?_;rintro e w5 ⟨rfl,hb⟩;have HX5:Hid (Below w4.heap.size w4 w5):=below_step (by repeat (first|with_reducible (first|exact Below.refl _ _|apply Below.drew|apply below_alloc)|((first|with_reducible refine Below.alloc ?_ ?_ _|with_reducible refine Below.setCell ?_ ?_ _);rotate_left;focus (first|(simp <;> omega)|omega)))) hb;have HQ5:=LH (HQ4.out.step HX5.out);have HL5:=LH (HL4.out.step HX5.out);have sl5:=HX5.out.size;have ql5:=HQ5.out.lt;have ll5:=HL5.out.lt;obtain ⟨n0,n1,n2,nz⟩:=cells3 HQ5.out;obtain ⟨⟨⟨k0,k1,k2,k3⟩,k4,k5,k6⟩,kz⟩:=cells7 HL5.out;have HA5:=LH (ownsRow_keep HD4.out HX5.out);clear hb)
     |(refine step_append_lies _ rfl _ _ 30 rfl B 104 i0 _ 2 16 Tryz.underlying30 hi hz0 hz1 hz2 rfl (by decide) _ dn _ rfl (HA5.out.alloc _) ⟨w5.heap.size,0,none⟩ 1 1 (stCells (tm,xi)) rfl rfl (news_new _ _ _) H1ST.out (by decide) m1 m2 (by simp;omega) _ rfl ?_;intro g6 cap6 w6 hown hgrow hat6 hlt6;have HOWN:=LH hown;have HGROW:=LH hgrow;have hq6:=(HQ5.out.alloc _).grown hgrow (row_blk HA5.out HQ5.out (by decide));obtain ⟨n0,n1,n2,nz⟩:=cells3 hq6;have nl6:=hq6.lt;have HQ6:=LH hq6;clear hown hgrow hq6))
    all_goals
     have hWW:Below w4.heap.size w4 (w5.alloc (.cells #[.int .i64 tm,.int .i64 xi] 104)):=HX5.out.alloc sl5 _
     have hDW:=ownsRow_keep HD4.out hWW
     have HK7:Hid (CkR (w6.setCell ⟨g,2,none⟩ (.slice (some ⟨g6,0,none⟩) (dn+1) cap6)) B g ⟨ck,delW wl P,dl++[(tm,xi)]⟩ (delW (p0 :: pt) P) (some ⟨g1,0,none⟩) c1 (some ⟨g6,0,none⟩) cap6) :=
      CkR.dones (HK4.out.keep hWW) (by have:=HGROW.out;rw [HDN.out] at this;exact this) (by rw [List.length_append,HDN.out];rfl) (by have:=HOWN.out;simpa [List.flatMap_append] using this)
     have hO6:OwnMs w6 B (.slice al out.length cl) out:=(HO4.out.keep hWW).row hDW HGROW.out (by decide) (by decide)
     have HO7:Hid (OwnMs (w6.setCell ⟨g,2,none⟩ (.slice (some ⟨g6,0,none⟩) (dn+1) cap6)) B (.slice al out.length cl) out):=LH (hO6.blk HQ6.out (heap_set _ _ _ _) (by decide) (by decide))
     have hl6:=(HL4.out.step hWW).grown HGROW.out (row_blk hDW (HL4.out.step hWW) (by decide))
     have HL7:Hid (Blk (w6.setCell ⟨g,2,none⟩ (.slice (some ⟨g6,0,none⟩) (dn+1) cap6)) w1.heap.size 65 [.int .i64 xi,.slice sa sn sc,.int .i64 xt,.string xk,.string xb,.int .i64 tm,.bool true]):=LH (hl6.far (by omega) _)
     have hU6:OwnI w6 B (.slice sa sn sc) xg:=ownsRow_grown' (HU4.out.keep' hWW) HGROW.out (fun _ hk=>rows_ne (HU4.out.keep' hWW) hDW (by decide) hk)
     have HU7:Hid (OwnI (w6.setCell ⟨g,2,none⟩ (.slice (some ⟨g6,0,none⟩) (dn+1) cap6)) B (.slice sa sn sc) xg):=LH (row_far hU6 (heap_set _ _ _ _) (row_blk hU6 HQ6.out (by decide)))
     have HB7:Hid (Below B w0 (w6.setCell ⟨g,2,none⟩ (.slice (some ⟨g6,0,none⟩) (dn+1) cap6))):=LH ((grown_below (Below.step HB4.out hWW hBw4) HGROW.out (by have:=hWW.size;omega) (fun k hk=>(HD4.out.lt k hk).1)).setCell hg _)
     obtain ⟨⟨⟨k0,k1,k2,k3⟩,k4,k5,k6⟩,kz⟩:=cells7 hl6
     clear hWW hDW hO6 hl6 hU6 HX5 HQ5 HL5 HA5 HOWN HGROW HK4 HO4 HL4 HU4 HB4 HQ4 HD4
     go_upto_region 7 with fail
     have HQ7:Hid (Blk (w6.setCell ⟨g,2,none⟩ (.slice (some ⟨g6,0,none⟩) (dn+1) cap6)) g 130 _):=LH (HQ6.out.set_ 2 _)
     generalize w6.setCell ⟨g,2,none⟩ (.slice (some ⟨g6,0,none⟩) (dn+1) cap6)=w7 at HK7 HO7 HL7 HU7 HB7 HQ7 ⊢
     obtain ⟨⟨⟨h0,h1,h2,h3⟩,h4,h5,h6⟩,hz⟩:=cells7 HL7.out
     have hl7:=HL7.out.lt
     have hBw7:B≤w7.heap.size:=by have:=HB7.out.size;have:=HBE.out;omega
     obtain ⟨ml,hm1,hm2,hm3⟩:=HO7.out
     have HM1:=LH hm1
     have HM2:=LH hm2
     have HM3:=LH hm3
     have hol:out.length+1≤200000:=by have:=HM.out;have:=HN.out;omega
     have m3:out.length+1≤maxLen:=by unfold maxLen;omega
     have m4:(out.length+1) * 72≤140737488355328:=by omega
     have hmo:∀ v∈msgC (.slice sa sn sc,(⟨xi,xg,xt,xk,xb⟩:PM)),v.oneCell'=true:=by
      intro v hv
      simp only [msgC,msgCs,List.mem_cons,List.not_mem_nil,or_false] at hv
      rcases hv with rfl|rfl|rfl|rfl|rfl <;> rfl
     have HMO:=LH hmo
     clear hm1 hm2 hm3 hmo k0 k1 k2 k3 k4 k5 k6 kz m1 m2 H1ST
     go_wp2_with (at_builtin;refine wpList_append_own _ rfl _ _ 59 rfl B 56 i1 _ 5 72 Tryz.underlying59 gi gz0 gz1 gz2 rfl (by decide) _ out.length _ rfl (HM2.out.alloc _) ⟨w7.heap.size,0,none⟩ 1 1 (msgC (.slice sa sn sc,(⟨xi,xg,xt,xk,xb⟩:PM))) rfl rfl (news_new _ _ _) HMO.out m3 m4 (by simp;omega) ?_)
     intro v8 w8 hown hgrow _
     obtain ⟨a8,c8,rfl⟩:=row_shape hown
     have hWA:Below w7.heap.size w7 (w7.alloc (.cells #[.int .i64 xi,.slice sa sn sc,.int .i64 xt,.string xk,.string xb] 56)):=(Below.refl _ _).alloc (Nat.le_refl _) _
     have HO8:Hid (OwnMs w8 B (.slice a8 (out.length+1) c8) (out++[⟨xi,xg,xt,xk,xb⟩])):=LH (OwnMs.snoc HM1.out (HM2.out.alloc _) (fun p hp=>ownsRow_keep (HM3.out p hp) hWA) (ownsRow_keep HU7.out hWA) hgrow hown rfl)
     have HK8:=LH ((HK7.out.keep hWA).row (HM2.out.alloc _) hgrow (by decide) (by decide) (by decide) (by decide))
     have HB8:Hid (Below B w0 w8):=LH (grown_below (Below.step HB7.out hWA hBw7) hgrow (by have:=hWA.size;omega) (fun k hk=>(HM2.out.lt k hk).1))
     clear hWA hown hgrow
     go_wp2_with fail
     go_roundg (n - 1)
     case measure=>have:=HN.out;omega
     case rel =>
      refine ⟨ck,delW wl P,dl++[(tm,xi)],_,_,_,_,_,out++[⟨xi,xg,xt,xk,xb⟩],a8,c8,HDL.out.symm,by rw [List.length_append];rfl,HK8,?_,LH (idsUp_del HU.out),?_,?_,?_,HB8⟩
      ·rw [List.length_append];exact HO8
      ·refine LH ?_
       have:=HL.out;have:=HN.out
       rw [HDL.out,List.length_append];simp;omega
      ·refine LH ?_
       have:=HM.out;have:=HN.out
       rw [HDL.out,List.length_append];simp;omega
      ·refine LH ?_
       rw [HDL.out,HRR.out]
       rfl
set_option maxHeartbeats 8000000 in
set_option maxRecDepth 100000 in
theorem rd_k3 {w0 w:World} {g:Nat} {l:List Int} {o:Bool} {k:Int} (h:RdS w0 w g l o) (hk:k=min (nN l) 255) (hkk:k=3) {c:PC} {l':List Int} {o':Bool} (hr:rd3 (nL l) (nO l o)=(c,l',o')) :
  Calls Tryz.prog 62 #[.pointer (some ⟨g,0,none⟩)] w (RdCEnd w0 g c l' o' w):=by
 obtain ⟨n0,hn0⟩:∃ n,n=nN l:=⟨_,rfl⟩
 obtain ⟨l0,hl0⟩:∃ x,x=nL l:=⟨_,rfl⟩
 obtain ⟨o0,ho0⟩:∃ x,x=nO l o:=⟨_,rfl⟩
 have hpos:=nN_pos l
 rw [← hn0] at hk hpos
 rw [← hl0,← ho0] at hr
 have gl:g < w.heap.size:=by obtain ⟨_,_,hb,_⟩:=h;exact hb.lt
 have HR:=LH hr
 have RD:=LH h
 have HN0:=LH hn0
 have HL0:=LH hl0
 have HO0:=LH ho0
 clear h hr hn0 hl0 ho0
 obtain rfl:n0=3:=by omega
 clear hpos
 go_enter Tryz.func62,Tryz.ntmps62
 go_wp2_with fail
 refine Calls.mono (numbers_any (RD.out.keep (below_alloc (Below.refl _ _))) HN0.out HL0.out HO0.out) ?_
 rintro e w1 ⟨rfl,hrd,hf⟩
 have HZ:Hid (Blk w1 w.heap.size 58 [.int .u8 0,.int .i64 0,.slice none 0 0,.int .i64 0,.string ⟨#[]⟩,.string ⟨#[]⟩,.int .i64 0,.int .i64 0,.slice none 0 0,.int .i64 0,.int .i64 0,.int .i64 0]):=LH ((Blk.new rfl).frG hf (by omega))
 have FR:=LH (FrG.down (below_alloc (Below.refl _ _)) hf (Nat.le_of_lt gl))
 have RD:=LH hrd
 have s1:w.heap.size < w1.heap.size:=HZ.out.lt
 clear hrd hf
 go_wp2_with fail
 have HC:Hid (Blk (w1.alloc (.cells #[.int .u8 3,.int .i64 0,.slice none 0 0,.int .i64 0,.string ⟨#[]⟩,.string ⟨#[]⟩,.int .i64 0,.int .i64 0,.slice none 0 0,.int .i64 0,.int .i64 0,.int .i64 0] 58)) w1.heap.size 58 [.int .u8 3,.int .i64 0,.slice none 0 0,.int .i64 0,.string ⟨#[]⟩,.string ⟨#[]⟩,.int .i64 0,.int .i64 0,.slice none 0 0,.int .i64 0,.int .i64 0,.int .i64 0]):=LH (Blk.new rfl)
 replace HZ:Hid (Blk (w1.alloc (.cells #[.int .u8 3,.int .i64 0,.slice none 0 0,.int .i64 0,.string ⟨#[]⟩,.string ⟨#[]⟩,.int .i64 0,.int .i64 0,.slice none 0 0,.int .i64 0,.int .i64 0,.int .i64 0] 58)) w.heap.size 58 [.int .u8 0,.int .i64 0,.slice none 0 0,.int .i64 0,.string ⟨#[]⟩,.string ⟨#[]⟩,.int .i64 0,.int .i64 0,.slice none 0 0,.int .i64 0,.int .i64 0,.int .i64 0]):=LH (Blk.alloc HZ.out _)
 replace RD:Hid (RdS w0 (w1.alloc (.cells #[.int .u8 3,.int .i64 0,.slice none 0 0,.int .i64 0,.string ⟨#[]⟩,.string ⟨#[]⟩,.int .i64 0,.int .i64 0,.slice none 0 0,.int .i64 0,.int .i64 0,.int .i64 0] 58)) g l0 o0):=LH (RD.out.keep (below_alloc (Below.refl _ _)))
 replace FR:Hid (FrG g w (w1.alloc (.cells #[.int .u8 3,.int .i64 0,.slice none 0 0,.int .i64 0,.string ⟨#[]⟩,.string ⟨#[]⟩,.int .i64 0,.int .i64 0,.slice none 0 0,.int .i64 0,.int .i64 0,.int .i64 0] 58))):=LH (FR.out.up (below_alloc (Below.refl _ _)) (Nat.le_of_lt gl))
 try rw [show min (3:Int) 255=3 from rfl]
 generalize hW:w1.alloc (.cells #[.int .u8 3,.int .i64 0,.slice none 0 0,.int .i64 0,.string ⟨#[]⟩,.string ⟨#[]⟩,.int .i64 0,.int .i64 0,.slice none 0 0,.int .i64 0,.int .i64 0,.int .i64 0] 58)=W0 at HC HZ RD FR ⊢
 have sc:=HC.out.lt
 clear hW
 obtain ⟨⟨⟨c0,c1,c2,c3⟩,⟨c4,c5,c6,c7⟩,c8,c9,c10,c11⟩,cz⟩:=cells12 HC.out
 obtain ⟨n1,hn1⟩:∃ n,n=iN 6 l0:=⟨_,rfl⟩
 obtain ⟨l1,hl1⟩:∃ x,x=iL 6 l0:=⟨_,rfl⟩
 obtain ⟨o1,ho1⟩:∃ x,x=iO 6 l0 o0:=⟨_,rfl⟩
 have HN1:=LH hn1
 have HL1:=LH hl1
 have HO1:=LH ho1
 clear hn1 hl1 ho1
 go_wp2_with fail
 refine Calls.mono (ints_any 6 (by decide) (by decide) RD.out HN1.out HL1.out HO1.out) ?_
 rintro e v1_ ⟨ra1,rc1,rfl,oi,hrd,hf⟩
 obtain ⟨m1,hm1⟩:∃ x,x=n1.length:=⟨_,rfl⟩
 rw [← hm1] at oi ⊢
 have HM1:=LH hm1
 have OI1:=LH oi
 clear oi hm1
 replace HC:=LH (HC.out.frG hf (by omega))
 replace HZ:=LH (HZ.out.frG hf (by omega))
 replace FR:=LH (FR.out.trans hf)
 replace RD:=LH hrd
 have z1:W0.heap.size≤v1_.heap.size:=hf.1.size
 clear hrd hf c0 c1 c2 c3 c4 c5 c6 c7 c8 c9 c10 c11 cz
 obtain ⟨⟨⟨c0,c1,c2,c3⟩,⟨c4,c5,c6,c7⟩,c8,c9,c10,c11⟩,cz⟩:=cells12 HC.out
 have sc1:=HC.out.lt
 have HC1:Hid (Blk (v1_.setCell ⟨w1.heap.size,8,none⟩ (.slice ra1 m1 rc1)) w1.heap.size 58 [.int .u8 3,.int .i64 0,.slice none 0 0,.int .i64 0,.string ⟨#[]⟩,.string ⟨#[]⟩,.int .i64 0,.int .i64 0,.slice ra1 m1 rc1,.int .i64 0,.int .i64 0,.int .i64 0]):=LH (HC.out.set_ 8 (.slice ra1 m1 rc1))
 have HZ1:Hid (Blk (v1_.setCell ⟨w1.heap.size,8,none⟩ (.slice ra1 m1 rc1)) w.heap.size 58 [.int .u8 0,.int .i64 0,.slice none 0 0,.int .i64 0,.string ⟨#[]⟩,.string ⟨#[]⟩,.int .i64 0,.int .i64 0,.slice none 0 0,.int .i64 0,.int .i64 0,.int .i64 0]):=LH (HZ.out.far (b:=w1.heap.size) (o:=8) (by omega) (.slice ra1 m1 rc1))
 have RD1:Hid (RdS w0 (v1_.setCell ⟨w1.heap.size,8,none⟩ (.slice ra1 m1 rc1)) g l1 o1):=LH (RD.out.far (by omega))
 have FR1:Hid (FrG g w (v1_.setCell ⟨w1.heap.size,8,none⟩ (.slice ra1 m1 rc1))):=LH (FR.out.set_ (Nat.le_of_lt gl) (by omega))
 have OJ1:Hid (OwnI (v1_.setCell ⟨w1.heap.size,8,none⟩ (.slice ra1 m1 rc1)) W0.heap.size (.slice ra1 m1 rc1) n1):=LH (OI1.out.far (by omega))
 have zs1:(v1_.setCell ⟨w1.heap.size,8,none⟩ (.slice ra1 m1 rc1)).heap.size=v1_.heap.size:=by simp
 clear HC HZ RD FR OI1
 have HC:=HC1
 have HZ:=HZ1
 have RD:=RD1
 have FR:=FR1
 clear HC1 HZ1 RD1 FR1
 have OI1:=OJ1
 clear OJ1
 go_upto_region 23 with fail
 generalize hW:(v1_.setCell ⟨w1.heap.size,8,none⟩ (.slice ra1 m1 rc1))=W1 at HC HZ RD FR zs1 OI1 ⊢
 clear hW c0 c1 c2 c3 c4 c5 c6 c7 c8 c9 c10 c11 cz
 obtain ⟨⟨⟨c0,c1,c2,c3⟩,⟨c4,c5,c6,c7⟩,c8,c9,c10,c11⟩,cz⟩:=cells12 HC.out
 have sd1:=HC.out.lt
 obtain rfl:=HM1.out
 have hfin:=HR.out
 rw [show rd3 l0 o0=(⟨3,default,0,0,n1,0,0,0⟩,l1,o1) by rw [HO1.out,HL1.out,HN1.out];rfl] at hfin
 cases hfin
 obtain ⟨⟨⟨e0,e1,e2,e3⟩,⟨e4,e5,e6,e7⟩,e8,e9,e10,e11⟩,ez⟩:=cells12 HZ.out
 have el:=HZ.out.lt
 go_wp2_with fail
 obtain ⟨⟨⟨t0,t1_,t2,t3⟩,⟨t4,t5,t6,t7⟩,t8,t9,t10,t11⟩,-⟩:=cells12 (blk_put12 HZ.out (.int .u8 3) (.int .i64 0) (.slice none 0 0) (.int .i64 0) (.string ⟨#[]⟩) (.string ⟨#[]⟩) (.int .i64 0) (.int .i64 0) (.slice ra1 n1.length rc1) (.int .i64 0) (.int .i64 0) (.int .i64 0))
 exact bodyPost_ret (v:=.agg #[.int .u8 3,.int .i64 0,.slice none 0 0,.int .i64 0,.string ⟨#[]⟩,.string ⟨#[]⟩,.int .i64 0,.int .i64 0,.slice ra1 n1.length rc1,.int .i64 0,.int .i64 0,.int .i64 0]) (by simp [results,Tryz.results62,go_sem,t0,t1_,t2,t3,t4,t5,t6,t7,t8,t9,t10,t11]) rfl ⟨_,rfl,⟨none,0,ra1,rc1,rfl,ownI_nil _ _,(OwnI.le ((((((((((((OI1.out.far (b:=w.heap.size) (o:=0) (u:=.int .u8 3) (by omega)).far (b:=w.heap.size) (o:=1) (u:=.int .i64 0) (by omega)).far (b:=w.heap.size) (o:=2) (u:=.slice none 0 0) (by omega)).far (b:=w.heap.size) (o:=3) (u:=.int .i64 0) (by omega)).far (b:=w.heap.size) (o:=4) (u:=.string ⟨#[]⟩) (by omega)).far (b:=w.heap.size) (o:=5) (u:=.string ⟨#[]⟩) (by omega)).far (b:=w.heap.size) (o:=6) (u:=.int .i64 0) (by omega)).far (b:=w.heap.size) (o:=7) (u:=.int .i64 0) (by omega)).far (b:=w.heap.size) (o:=8) (u:=.slice ra1 n1.length rc1) (by omega)).far (b:=w.heap.size) (o:=9) (u:=.int .i64 0) (by omega)).far (b:=w.heap.size) (o:=10) (u:=.int .i64 0) (by omega)).far (b:=w.heap.size) (o:=11) (u:=.int .i64 0) (by omega)) (by omega))⟩,((((((((((((RD.out.far (b:=w.heap.size) (o:=0) (v:=.int .u8 3) gl).far (b:=w.heap.size) (o:=1) (v:=.int .i64 0) gl).far (b:=w.heap.size) (o:=2) (v:=.slice none 0 0) gl).far (b:=w.heap.size) (o:=3) (v:=.int .i64 0) gl).far (b:=w.heap.size) (o:=4) (v:=.string ⟨#[]⟩) gl).far (b:=w.heap.size) (o:=5) (v:=.string ⟨#[]⟩) gl).far (b:=w.heap.size) (o:=6) (v:=.int .i64 0) gl).far (b:=w.heap.size) (o:=7) (v:=.int .i64 0) gl).far (b:=w.heap.size) (o:=8) (v:=.slice ra1 n1.length rc1) gl).far (b:=w.heap.size) (o:=9) (v:=.int .i64 0) gl).far (b:=w.heap.size) (o:=10) (v:=.int .i64 0) gl).far (b:=w.heap.size) (o:=11) (v:=.int .i64 0) gl),((((((((((((FR.out.set_ (b:=w.heap.size) (o:=0) (v:=.int .u8 3) (Nat.le_of_lt gl) (Nat.le_refl _)).set_ (b:=w.heap.size) (o:=1) (v:=.int .i64 0) (Nat.le_of_lt gl) (Nat.le_refl _)).set_ (b:=w.heap.size) (o:=2) (v:=.slice none 0 0) (Nat.le_of_lt gl) (Nat.le_refl _)).set_ (b:=w.heap.size) (o:=3) (v:=.int .i64 0) (Nat.le_of_lt gl) (Nat.le_refl _)).set_ (b:=w.heap.size) (o:=4) (v:=.string ⟨#[]⟩) (Nat.le_of_lt gl) (Nat.le_refl _)).set_ (b:=w.heap.size) (o:=5) (v:=.string ⟨#[]⟩) (Nat.le_of_lt gl) (Nat.le_refl _)).set_ (b:=w.heap.size) (o:=6) (v:=.int .i64 0) (Nat.le_of_lt gl) (Nat.le_refl _)).set_ (b:=w.heap.size) (o:=7) (v:=.int .i64 0) (Nat.le_of_lt gl) (Nat.le_refl _)).set_ (b:=w.heap.size) (o:=8) (v:=.slice ra1 n1.length rc1) (Nat.le_of_lt gl) (Nat.le_refl _)).set_ (b:=w.heap.size) (o:=9) (v:=.int .i64 0) (Nat.le_of_lt gl) (Nat.le_refl _)).set_ (b:=w.heap.size) (o:=10) (v:=.int .i64 0) (Nat.le_of_lt gl) (Nat.le_refl _)).set_ (b:=w.heap.size) (o:=11) (v:=.int .i64 0) (Nat.le_of_lt gl) (Nat.le_refl _))⟩
set_option maxHeartbeats 8000000 in
set_option maxRecDepth 100000 in
theorem rd_k5 {w0 w:World} {g:Nat} {l:List Int} {o:Bool} {k:Int} (h:RdS w0 w g l o) (hk:k=min (nN l) 255) (hkk:k=5) {c:PC} {l':List Int} {o':Bool} (hr:rd56 5 (nL l) (nO l o)=(c,l',o')) :
  Calls Tryz.prog 62 #[.pointer (some ⟨g,0,none⟩)] w (RdCEnd w0 g c l' o' w):=by
 obtain ⟨n0,hn0⟩:∃ n,n=nN l:=⟨_,rfl⟩
 obtain ⟨l0,hl0⟩:∃ x,x=nL l:=⟨_,rfl⟩
 obtain ⟨o0,ho0⟩:∃ x,x=nO l o:=⟨_,rfl⟩
 have hpos:=nN_pos l
 rw [← hn0] at hk hpos
 rw [← hl0,← ho0] at hr
 have gl:g < w.heap.size:=by obtain ⟨_,_,hb,_⟩:=h;exact hb.lt
 have HR:=LH hr
 have RD:=LH h
 have HN0:=LH hn0
 have HL0:=LH hl0
 have HO0:=LH ho0
 clear h hr hn0 hl0 ho0
 obtain rfl:n0=5:=by omega
 clear hpos
 go_enter Tryz.func62,Tryz.ntmps62
 go_wp2_with fail
 refine Calls.mono (numbers_any (RD.out.keep (below_alloc (Below.refl _ _))) HN0.out HL0.out HO0.out) ?_
 rintro e w1 ⟨rfl,hrd,hf⟩
 have HZ:Hid (Blk w1 w.heap.size 58 [.int .u8 0,.int .i64 0,.slice none 0 0,.int .i64 0,.string ⟨#[]⟩,.string ⟨#[]⟩,.int .i64 0,.int .i64 0,.slice none 0 0,.int .i64 0,.int .i64 0,.int .i64 0]):=LH ((Blk.new rfl).frG hf (by omega))
 have FR:=LH (FrG.down (below_alloc (Below.refl _ _)) hf (Nat.le_of_lt gl))
 have RD:=LH hrd
 have s1:w.heap.size < w1.heap.size:=HZ.out.lt
 clear hrd hf
 go_wp2_with fail
 have HC:Hid (Blk (w1.alloc (.cells #[.int .u8 5,.int .i64 0,.slice none 0 0,.int .i64 0,.string ⟨#[]⟩,.string ⟨#[]⟩,.int .i64 0,.int .i64 0,.slice none 0 0,.int .i64 0,.int .i64 0,.int .i64 0] 58)) w1.heap.size 58 [.int .u8 5,.int .i64 0,.slice none 0 0,.int .i64 0,.string ⟨#[]⟩,.string ⟨#[]⟩,.int .i64 0,.int .i64 0,.slice none 0 0,.int .i64 0,.int .i64 0,.int .i64 0]):=LH (Blk.new rfl)
 replace HZ:Hid (Blk (w1.alloc (.cells #[.int .u8 5,.int .i64 0,.slice none 0 0,.int .i64 0,.string ⟨#[]⟩,.string ⟨#[]⟩,.int .i64 0,.int .i64 0,.slice none 0 0,.int .i64 0,.int .i64 0,.int .i64 0] 58)) w.heap.size 58 [.int .u8 0,.int .i64 0,.slice none 0 0,.int .i64 0,.string ⟨#[]⟩,.string ⟨#[]⟩,.int .i64 0,.int .i64 0,.slice none 0 0,.int .i64 0,.int .i64 0,.int .i64 0]):=LH (Blk.alloc HZ.out _)
 replace RD:Hid (RdS w0 (w1.alloc (.cells #[.int .u8 5,.int .i64 0,.slice none 0 0,.int .i64 0,.string ⟨#[]⟩,.string ⟨#[]⟩,.int .i64 0,.int .i64 0,.slice none 0 0,.int .i64 0,.int .i64 0,.int .i64 0] 58)) g l0 o0):=LH (RD.out.keep (below_alloc (Below.refl _ _)))
 replace FR:Hid (FrG g w (w1.alloc (.cells #[.int .u8 5,.int .i64 0,.slice none 0 0,.int .i64 0,.string ⟨#[]⟩,.string ⟨#[]⟩,.int .i64 0,.int .i64 0,.slice none 0 0,.int .i64 0,.int .i64 0,.int .i64 0] 58))):=LH (FR.out.up (below_alloc (Below.refl _ _)) (Nat.le_of_lt gl))
 try rw [show min (5:Int) 255=5 from rfl]
 generalize hW:w1.alloc (.cells #[.int .u8 5,.int .i64 0,.slice none 0 0,.int .i64 0,.string ⟨#[]⟩,.string ⟨#[]⟩,.int .i64 0,.int .i64 0,.slice none 0 0,.int .i64 0,.int .i64 0,.int .i64 0] 58)=W0 at HC HZ RD FR ⊢
 have sc:=HC.out.lt
 clear hW
 obtain ⟨⟨⟨c0,c1,c2,c3⟩,⟨c4,c5,c6,c7⟩,c8,c9,c10,c11⟩,cz⟩:=cells12 HC.out
 obtain ⟨n1,hn1⟩:∃ n,n=nN l0:=⟨_,rfl⟩
 obtain ⟨l1,hl1⟩:∃ x,x=nL l0:=⟨_,rfl⟩
 obtain ⟨o1,ho1⟩:∃ x,x=nO l0 o0:=⟨_,rfl⟩
 have HN1:=LH hn1
 have HL1:=LH hl1
 have HO1:=LH ho1
 clear hn1 hl1 ho1
 go_wp2_with fail
 refine Calls.mono (numbers_any RD.out HN1.out HL1.out HO1.out) ?_
 rintro e v1_ ⟨rfl,hrd,hf⟩
 replace HC:=LH (HC.out.frG hf (by omega))
 replace HZ:=LH (HZ.out.frG hf (by omega))
 replace FR:=LH (FR.out.trans hf)
 replace RD:=LH hrd
 have z1:W0.heap.size≤v1_.heap.size:=hf.1.size
 clear hrd hf c0 c1 c2 c3 c4 c5 c6 c7 c8 c9 c10 c11 cz
 obtain ⟨⟨⟨c0,c1,c2,c3⟩,⟨c4,c5,c6,c7⟩,c8,c9,c10,c11⟩,cz⟩:=cells12 HC.out
 have sc1:=HC.out.lt
 have HC1:Hid (Blk (v1_.setCell ⟨w1.heap.size,6,none⟩ (.int .i64 n1)) w1.heap.size 58 [.int .u8 5,.int .i64 0,.slice none 0 0,.int .i64 0,.string ⟨#[]⟩,.string ⟨#[]⟩,.int .i64 n1,.int .i64 0,.slice none 0 0,.int .i64 0,.int .i64 0,.int .i64 0]):=LH (HC.out.set_ 6 (.int .i64 n1))
 have HZ1:Hid (Blk (v1_.setCell ⟨w1.heap.size,6,none⟩ (.int .i64 n1)) w.heap.size 58 [.int .u8 0,.int .i64 0,.slice none 0 0,.int .i64 0,.string ⟨#[]⟩,.string ⟨#[]⟩,.int .i64 0,.int .i64 0,.slice none 0 0,.int .i64 0,.int .i64 0,.int .i64 0]):=LH (HZ.out.far (b:=w1.heap.size) (o:=6) (by omega) (.int .i64 n1))
 have RD1:Hid (RdS w0 (v1_.setCell ⟨w1.heap.size,6,none⟩ (.int .i64 n1)) g l1 o1):=LH (RD.out.far (by omega))
 have FR1:Hid (FrG g w (v1_.setCell ⟨w1.heap.size,6,none⟩ (.int .i64 n1))):=LH (FR.out.set_ (Nat.le_of_lt gl) (by omega))
 have zs1:(v1_.setCell ⟨w1.heap.size,6,none⟩ (.int .i64 n1)).heap.size=v1_.heap.size:=by simp
 clear HC HZ RD FR
 have HC:=HC1
 have HZ:=HZ1
 have RD:=RD1
 have FR:=FR1
 clear HC1 HZ1 RD1 FR1
 go_upto_region 19 with fail
 generalize hW:(v1_.setCell ⟨w1.heap.size,6,none⟩ (.int .i64 n1))=W1 at HC HZ RD FR zs1 ⊢
 clear hW c0 c1 c2 c3 c4 c5 c6 c7 c8 c9 c10 c11 cz
 obtain ⟨⟨⟨c0,c1,c2,c3⟩,⟨c4,c5,c6,c7⟩,c8,c9,c10,c11⟩,cz⟩:=cells12 HC.out
 have sd1:=HC.out.lt
 obtain ⟨n2,hn2⟩:∃ n,n=nN l1:=⟨_,rfl⟩
 obtain ⟨l2,hl2⟩:∃ x,x=nL l1:=⟨_,rfl⟩
 obtain ⟨o2,ho2⟩:∃ x,x=nO l1 o1:=⟨_,rfl⟩
 have HN2:=LH hn2
 have HL2:=LH hl2
 have HO2:=LH ho2
 clear hn2 hl2 ho2
 go_wp2_with fail
 refine Calls.mono (numbers_any RD.out HN2.out HL2.out HO2.out) ?_
 rintro e v2_ ⟨rfl,hrd,hf⟩
 replace HC:=LH (HC.out.frG hf (by omega))
 replace HZ:=LH (HZ.out.frG hf (by omega))
 replace FR:=LH (FR.out.trans hf)
 replace RD:=LH hrd
 have z2:W1.heap.size≤v2_.heap.size:=hf.1.size
 clear hrd hf c0 c1 c2 c3 c4 c5 c6 c7 c8 c9 c10 c11 cz
 obtain ⟨⟨⟨c0,c1,c2,c3⟩,⟨c4,c5,c6,c7⟩,c8,c9,c10,c11⟩,cz⟩:=cells12 HC.out
 have sc2:=HC.out.lt
 have HC2:Hid (Blk (v2_.setCell ⟨w1.heap.size,9,none⟩ (.int .i64 n2)) w1.heap.size 58 [.int .u8 5,.int .i64 0,.slice none 0 0,.int .i64 0,.string ⟨#[]⟩,.string ⟨#[]⟩,.int .i64 n1,.int .i64 0,.slice none 0 0,.int .i64 n2,.int .i64 0,.int .i64 0]):=LH (HC.out.set_ 9 (.int .i64 n2))
 have HZ2:Hid (Blk (v2_.setCell ⟨w1.heap.size,9,none⟩ (.int .i64 n2)) w.heap.size 58 [.int .u8 0,.int .i64 0,.slice none 0 0,.int .i64 0,.string ⟨#[]⟩,.string ⟨#[]⟩,.int .i64 0,.int .i64 0,.slice none 0 0,.int .i64 0,.int .i64 0,.int .i64 0]):=LH (HZ.out.far (b:=w1.heap.size) (o:=9) (by omega) (.int .i64 n2))
 have RD2:Hid (RdS w0 (v2_.setCell ⟨w1.heap.size,9,none⟩ (.int .i64 n2)) g l2 o2):=LH (RD.out.far (by omega))
 have FR2:Hid (FrG g w (v2_.setCell ⟨w1.heap.size,9,none⟩ (.int .i64 n2))):=LH (FR.out.set_ (Nat.le_of_lt gl) (by omega))
 have zs2:(v2_.setCell ⟨w1.heap.size,9,none⟩ (.int .i64 n2)).heap.size=v2_.heap.size:=by simp
 clear HC HZ RD FR
 have HC:=HC2
 have HZ:=HZ2
 have RD:=RD2
 have FR:=FR2
 clear HC2 HZ2 RD2 FR2
 go_upto_region 20 with fail
 generalize hW:(v2_.setCell ⟨w1.heap.size,9,none⟩ (.int .i64 n2))=W2 at HC HZ RD FR zs2 ⊢
 clear hW c0 c1 c2 c3 c4 c5 c6 c7 c8 c9 c10 c11 cz
 obtain ⟨⟨⟨c0,c1,c2,c3⟩,⟨c4,c5,c6,c7⟩,c8,c9,c10,c11⟩,cz⟩:=cells12 HC.out
 have sd2:=HC.out.lt
 obtain ⟨n3,hn3⟩:∃ n,n=nN l2:=⟨_,rfl⟩
 obtain ⟨l3,hl3⟩:∃ x,x=nL l2:=⟨_,rfl⟩
 obtain ⟨o3,ho3⟩:∃ x,x=nO l2 o2:=⟨_,rfl⟩
 have HN3:=LH hn3
 have HL3:=LH hl3
 have HO3:=LH ho3
 clear hn3 hl3 ho3
 go_wp2_with fail
 refine Calls.mono (numbers_any RD.out HN3.out HL3.out HO3.out) ?_
 rintro e v3_ ⟨rfl,hrd,hf⟩
 replace HC:=LH (HC.out.frG hf (by omega))
 replace HZ:=LH (HZ.out.frG hf (by omega))
 replace FR:=LH (FR.out.trans hf)
 replace RD:=LH hrd
 have z3:W2.heap.size≤v3_.heap.size:=hf.1.size
 clear hrd hf c0 c1 c2 c3 c4 c5 c6 c7 c8 c9 c10 c11 cz
 obtain ⟨⟨⟨c0,c1,c2,c3⟩,⟨c4,c5,c6,c7⟩,c8,c9,c10,c11⟩,cz⟩:=cells12 HC.out
 have sc3:=HC.out.lt
 have HC3:Hid (Blk (v3_.setCell ⟨w1.heap.size,11,none⟩ (.int .i64 n3)) w1.heap.size 58 [.int .u8 5,.int .i64 0,.slice none 0 0,.int .i64 0,.string ⟨#[]⟩,.string ⟨#[]⟩,.int .i64 n1,.int .i64 0,.slice none 0 0,.int .i64 n2,.int .i64 0,.int .i64 n3]):=LH (HC.out.set_ 11 (.int .i64 n3))
 have HZ3:Hid (Blk (v3_.setCell ⟨w1.heap.size,11,none⟩ (.int .i64 n3)) w.heap.size 58 [.int .u8 0,.int .i64 0,.slice none 0 0,.int .i64 0,.string ⟨#[]⟩,.string ⟨#[]⟩,.int .i64 0,.int .i64 0,.slice none 0 0,.int .i64 0,.int .i64 0,.int .i64 0]):=LH (HZ.out.far (b:=w1.heap.size) (o:=11) (by omega) (.int .i64 n3))
 have RD3:Hid (RdS w0 (v3_.setCell ⟨w1.heap.size,11,none⟩ (.int .i64 n3)) g l3 o3):=LH (RD.out.far (by omega))
 have FR3:Hid (FrG g w (v3_.setCell ⟨w1.heap.size,11,none⟩ (.int .i64 n3))):=LH (FR.out.set_ (Nat.le_of_lt gl) (by omega))
 have zs3:(v3_.setCell ⟨w1.heap.size,11,none⟩ (.int .i64 n3)).heap.size=v3_.heap.size:=by simp
 clear HC HZ RD FR
 have HC:=HC3
 have HZ:=HZ3
 have RD:=RD3
 have FR:=FR3
 clear HC3 HZ3 RD3 FR3
 go_upto_region 23 with fail
 generalize hW:(v3_.setCell ⟨w1.heap.size,11,none⟩ (.int .i64 n3))=W3 at HC HZ RD FR zs3 ⊢
 clear hW c0 c1 c2 c3 c4 c5 c6 c7 c8 c9 c10 c11 cz
 obtain ⟨⟨⟨c0,c1,c2,c3⟩,⟨c4,c5,c6,c7⟩,c8,c9,c10,c11⟩,cz⟩:=cells12 HC.out
 have sd3:=HC.out.lt
 have hfin:=HR.out
 rw [show rd56 5 l0 o0=(⟨5,default,n1,0,[],n2,0,n3⟩,l3,o3) by rw [HO3.out,HL3.out,HN3.out,HO2.out,HL2.out,HN2.out,HO1.out,HL1.out,HN1.out];rfl] at hfin
 cases hfin
 obtain ⟨⟨⟨e0,e1,e2,e3⟩,⟨e4,e5,e6,e7⟩,e8,e9,e10,e11⟩,ez⟩:=cells12 HZ.out
 have el:=HZ.out.lt
 go_wp2_with fail
 obtain ⟨⟨⟨t0,t1_,t2,t3⟩,⟨t4,t5,t6,t7⟩,t8,t9,t10,t11⟩,-⟩:=cells12 (blk_put12 HZ.out (.int .u8 5) (.int .i64 0) (.slice none 0 0) (.int .i64 0) (.string ⟨#[]⟩) (.string ⟨#[]⟩) (.int .i64 n1) (.int .i64 0) (.slice none 0 0) (.int .i64 n2) (.int .i64 0) (.int .i64 n3))
 exact bodyPost_ret (v:=.agg #[.int .u8 5,.int .i64 0,.slice none 0 0,.int .i64 0,.string ⟨#[]⟩,.string ⟨#[]⟩,.int .i64 n1,.int .i64 0,.slice none 0 0,.int .i64 n2,.int .i64 0,.int .i64 n3]) (by simp [results,Tryz.results62,go_sem,t0,t1_,t2,t3,t4,t5,t6,t7,t8,t9,t10,t11]) rfl ⟨_,rfl,⟨none,0,none,0,rfl,ownI_nil _ _,ownI_nil _ _⟩,((((((((((((RD.out.far (b:=w.heap.size) (o:=0) (v:=.int .u8 5) gl).far (b:=w.heap.size) (o:=1) (v:=.int .i64 0) gl).far (b:=w.heap.size) (o:=2) (v:=.slice none 0 0) gl).far (b:=w.heap.size) (o:=3) (v:=.int .i64 0) gl).far (b:=w.heap.size) (o:=4) (v:=.string ⟨#[]⟩) gl).far (b:=w.heap.size) (o:=5) (v:=.string ⟨#[]⟩) gl).far (b:=w.heap.size) (o:=6) (v:=.int .i64 n1) gl).far (b:=w.heap.size) (o:=7) (v:=.int .i64 0) gl).far (b:=w.heap.size) (o:=8) (v:=.slice none 0 0) gl).far (b:=w.heap.size) (o:=9) (v:=.int .i64 n2) gl).far (b:=w.heap.size) (o:=10) (v:=.int .i64 0) gl).far (b:=w.heap.size) (o:=11) (v:=.int .i64 n3) gl),((((((((((((FR.out.set_ (b:=w.heap.size) (o:=0) (v:=.int .u8 5) (Nat.le_of_lt gl) (Nat.le_refl _)).set_ (b:=w.heap.size) (o:=1) (v:=.int .i64 0) (Nat.le_of_lt gl) (Nat.le_refl _)).set_ (b:=w.heap.size) (o:=2) (v:=.slice none 0 0) (Nat.le_of_lt gl) (Nat.le_refl _)).set_ (b:=w.heap.size) (o:=3) (v:=.int .i64 0) (Nat.le_of_lt gl) (Nat.le_refl _)).set_ (b:=w.heap.size) (o:=4) (v:=.string ⟨#[]⟩) (Nat.le_of_lt gl) (Nat.le_refl _)).set_ (b:=w.heap.size) (o:=5) (v:=.string ⟨#[]⟩) (Nat.le_of_lt gl) (Nat.le_refl _)).set_ (b:=w.heap.size) (o:=6) (v:=.int .i64 n1) (Nat.le_of_lt gl) (Nat.le_refl _)).set_ (b:=w.heap.size) (o:=7) (v:=.int .i64 0) (Nat.le_of_lt gl) (Nat.le_refl _)).set_ (b:=w.heap.size) (o:=8) (v:=.slice none 0 0) (Nat.le_of_lt gl) (Nat.le_refl _)).set_ (b:=w.heap.size) (o:=9) (v:=.int .i64 n2) (Nat.le_of_lt gl) (Nat.le_refl _)).set_ (b:=w.heap.size) (o:=10) (v:=.int .i64 0) (Nat.le_of_lt gl) (Nat.le_refl _)).set_ (b:=w.heap.size) (o:=11) (v:=.int .i64 n3) (Nat.le_of_lt gl) (Nat.le_refl _))⟩
end Go.Proofs.YtkkohllhebdlcaaGreatDoor
