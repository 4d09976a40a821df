/-
  Proved here: (*group.home).deliver. Conditions: the group is one that a log made; n order.Honest's function: it looks at one step's final time. Conditions
-/
import Derived.Test.YtkkohllhebdlcaaGreatDoorY32
import Derived.Test.YtkkohllhebdlcaaGreatDoorY38
set_option maxRecDepth 100000
namespace Go.Proofs.YtkkohllhebdlcaaGreatDoor
open Go.RowKit
def MsgsS (w:World) (g b:Nat) (v:Value) (l:List PM):Prop:=∃ ml:List (Value × PM),ml.map (·.2)=l∧Stab w g b (fun w'=>SliceR w' v 5 msgC ml)∧∀ p∈ml,isSl p.1
def DlvHEnd (w0:World) (g b:Nat) (s:Gs) (tk:List Tk) (w:World) (e:Ending) (w':World):Prop:=∃ a cap,e=.returned (.slice a tk.length cap)∧OwnTk w' w.heap.size (.slice a tk.length cap) tk∧HomeAt w' g b s∧Kp g b w w'∧Below w0.heap.size w0 w'
theorem Kp.grownB {g b:Nat} {w u v:World} {row:Option Nat} (h:Kp g b w u) (hg:u.grownBy v row) (hr:∀ k,row=some k→w.heap.size≤k):Kp g b w v :=
 ⟨Nat.le_trans h.1 hg.size,fun k hk h1 h2=>(hg.block k (Nat.lt_of_lt_of_le hk h.1) (fun e=>by have:=hr k e.symm;omega)).trans (h.2 k hk h1 h2)⟩
theorem OwnS.row {w w':World} {B B2 s n:Nat} {v u:Value} {st:Str} {e:TypeId} {xs:List Value} (h:OwnS w B v st) (h2:w.ownsRow B2 e s u n xs) (hg:w.grownBy w' u.ownBlock) (e1:156≠e) (e2:215≠e) (e3:37≠e) (e4:3≠e):OwnS w' B v st:=by
 obtain ⟨ta,tc,h1,⟨pl,a1,a2,a3⟩,⟨us,c1,c2,c3,c4⟩⟩:=h
 exact ⟨ta,tc,h1,⟨pl,a1,ownsRow_grown' a2 hg (fun _ hk=>rows_ne a2 h2 e1 hk),fun p hp=>ownsRow_grown' (a3 p hp) hg (fun _ hk=>rows_ne (a3 p hp) h2 e2 hk)⟩,⟨us,ownsRow_grown' c1 hg (fun _ hk=>rows_ne c1 h2 e3 hk),c2,fun i hi=>ownsRow_grown' (c3 i hi) hg (fun _ hk=>rows_ne (c3 i hi) h2 e4 hk),c4⟩⟩
set_option maxHeartbeats 16000000 in
set_option maxRecDepth 100000 in
theorem dlvH_any {w0 w:World} {g b D:Nat} {s:Gs} {l:List PM} {v:Value} (h:HomeAt w g b s) (h0:Below w0.heap.size w0 w) (hg:w0.heap.size≤g) (hm:MsgsS w g b v l) (hmay:mayM s.m) (hlen:lenM s.m D) (hD:D+l.length≤500) :
  Calls Tryz.prog 42 #[.pointer (some ⟨g,0,none⟩),v] w (DlvHEnd w0 g b ⟨s.sk,(putsM s.m [] l).1,s.last⟩ (putsM s.m [] l).2 w):=by
 obtain ⟨i0,hi,hz0,hz1,hz2⟩:=info_parts info_tk
 obtain ⟨ml,hml,hst,hsl⟩:=hm
 obtain ⟨a,cap,hv,hcap,hmx,hnil,hcells⟩:=hst.now
 subst hv
 obtain ⟨n,hn⟩:∃ n,n=ml.length:=⟨_,rfl⟩
 have hnl:n=l.length:=by rw [hn,← hml,List.length_map]
 rw [← hn] at hst hcap ⊢
 obtain ⟨wv,dv,sv0,cv0,g1,g2,g3,g4,g5⟩:=h
 have HB:=LH h0
 have ST:=LH hst
 have SL:=LH hsl
 have HML:=LH hml
 have HN:=LH hn
 have HNL:=LH hnl
 have HMAY:=LH hmay
 have HLEN:=LH hlen
 have HDD:=LH hD
 have HNB:Hid (0 < n→∃ gm off,a=some ⟨gm,off,none⟩):=fun hp=>by
  obtain ⟨gm,off,ha,_⟩:=hcells (by omega)
  exact ⟨gm,off,ha⟩
 have hgl:g < w.heap.size:=g1.lt
 have hbl:b < w.heap.size:=g2.lt
 have hgb:g≠b:=g3
 obtain ⟨sk,m0,last⟩:=s
 simp only at HMAY HLEN g1 g2 g4 g5 ⊢
 obtain ⟨ck,hck⟩:∃ ck,ck=sk.clock:=⟨_,rfl⟩
 have HCK:=LH hck
 rw [← hck] at g1 g4
 have S1:=LH g4
 have HOME:Hid (Blk w g 80 [.int .i64 ck,wv,dv,sv0,cv0,.slice (some ⟨b,0,none⟩) 6 6]∧Blk w b 3 (rowVals last)∧Stab w g b (fun w'=>StrR w' (.agg #[sv0,cv0]) (streamM m0))):=LH ⟨g1,g2,g5⟩
 obtain ⟨R,hR⟩:∃ R,R=putsM m0 [] l:=⟨_,rfl⟩
 rw [← hR]
 have HR:=LH hR
 have n5:(n:Int)≤500:=by omega
 obtain ⟨B,hB⟩:∃ B,B=w.heap.size:=⟨_,rfl⟩
 have HBE:=LH hB
 clear g1 g2 g3 g4 g5 hck h0 hst hsl hml hn hnl hmay hlen hD hcells hR hmx hnil hB
 go_enter Tryz.func42,Tryz.ntmps42
 go_wp2_with fail
 go_loopg [5,13] n (fun gh ov i wr=>∃ (k:Nat) (m:Mdl) (tk:List Tk) (ta:Option Addr) (tcap:Nat) (sv cv:Value),k≤n∧gh=n - k∧i=.int .i64 (k:Int)∧ov=.slice ta tk.length tcap∧Hid (Blk wr g 80 [.int .i64 ck,wv,dv,sv,cv,.slice (some ⟨b,0,none⟩) 6 6]∧Blk wr b 3 (rowVals last)∧Stab wr g b (fun w'=>StrR w' (.agg #[sv,cv]) (streamM m)))∧Hid (OwnTk wr B (.slice ta tk.length tcap) tk)∧Hid (Kp g b w wr)∧Hid (Below w0.heap.size w0 wr)∧Hid (mayM m)∧Hid (lenM m (D+k))∧Hid (tk.length≤k)∧Hid (R=putsM m tk (l.drop k)))
 case atStart=>exact ⟨0,m0,[],none,0,sv0,cv0,Nat.zero_le _,rfl,rfl,rfl,HOME,LH (World.ownsRow_nil _ _ _ _),LH (Kp.refl _ _ _),HB,HMAY,HLEN,LH (Nat.le_refl _),HR⟩
 case round =>
  clear HOME HB HMAY HLEN HR
  obtain ⟨k,m,tk,ta,tcap,sv,cv,hk,rfl,rfl,rfl,HOME,OT,HK,HB,HMAY,HLEN,HTL,HR⟩:=hrel
  have hsz:=HK.out.1
  by_cases hlt:k < n
  ·have hk0:(0:Int)≤(k:Int):=by omega
   have hk1:(k:Int) < (n:Int):=by omega
   obtain ⟨gm,off,ha⟩:=HNB.out (by omega)
   subst ha
   have hkm:k < ml.length:=by rw [← HN.out];exact hlt
   obtain ⟨a',cap',e1,_,_,_,h5⟩:=ST.out _ HK.out.weak
   obtain ⟨gm',off',e2,hat⟩:=h5 (by omega)
   obtain ⟨p,hp⟩:∃ p,p=ml[k]:=⟨_,rfl⟩
   have hc:=fun j (hj:j < 5)=>hat k hkm j hj
   rw [← hp] at hc
   have e3:gm'=gm∧off'=off:=by
    have:=e1;rw [e2] at this;simp at this;exact ⟨this.1.1.symm,this.1.2.symm⟩
   obtain ⟨rfl,rfl⟩:=e3
   obtain ⟨sa,sn,sc,hu⟩:=SL.out p (by rw [hp];exact List.getElem_mem hkm)
   have hdr:l.drop k=p.2 :: l.drop (k+1):=by
    have hkl:k < l.length:=by rw [← HNL.out];exact hlt
    rw [List.drop_eq_getElem_cons hkl]
    congr 1
    have:l[k]?=some p.2:=by rw [← HML.out,List.getElem?_map,List.getElem?_eq_getElem hkm,hp];rfl
    rw [List.getElem?_eq_getElem hkl] at this
    exact Option.some.inj this
   have hr:=HR.out
   rw [hdr,putsM] at hr
   obtain ⟨u,⟨i1,gl,t1,k1,bo⟩⟩:=p
   simp only at hu hr
   subst hu
   have x0:=hc 0 (by omega)
   have x1:=hc 1 (by omega)
   have x2:=hc 2 (by omega)
   have x3:=hc 3 (by omega)
   have x4:=hc 4 (by omega)
   simp only [← Nat.add_assoc,Nat.add_zero,msgC,msgCs] at x0 x1 x2 x3 x4
   have hgm:=World.block_lt_of_cell? wr _ x0
   have hgm:gm' < wr.heap.size:=hgm
   obtain ⟨⟨pu,pn,px⟩,hP⟩:∃ P,P=putM m i1 t1 k1 bo:=⟨_,rfl⟩
   rw [← hP] at hr
   have HR2:=LH hr
   have hps:=putM_str HMAY.out (fun q0 q1 e=>by have:=HLEN.out t1 q0 q1;have:=HDD.out;have:=HNL.out;omega) hP.symm
   have HP:=LH hP
   obtain ⟨U,hU⟩:∃ U,U=if px=0 then streamM pu else Str.zero:=⟨_,rfl⟩
   have HU:=LH hU
   rw [← hU] at hps
   have KP:Hid (∀ W ta' tc',StrR W (.agg #[ta',tc']) (streamM m)→Calls Tryz.prog 67 #[.agg #[ta',tc'],.agg #[.int .i64 i1,.slice sa sn sc,.int .i64 t1,.string k1,.string bo]] W fun e W'=>∃ a4 n4 c4 b4 m4 d4,e=.returned (.tuple #[.agg #[.slice a4 n4 c4,.slice b4 m4 d4],.int .i64 pn,.int .i64 px])∧OwnS W' W.heap.size (.agg #[.slice a4 n4 c4,.slice b4 m4 d4]) U∧Below W.heap.size W W'):=fun W ta' tc' hW =>
    (strPut_any i1 t1 k1 bo hW (keysS_of_may (mayM_str HMAY.out)) hps.1).mono fun e W' ⟨ta4,tc4,he,ho,hb⟩=>by
     obtain ⟨a4,c4,b4,m4,d4,ev,-,-⟩:=ho.reads.shape
     rw [ev] at ho he
     exact ⟨a4,_,c4,b4,m4,d4,he,ho,hb⟩
   clear hc hat h5 e1 e2 hp hdr hr hP hps hU hkm
   go_wp2_with fail
   obtain ⟨h1,h2,h5⟩:=HOME.out
   have hB0:Below wr.heap.size wr (wr.alloc (.cells #[.int .i64 i1,.slice sa sn sc,.int .i64 t1,.string k1,.string bo] 56)):=(Below.refl _ _).alloc (Nat.le_refl _) _
   have HM2:Hid (Blk (wr.alloc (.cells #[.int .i64 i1,.slice sa sn sc,.int .i64 t1,.string k1,.string bo] 56)) wr.heap.size 56 [.int .i64 i1,.slice sa sn sc,.int .i64 t1,.string k1,.string bo]):=LH (Blk.new rfl)
   have HQ2:=LH (h1.step hB0)
   have HL2:=LH (h2.step hB0)
   have K2:=LH (HK.out.trans (Kp.below hB0))
   have S22:=LH (h5.go (Kp.below (g:=g) (b:=b) hB0))
   have HB2:=LH (Below.step HB.out hB0 HB.out.size)
   have OT2:Hid (OwnTk (wr.alloc (.cells #[.int .i64 i1,.slice sa sn sc,.int .i64 t1,.string k1,.string bo] 56)) B (.slice ta tk.length tcap) tk):=LH (ownsRow_keep OT.out hB0)
   have sl2:=hB0.size
   clear hB0 h1 h2 h5 x0 x1 x2 x3 x4 HOME
   generalize (wr.alloc (.cells #[.int .i64 i1,.slice sa sn sc,.int .i64 t1,.string k1,.string bo] 56))=w2 at HM2 HQ2 HL2 K2 S22 HB2 OT2 sl2 ⊢
   obtain ⟨⟨q0,q1,q2⟩,⟨q3,q4,q5⟩,qz⟩:=cells6 HQ2.out
   obtain ⟨p0,p1,p2,p3,p4,pz⟩:=cells5 HM2.out
   have gl3:=HQ2.out.lt
   have cl3:=HM2.out.lt
   have bl3:=HL2.out.lt
   go_region_law (first
    |(go_simp;go_at_call 67;(first|refine at_box fun HT=>?_|refine at_boxD fun HT=>?_);refine (KP.out _ _ _ (S22.out _ (Kw.below (by repeat (first|with_reducible (first|exact Below.refl _ _|apply Below.drew|apply below_alloc)|((first|with_reducible refine Below.alloc ?_ ?_ _|with_reducible refine Below.setCell ?_ ?_ _);rotate_left;focus (first|(simp <;> omega)|omega))))))).mono ?_;rintro e w4 ⟨a4,n4,c4,b4,m4,d4,rfl,os,hb'⟩;have HX4:Hid (Below w2.heap.size w2 w4):=below_step (by repeat (first|with_reducible (first|exact Below.refl _ _|apply Below.drew|apply below_alloc)|((first|with_reducible refine Below.alloc ?_ ?_ _|with_reducible refine Below.setCell ?_ ?_ _);rotate_left;focus (first|(simp <;> omega)|omega)))) hb';have OS:Hid (OwnS w4 w2.heap.size (.agg #[.slice a4 n4 c4,.slice b4 m4 d4]) _):=LH (OwnS.le os (by simp));have HQ4:=LH (HQ2.out.step HX4.out);obtain ⟨⟨u0,u1,u2⟩,⟨u3,u4,u5⟩,uz⟩:=cells6 HQ4.out;have sl4:=HX4.out.size;have HT4:Blk w4 w2.heap.size 36 [.slice none 0 0,.slice none 0 0]:=HT.step hb';obtain ⟨v0,v1,vz⟩:=cells2 HT4;have vl:=HT4.lt;have HTT:=LH HT4;clear hb' os HT HT4)
    |(go_simp;go_at_call 67;refine (KP.out _ _ _ (S22.out _ (Kw.below (by repeat (first|with_reducible (first|exact Below.refl _ _|apply Below.drew|apply below_alloc)|((first|with_reducible refine Below.alloc ?_ ?_ _|with_reducible refine Below.setCell ?_ ?_ _);rotate_left;focus (first|(simp <;> omega)|omega))))))).mono ?_;rintro e w4 ⟨a4,n4,c4,b4,m4,d4,rfl,os,hb'⟩;have HX4:Hid (Below w2.heap.size w2 w4):=below_step (by repeat (first|with_reducible (first|exact Below.refl _ _|apply Below.drew|apply below_alloc)|((first|with_reducible refine Below.alloc ?_ ?_ _|with_reducible refine Below.setCell ?_ ?_ _);rotate_left;focus (first|(simp <;> omega)|omega)))) hb';have OS:Hid (OwnS w4 w2.heap.size (.agg #[.slice a4 n4 c4,.slice b4 m4 d4]) _):=LH (OwnS.le os (by simp));have HQ4:=LH (HQ2.out.step HX4.out);obtain ⟨⟨u0,u1,u2⟩,⟨u3,u4,u5⟩,uz⟩:=cells6 HQ4.out;have sl4:=HX4.out.size;clear hb' os))
   all_goals
    first
     |(show Exit.then _ _ _ _ (w4.alloc (.cells #[.slice a4 n4 c4,.slice b4 m4 d4] 36))
       have HX5:Hid (Below w2.heap.size w2 (w4.alloc (.cells #[.slice a4 n4 c4,.slice b4 m4 d4] 36))):=LH (HX4.out.alloc HX4.out.size _)
       have HQ5:Hid (Blk (w4.alloc (.cells #[.slice a4 n4 c4,.slice b4 m4 d4] 36)) g 80 [.int .i64 ck,wv,dv,sv,cv,.slice (some ⟨b,0,none⟩) 6 6]):=LH (HQ2.out.step HX5.out)
       have HL5:Hid (Blk (w4.alloc (.cells #[.slice a4 n4 c4,.slice b4 m4 d4] 36)) b 3 (rowVals last)):=LH (HL2.out.step HX5.out)
       have HM5:Hid (Blk (w4.alloc (.cells #[.slice a4 n4 c4,.slice b4 m4 d4] 36)) wr.heap.size 56 [.int .i64 i1,.slice sa sn sc,.int .i64 t1,.string k1,.string bo]):=LH (HM2.out.step HX5.out)
       have OT5:Hid (OwnTk (w4.alloc (.cells #[.slice a4 n4 c4,.slice b4 m4 d4] 36)) B (.slice ta tk.length tcap) tk):=LH (ownsRow_keep OT2.out HX5.out)
       have OS5:Hid (OwnS (w4.alloc (.cells #[.slice a4 n4 c4,.slice b4 m4 d4] 36)) w2.heap.size (.agg #[.slice a4 n4 c4,.slice b4 m4 d4]) U):=LH (OS.out.keep ((Below.refl _ _).alloc (Nat.le_refl _) _))
       have HT5:Hid (Blk (w4.alloc (.cells #[.slice a4 n4 c4,.slice b4 m4 d4] 36)) w4.heap.size 36 [.slice a4 n4 c4,.slice b4 m4 d4]):=LH (Blk.new rfl)
       clear HX4 HQ4 OS
       try clear HTT
       try clear v0 v1 vz vl
       clear u0 u1 u2 u3 u4 u5 uz
       generalize (w4.alloc (.cells #[.slice a4 n4 c4,.slice b4 m4 d4] 36))=w5 at HX5 HQ5 HL5 HM5 OT5 OS5 HT5 ⊢       )
     |(show Exit.then _ _ _ _ ((w4.setCell ⟨w2.heap.size,0,none⟩ (.slice a4 n4 c4)).setCell ⟨w2.heap.size,1,none⟩ (.slice b4 m4 d4))
       have HX5:Hid (Below w2.heap.size w2 ((w4.setCell ⟨w2.heap.size,0,none⟩ (.slice a4 n4 c4)).setCell ⟨w2.heap.size,1,none⟩ (.slice b4 m4 d4))):=LH ((HX4.out.setCell (Nat.le_refl _) _).setCell (Nat.le_refl _) _)
       have HQ5:Hid (Blk ((w4.setCell ⟨w2.heap.size,0,none⟩ (.slice a4 n4 c4)).setCell ⟨w2.heap.size,1,none⟩ (.slice b4 m4 d4)) g 80 [.int .i64 ck,wv,dv,sv,cv,.slice (some ⟨b,0,none⟩) 6 6]):=LH (HQ2.out.step HX5.out)
       have HL5:Hid (Blk ((w4.setCell ⟨w2.heap.size,0,none⟩ (.slice a4 n4 c4)).setCell ⟨w2.heap.size,1,none⟩ (.slice b4 m4 d4)) b 3 (rowVals last)):=LH (HL2.out.step HX5.out)
       have HM5:Hid (Blk ((w4.setCell ⟨w2.heap.size,0,none⟩ (.slice a4 n4 c4)).setCell ⟨w2.heap.size,1,none⟩ (.slice b4 m4 d4)) wr.heap.size 56 [.int .i64 i1,.slice sa sn sc,.int .i64 t1,.string k1,.string bo]):=LH (HM2.out.step HX5.out)
       have OT5:Hid (OwnTk ((w4.setCell ⟨w2.heap.size,0,none⟩ (.slice a4 n4 c4)).setCell ⟨w2.heap.size,1,none⟩ (.slice b4 m4 d4)) B (.slice ta tk.length tcap) tk):=LH (ownsRow_keep OT2.out HX5.out)
       have OS5:Hid (OwnS ((w4.setCell ⟨w2.heap.size,0,none⟩ (.slice a4 n4 c4)).setCell ⟨w2.heap.size,1,none⟩ (.slice b4 m4 d4)) w2.heap.size (.agg #[.slice a4 n4 c4,.slice b4 m4 d4]) U):=LH (OS.out.box2 HTT.out)
       have HT5:Hid (Blk ((w4.setCell ⟨w2.heap.size,0,none⟩ (.slice a4 n4 c4)).setCell ⟨w2.heap.size,1,none⟩ (.slice b4 m4 d4)) w2.heap.size 36 [.slice a4 n4 c4,.slice b4 m4 d4]):=LH ((HTT.out.set_ 0 _).set_ 1 _)
       clear HX4 HQ4 OS
       try clear HTT
       try clear v0 v1 vz vl
       clear u0 u1 u2 u3 u4 u5 uz
       generalize ((w4.setCell ⟨w2.heap.size,0,none⟩ (.slice a4 n4 c4)).setCell ⟨w2.heap.size,1,none⟩ (.slice b4 m4 d4))=w5 at HX5 HQ5 HL5 HM5 OT5 OS5 HT5 ⊢       )
   all_goals
    obtain ⟨⟨u0,u1,u2⟩,⟨u3,u4,u5⟩,uz⟩:=cells6 HQ5.out
    obtain ⟨v0,v1,vz⟩:=cells2 HT5.out
    obtain ⟨p0,p1,p2,p3,p4,pz⟩:=cells5 HM5.out
    have vl:=HT5.out.lt
    have ul:=HQ5.out.lt
    have pl5:=HM5.out.lt
    by_cases hx:px=0
    ·have hxb:(px == 0)=true:=by simpa using hx
     have hRR:R=putsM pu (tk++[(i1,t1,pn)]) (l.drop (k+1)):=by have:=HR2.out;rw [if_pos hx] at this;exact this
     have HRR:=LH hRR
     have HUU:=LH (show U=streamM pu by rw [HU.out,if_pos hx])
     have hPP:putM m i1 t1 k1 bo=(pu,pn,0):=by rw [← hx];exact HP.out.symm
     have HMY:=LH (putM_may HMAY.out HLEN.out (by have:=HDD.out;have:=HNL.out;omega) hPP)
     have HLN:=LH (putM_len HMAY.out hPP HLEN.out)
     clear hx hRR hPP HR2
     go_upto_region 8 with fail
     have hfar:∀ j,j≠g→((w5.setCell ⟨g,3,none⟩ (.slice a4 n4 c4)).setCell ⟨g,4,none⟩ (.slice b4 m4 d4)).heap[j]?=w5.heap[j]?:=fun j hj=>(heap_set _ _ _ _ j hj).trans (heap_set _ _ _ _ j hj)
     have HQ7:Hid (Blk ((w5.setCell ⟨g,3,none⟩ (.slice a4 n4 c4)).setCell ⟨g,4,none⟩ (.slice b4 m4 d4)) g 80 [.int .i64 ck,wv,dv,.slice a4 n4 c4,.slice b4 m4 d4,.slice (some ⟨b,0,none⟩) 6 6]):=LH ((HQ5.out.set_ 3 _).set_ 4 _)
     have HL7:Hid (Blk ((w5.setCell ⟨g,3,none⟩ (.slice a4 n4 c4)).setCell ⟨g,4,none⟩ (.slice b4 m4 d4)) b 3 (rowVals last)):=LH ((HL5.out.far (fun e=>hgb e.symm) _).far (fun e=>hgb e.symm) _)
     have HM7:Hid (Blk ((w5.setCell ⟨g,3,none⟩ (.slice a4 n4 c4)).setCell ⟨g,4,none⟩ (.slice b4 m4 d4)) wr.heap.size 56 [.int .i64 i1,.slice sa sn sc,.int .i64 t1,.string k1,.string bo]):=LH ((HM5.out.far (by omega) _).far (by omega) _)
     have OT7:Hid (OwnTk ((w5.setCell ⟨g,3,none⟩ (.slice a4 n4 c4)).setCell ⟨g,4,none⟩ (.slice b4 m4 d4)) B (.slice ta tk.length tcap) tk):=LH (row_far OT5.out hfar (row_blk OT5.out HQ5.out (by decide)))
     have OS7:Hid (OwnS ((w5.setCell ⟨g,3,none⟩ (.slice a4 n4 c4)).setCell ⟨g,4,none⟩ (.slice b4 m4 d4)) w2.heap.size (.agg #[.slice a4 n4 c4,.slice b4 m4 d4]) U):=LH (OwnS.agree OS5.out (fun j hj _=>hfar j (by omega)))
     have K7:Hid (Kp g b w ((w5.setCell ⟨g,3,none⟩ (.slice a4 n4 c4)).setCell ⟨g,4,none⟩ (.slice b4 m4 d4))):=LH (((K2.out.trans (Kp.below HX5.out)).trans Kp.set1).trans Kp.set1)
     have HB7:Hid (Below w0.heap.size w0 ((w5.setCell ⟨g,3,none⟩ (.slice a4 n4 c4)).setCell ⟨g,4,none⟩ (.slice b4 m4 d4))):=LH (((Below.step HB2.out HX5.out HB2.out.size).setCell hg _).setCell hg _)
     have hs7:w5.heap.size≤((w5.setCell ⟨g,3,none⟩ (.slice a4 n4 c4)).setCell ⟨g,4,none⟩ (.slice b4 m4 d4)).heap.size:=by simp
     have hs5:=HX5.out.size
     clear hfar HQ5 HL5 HM5 OT5 OS5 u0 u1 u2 u3 u4 u5 uz v0 v1 vz p0 p1 p2 p3 p4 pz HT5
     generalize ((w5.setCell ⟨g,3,none⟩ (.slice a4 n4 c4)).setCell ⟨g,4,none⟩ (.slice b4 m4 d4))=w7 at HQ7 HL7 HM7 OT7 OS7 K7 HB7 hs7 ⊢
     obtain ⟨p0,p1,p2,p3,p4,pz⟩:=cells5 HM7.out
     have pl7:=HM7.out.lt
     have htl:tk.length≤500:=by have:=HTL.out;omega
     have m3:tk.length+1≤maxLen:=by unfold maxLen;omega
     have m4':(tk.length+1) * 24≤140737488355328:=by omega
     have hB7:B≤w7.heap.size:=by have:=HBE.out;omega
     have HONE:Hid (∀ v∈tkCs (i1,t1,pn),v.oneCell'=true):=LH (fun v hv=>tk_one [(i1,t1,pn)] v (by simpa using hv))
     go_wp2_with (at_builtin;refine wpList_append_own _ rfl _ _ 40 rfl B 48 i0 _ 3 24 Tryz.underlying40 hi hz0 hz1 hz2 rfl (by decide) _ tk.length _ rfl (OT7.out.alloc _) ⟨w7.heap.size,0,none⟩ 1 1 (tkCs (i1,t1,pn)) rfl rfl (news_new _ _ _) HONE.out m3 m4' (by simp;omega) ?_)
     intro v8 w8 hown hgrow _
     obtain ⟨a8,c8,rfl⟩:=row_shape hown
     have hA:Below w7.heap.size w7 (w7.alloc (.cells #[.int .i64 i1,.int .i64 t1,.int .i64 pn] 48)):=(Below.refl _ _).alloc (Nat.le_refl _) _
     have hoA:=OT7.out.alloc (.cells #[.int .i64 i1,.int .i64 t1,.int .i64 pn] 48)
     have HQ8:=LH ((HQ7.out.step hA).grown hgrow (row_blk hoA (HQ7.out.step hA) (by decide)))
     have HL8:=LH ((HL7.out.step hA).grown hgrow (row_blk hoA (HL7.out.step hA) (by decide)))
     have OS8:Hid (OwnS w8 w2.heap.size _ U):=LH ((OS7.out.keep hA).row hoA hgrow (by decide) (by decide) (by decide) (by decide))
     have K8:Hid (Kp g b w w8):=LH ((K7.out.trans (Kp.below hA)).grownB hgrow (fun j hj=>by have:=(OT7.out.lt j hj).1;have:=HBE.out;omega))
     have HB8:Hid (Below w0.heap.size w0 w8):=LH (grown_below (Below.step HB7.out hA HB7.out.size) hgrow (Nat.le_trans HB7.out.size hA.size) (fun j hj=>by have:=(OT7.out.lt j hj).1;have:=HBE.out;omega))
     have OT8:Hid (OwnTk w8 B (.slice a8 (tk.length+1) c8) (tk++[(i1,t1,pn)])):=LH (by unfold OwnTk;rw [List.length_append];simpa [List.flatMap_append] using hown)
     clear hA hoA hown hgrow
     go_wp2_with fail
     go_roundg (n - (k+1))
     case measure=>omega
     case rel =>
      refine ⟨k+1,pu,tk++[(i1,t1,pn)],a8,c8,_,_,by omega,rfl,by go_num,by rw [List.length_append];rfl,LH ⟨HQ8.out,HL8.out,?_⟩,?_,K8,HB8,HMY,HLN,LH (by rw [List.length_append];exact Nat.succ_le_succ HTL.out),HRR⟩
      ·rw [← HUU.out]
       exact Stab.st OS8.out gl3 bl3
      ·rw [List.length_append];exact OT8
    ·have hxb:(px == 0)=false:=by simpa using hx
     have hRR:R=putsM m tk (l.drop (k+1)):=by have:=HR2.out;rw [if_neg hx] at this;exact this
     have HRR:=LH hRR
     clear hx hRR HR2
     go_wp2_with fail
     go_roundg (n - (k+1))
     case measure=>omega
     case rel =>
      refine ⟨k+1,m,tk,ta,tcap,sv,cv,by omega,rfl,by go_num,rfl,LH ⟨HQ5.out,HL5.out,S22.out.go (Kp.below HX5.out)⟩,OT5,LH (K2.out.trans (Kp.below HX5.out)),LH (Below.step HB2.out HX5.out HB2.out.size),HMAY,LH (fun i i0 i1=>Nat.le_succ_of_le (HLEN.out i i0 i1)),LH (Nat.le_succ_of_le HTL.out),HRR⟩
  ·obtain rfl:k=n:=by omega
   have hlt':¬ (k:Int) < (k:Int):=by omega
   have e:R=(m,tk):=by rw [HR.out,show l.drop k=[] by rw [HNL.out];exact List.drop_length];rfl
   have HE:=LH e
   clear e
   go_wp2_with fail
   go_ret
   exact ⟨ta,tcap,by rw [HE.out];rfl,by rw [HE.out,← HBE.out];exact OT.out,by rw [HE.out];exact ⟨wv,dv,sv,cv,by rw [← HCK.out];exact HOME.out.1,HOME.out.2.1,hgb,by rw [← HCK.out];exact S1.out.go HK.out,HOME.out.2.2⟩,HK.out,HB.out⟩
def HonEnd (ob:Nat) (z:Bool) (Q:Prop) (w:World) (e:Ending) (w':World):Prop:=e=.returned (.tuple #[])∧∃ z',Blk w' ob 4 [.bool z']∧(z'=true→z=true∧Q)∧Fr [4] w w'∧Below ob w w'
def QIff (q:Bool) (p:Prop):Prop:=q=true↔p
theorem fin_at {g:Int} {c:PC} {s:Sk} (h:RunI s) (hc:okCom c=true) (hk:c.kind=2) (hne:s≠ordStep g c s) {i:Int} (hi:IdxW s.waits c.id i):∃ k:Nat,i=k∧∃ hk:k < s.waits.length,s.waits[k]=s.waits.getD (posW s.waits c.id) default:=by
 rcases ordWay (g:=g) h.inv hc with ⟨e,_⟩|⟨hk1,_⟩|⟨_,h1,_⟩
 ·exact absurd e.symm hne
 ·omega
 ·obtain ⟨hlt,hid,hmem⟩:=posW_id h.inv.wi h1
  rcases hi with ⟨_,hn⟩|⟨k,rfl,hkl,e⟩
  ·exact absurd hid (hn _ hmem)
  ·refine ⟨k,rfl,hkl,?_⟩
   have hg:=posW_self h.inv.wi s.waits[k] (List.getElem_mem hkl)
   rw [e] at hg
   simp [List.getD,hg]
set_option maxHeartbeats 8000000 in
set_option maxRecDepth 100000 in
theorem hon1_any {w:World} {B tb ob:Nat} {T:List (List Gv)} {ta:Option Addr} {tn tc:Nat} {z:Bool} {c:PC} {g:Int} {s:Sk} {sv:Value}
  (hT:TabR w (.slice ta tn tc) T) (htb:Blk w tb 50 [.slice ta tn tc]) (hob:Blk w ob 4 [.bool z]) (hs:StepR w B c s (ordStep g c s) sv) (hrun:RunI s) (hc:okCom c=true) :
  Calls Tryz.prog 13 #[sv,.pointer (some ⟨tb,0,none⟩),.pointer (some ⟨ob,0,none⟩)] w (HonEnd ob z (c.kind=2→s≠ordStep g c s→finT T (s.waits.getD (posW s.waits c.id) default).msg=(c.time,true)) w):=by
 obtain ⟨Q,hQ⟩:∃ Q:Prop,Q=(c.kind=2→s≠ordStep g c s→finT T (s.waits.getD (posW s.waits c.id) default).msg=(c.time,true)):=⟨_,rfl⟩
 rw [← hQ]
 have HFA:=LH (fun hk hne i hi=>fin_at (g:=g) hrun hc hk hne (i:=i) hi)
 obtain ⟨s',hs'⟩:∃ s',s'=ordStep g c s:=⟨_,rfl⟩
 rw [← hs'] at hs hQ HFA
 have HQ:=LH hQ
 obtain ⟨ma,mc,mb,bc,wa,wc,da,dc,wa',wc',da',dc',oa,on,oc,rfl,hm,h1,h2⟩:=hs
 have HS1:=LH h1
 have HS2:=LH h2
 have HT:=LH hT
 have HTB:=LH htb
 have HOB:=LH hob
 have HGR:=LH (fun w hw=>grp_ge (hrun.gr w hw))
 clear hT htb hob hm h1 h2 hs' hQ hrun hc
 obtain ⟨mn,hmn⟩:∃ mn,mn=c.msg.groups.length:=⟨_,rfl⟩
 obtain ⟨bn,hbn⟩:∃ bn,bn=c.members.length:=⟨_,rfl⟩
 rw [← hmn,← hbn]
 clear hmn hbn
 go_enter Tryz.func13,Tryz.ntmps13
 go_upto_region 1 with fail
 -- MARK
 have hA:Below w.heap.size w (w.alloc (.cells #[.int .u8 c.kind,.int .i64 c.msg.id,.slice ma mn mc,.int .i64 c.msg.topic,.string c.msg.key,.string c.msg.body,.int .i64 c.id,.int .i64 c.time,.slice mb bn bc,.int .i64 c.topic,.int .i64 c.who,.int .i64 c.n,.int .i64 s.clock,.slice wa s.waits.length wc,.slice da s.done.length dc,.int .i64 s'.clock,.slice wa' s'.waits.length wc',.slice da' s'.done.length dc',.slice oa on oc] 61)):=(Below.refl _ _).alloc (Nat.le_refl _) _
 have HX1:Hid (Blk (w.alloc (.cells #[.int .u8 c.kind,.int .i64 c.msg.id,.slice ma mn mc,.int .i64 c.msg.topic,.string c.msg.key,.string c.msg.body,.int .i64 c.id,.int .i64 c.time,.slice mb bn bc,.int .i64 c.topic,.int .i64 c.who,.int .i64 c.n,.int .i64 s.clock,.slice wa s.waits.length wc,.slice da s.done.length dc,.int .i64 s'.clock,.slice wa' s'.waits.length wc',.slice da' s'.done.length dc',.slice oa on oc] 61)) w.heap.size 61 [.int .u8 c.kind,.int .i64 c.msg.id,.slice ma mn mc,.int .i64 c.msg.topic,.string c.msg.key,.string c.msg.body,.int .i64 c.id,.int .i64 c.time,.slice mb bn bc,.int .i64 c.topic,.int .i64 c.who,.int .i64 c.n,.int .i64 s.clock,.slice wa s.waits.length wc,.slice da s.done.length dc,.int .i64 s'.clock,.slice wa' s'.waits.length wc',.slice da' s'.done.length dc',.slice oa on oc]):=LH (Blk.new rfl)
 have HT1:=LH (HT.out.below hA)
 have HTB1:=LH (HTB.out.step hA)
 have HOB1:=LH (HOB.out.step hA)
 have HR1:=LH (HS1.out.reads.below hA)
 have HR2:=LH (HS2.out.reads.below hA)
 have HF1:Hid (Fr [4] w (w.alloc (.cells #[.int .u8 c.kind,.int .i64 c.msg.id,.slice ma mn mc,.int .i64 c.msg.topic,.string c.msg.key,.string c.msg.body,.int .i64 c.id,.int .i64 c.time,.slice mb bn bc,.int .i64 c.topic,.int .i64 c.who,.int .i64 c.n,.int .i64 s.clock,.slice wa s.waits.length wc,.slice da s.done.length dc,.int .i64 s'.clock,.slice wa' s'.waits.length wc',.slice da' s'.done.length dc',.slice oa on oc] 61))):=LH (Fr.below hA)
 have hol:=HOB.out.lt
 have HBW1:Hid (Below ob w (w.alloc (.cells #[.int .u8 c.kind,.int .i64 c.msg.id,.slice ma mn mc,.int .i64 c.msg.topic,.string c.msg.key,.string c.msg.body,.int .i64 c.id,.int .i64 c.time,.slice mb bn bc,.int .i64 c.topic,.int .i64 c.who,.int .i64 c.n,.int .i64 s.clock,.slice wa s.waits.length wc,.slice da s.done.length dc,.int .i64 s'.clock,.slice wa' s'.waits.length wc',.slice da' s'.done.length dc',.slice oa on oc] 61))):=LH ((Below.refl _ _).alloc (Nat.le_of_lt hol) _)
 have hxo:ob≠w.heap.size:=by omega
 obtain ⟨xb,hxb⟩:∃ xb,xb=w.heap.size:=⟨_,rfl⟩
 rw [← hxb] at HX1 ⊢
 clear hA HS1 HS2 HT HTB HOB hol hxo hxb
 generalize (w.alloc (.cells #[.int .u8 c.kind,.int .i64 c.msg.id,.slice ma mn mc,.int .i64 c.msg.topic,.string c.msg.key,.string c.msg.body,.int .i64 c.id,.int .i64 c.time,.slice mb bn bc,.int .i64 c.topic,.int .i64 c.who,.int .i64 c.n,.int .i64 s.clock,.slice wa s.waits.length wc,.slice da s.done.length dc,.int .i64 s'.clock,.slice wa' s'.waits.length wc',.slice da' s'.done.length dc',.slice oa on oc] 61))=w1 at HX1 HT1 HTB1 HOB1 HR1 HR2 HF1 HBW1 ⊢
 have xl:=HX1.out.lt
 have x0:=HX1.out.cell 0
 have x6:=HX1.out.cell 6
 have x7:=HX1.out.cell 7
 have x12:=HX1.out.cell 12
 have x13:=HX1.out.cell 13
 have x14:=HX1.out.cell 14
 have x15:=HX1.out.cell 15
 have x16:=HX1.out.cell 16
 have x17:=HX1.out.cell 17
 simp at x0 x6 x7 x12 x13 x14 x15 x16 x17
 by_cases hk:c.kind=2
 rotate_left
 ·have hkb:(c.kind != 2)=true:=by simpa using hk
  have HNK:=LH hk
  clear hk
  go_wp2_with fail
  refine bodyPost_end (v:=.tuple #[]) (by simp [results,Tryz.results13,go_sem]) rfl ⟨rfl,z,HOB1.out,fun hz=>⟨hz,by rw [HQ.out];exact fun h=>absurd h HNK.out⟩,HF1.out,HBW1.out⟩
 have hkb:(c.kind != 2)=false:=by simpa using hk
 obtain ⟨q,hq⟩:∃ q:Bool,q=true↔s=s':=by
  classical
  exact ⟨decide (s=s'),by simp⟩
 have KS:Hid (Calls Tryz.prog 14 #[.agg #[.int .i64 s.clock,.slice wa s.waits.length wc,.slice da s.done.length dc],.agg #[.int .i64 s'.clock,.slice wa' s'.waits.length wc',.slice da' s'.done.length dc']] w1 fun e w'=>e=.returned (.bool q)∧Below w1.heap.size w1 w'):=LH (skSame_any HR1.out HR2.out hq)
 have HQQ:Hid (QIff q (s=s')):=LH hq
 have HK:=LH hk
 clear hk hq
 go_wp2_with fail
 refine KS.out.mono ?_
 rintro e w2 ⟨rfl,hb⟩
 have HX2:=LH (HX1.out.step hb)
 have HT2:=LH (HT1.out.below hb)
 have HTB2:=LH (HTB1.out.step hb)
 have HOB2:=LH (HOB1.out.step hb)
 have HR2':=LH (HR1.out.below hb)
 have HF2:=LH (HF1.out.trans (Fr.below hb))
 have HBW2:Hid (Below ob w w2):=LH (HBW1.out.trans (hb.mono (Nat.le_of_lt HOB1.out.lt)))
 clear hb KS HX1 HT1 HTB1 HOB1 HR1 HR2 HF1 HBW1 x0 x6 x7 x12 x13 x14 x15 x16 x17 xl hkb
 cases q
 rotate_left
 ·go_wp2_with fail
  refine bodyPost_end (v:=.tuple #[]) (by simp [results,Tryz.results13,go_sem]) rfl ⟨rfl,z,HOB2.out,fun hz=>⟨hz,by rw [HQ.out];exact fun _ hne=>absurd (HQQ.out.1 rfl) hne⟩,HF2.out,HBW2.out⟩
 have hne:s≠s':=fun e=>by
  have:=HQQ.out.2 e
  cases this
 have HFB:=LH (HFA.out HK.out hne)
 have HNE:=LH hne
 obtain ⟨a',cap',b',bc',ev,hwr,-⟩:=HR2'.out
 simp at ev
 obtain ⟨⟨rfl,rfl⟩,rfl,rfl⟩:=ev
 have HW2:=LH hwr
 have xl:=HX2.out.lt
 have x6:=HX2.out.cell 6
 have x13:=HX2.out.cell 13
 simp at x6 x13
 have KI:Hid (Calls Tryz.prog 15 #[.slice wa s.waits.length wc,.func (.func 16) #[] #[.pointer (some ⟨xb,0,none⟩)]] w2 fun e w'=>(∃ i:Int,e=.returned (.int .i64 i)∧IdxW s.waits c.id i)∧Below w2.heap.size w2 w'):=LH (idxW_any hwr x6)
 clear hne hwr HFA HR2'
 go_wp2_with fail
 refine KI.out.mono ?_
 rintro e w3 ⟨⟨i,rfl,hi⟩,hb⟩
 obtain ⟨k,rfl,hkl,hget⟩:=HFB.out i hi
 have HX3:=LH (HX2.out.step hb)
 have HT3:=LH (HT2.out.below hb)
 have HTB3:=LH (HTB2.out.step hb)
 have HOB3:=LH (HOB2.out.step hb)
 have hwr:=HW2.out.below hb
 have HF3:=LH (HF2.out.trans (Fr.below hb))
 have HBW3:Hid (Below ob w w3):=LH (HBW2.out.trans (hb.mono (Nat.le_of_lt HOB2.out.lt)))
 obtain ⟨pl,hpl,⟨hsl,-⟩,hin⟩:=hwr
 have hkp:k < pl.length:=by rw [← hpl,List.length_map] at hkl;exact hkl
 obtain ⟨a',cap',e1,hc1,hc2,-,h5⟩:=hsl
 obtain ⟨gb,off,e2,hat⟩:=h5 (by omega)
 have e3:wa=some ⟨gb,off,none⟩:=by
  rw [e2] at e1
  simp at e1
  exact e1.1
 subst e3
 have hcc:=fun j (hj:j < 7)=>hat k hkp j hj
 have hgi:=hin pl[k] (List.getElem_mem hkp)
 have hpm:pl[k].2=s.waits.getD (posW s.waits c.id) default:=by
  rw [← hget]
  simp [← hpl]
 have hge:=HGR.out pl[k].2 (by rw [← hpl];exact List.mem_map.2 ⟨_,List.getElem_mem hkp,rfl⟩)
 obtain ⟨p,hp⟩:∃ p,p=pl[k]:=⟨_,rfl⟩
 rw [← hp] at hcc hgi hpm hge
 obtain ⟨u1,⟨⟨i1,g1,t1,k1,b1⟩,tm,f1⟩⟩:=p
 simp only at hgi hge
 obtain ⟨ga,gc,rfl,-⟩:=hgi.shape
 obtain ⟨wn,hwn⟩:∃ wn,wn=s.waits.length:=⟨_,rfl⟩
 rw [← hwn] at hkl HX3 ⊢
 have hk0:(0:Int)≤(k:Int):=by omega
 have hk1:(k:Int) < (wn:Int):=by omega
 have y0:=hcc 0 (by omega)
 have y1:=hcc 1 (by omega)
 have y2:=hcc 2 (by omega)
 have y3:=hcc 3 (by omega)
 have y4:=hcc 4 (by omega)
 simp only [← Nat.add_assoc,Nat.add_zero,wtCs] at y0 y1 y2 y3 y4
 have hgm:gb < w3.heap.size:=World.block_lt_of_cell? w3 _ y0
 obtain ⟨⟨fn,fb⟩,hfin⟩:∃ R,R=finT T ⟨i1,g1,t1,k1,b1⟩:=⟨_,rfl⟩
 obtain ⟨gn,hgn⟩:∃ gn,gn=g1.length:=⟨_,rfl⟩
 have KF:Hid (∀ W,Below w3.heap.size w3 W→Calls Tryz.prog 17 #[.slice ta tn tc,.agg #[.int .i64 i1,.slice ga gn gc,.int .i64 t1,.string k1,.string b1]] W fun e w'=>e=.returned (.tuple #[.int .i64 fn,.bool fb])∧Below W.heap.size W w'):=LH fun W hW=>by
  have:=final_tab (m:=⟨i1,g1,t1,k1,b1⟩) (ma:=ga) (mc:=gc) (HT3.out.below hW) (hgi.below hW) hge
  rw [← hfin] at this
  rw [hgn]
  exact this
 have HQ3:Hid (Q=(finT T ⟨i1,g1,t1,k1,b1⟩=(c.time,true))):=by
  have:=HQ.out
  rw [← hpm] at this
  simp only at this
  rw [this]
  exact LH (propext ⟨fun h=>h HK.out HNE.out,fun h _ _=>h⟩)
 have HFI:=LH hfin
 rw [← hgn] at y1
 clear hb hi hget hpl hin hcc hat h5 e1 e2 hc1 hc2 hp hgi hge hpm hfin hgn hkl hkp hwn KI HFB HX2 HT2 HTB2 HOB2 HF2 HBW2 HW2 HQ x6 x13 xl HGR
 have xl:=HX3.out.lt
 have x7:=HX3.out.cell 7
 have x13:=HX3.out.cell 13
 simp at x7 x13
 obtain ⟨t0,tz⟩:=cells1 HTB3.out
 have tl:=HTB3.out.lt
 go_upto_region 3 with fail
 refine wp_region_below (by kernel_rfl) (by kernel_rfl) ?_
 repeat
  with_reducible refine wpQuiet_step (fun K hK=>?_)
  first
   |refine quiet_not (by rfl) (hK _ ?_)
   |refine quiet_any (by rfl) ?_
    apply Exists.intro
    refine ⟨fun wq hq=>?_,hK _ ?_⟩
    ·obtain ⟨qc,_⟩:=bcell hq.out
     go_simp
     first
      |done
      |(with_reducible rfl)
      |((go_at_call 17;exact call_in hq.out (KF.out _ (below_step (by repeat (first|with_reducible (first|exact Below.refl _ _|apply Below.drew|apply below_alloc)|((first|with_reducible refine Below.alloc ?_ ?_ _|with_reducible refine Below.setCell ?_ ?_ _);rotate_left;focus (first|(simp <;> omega)|omega)))) hq.out))))
  clear hK K
  simp only [Act.put,List.setIfInBounds_toArray,List.set_cons_zero,List.set_cons_succ]
 refine wpQuiet_nil ?_
 rintro w4 hb
 have HX4:=LH (HX3.out.step hb)
 have HOB4:=LH (HOB3.out.step hb)
 have HF4:=LH (HF3.out.trans (Fr.below hb))
 have HBW4:Hid (Below ob w w4):=LH (HBW3.out.trans (hb.mono (Nat.le_of_lt HOB3.out.lt)))
 clear hb HX3 HT3 HTB3 HOB3 HF3 HBW3 KF x7 x13 xl t0 tz tl y0 y1 y2 y3 y4 hgm hk0 hk1
 have xl:=HX4.out.lt
 have x7:=HX4.out.cell 7
 simp at x7
 obtain ⟨o0,oz⟩:=cells1 HOB4.out
 have ol:=HOB4.out.lt
 cases z
 ·go_wp2_with fail
  refine bodyPost_end (v:=.tuple #[]) (by simp [results,Tryz.results13,go_sem]) rfl ⟨rfl,false,HOB4.out.set_ 0 _,(fun h=>by cases h),HF4.out.trans (Fr.set HOB4.out (by decide)),HBW4.out.setCell (Nat.le_refl _) _⟩
 cases fb
 ·go_wp2_with fail
  refine bodyPost_end (v:=.tuple #[]) (by simp [results,Tryz.results13,go_sem]) rfl ⟨rfl,false,HOB4.out.set_ 0 _,(fun h=>by cases h),HF4.out.trans (Fr.set HOB4.out (by decide)),HBW4.out.setCell (Nat.le_refl _) _⟩
 by_cases ht:fn=c.time
 ·have htb:(fn == c.time)=true:=by simpa using ht
  have HTM:=LH ht
  clear ht
  go_wp2_with fail
  refine bodyPost_end (v:=.tuple #[]) (by simp [results,Tryz.results13,go_sem]) rfl ⟨rfl,true,HOB4.out.set_ 0 _,(fun _=>⟨rfl,by rw [HQ3.out,← HFI.out,HTM.out]⟩),HF4.out.trans (Fr.set HOB4.out (by decide)),HBW4.out.setCell (Nat.le_refl _) _⟩
 ·have htb:(fn == c.time)=false:=by simpa using ht
  clear ht
  go_wp2_with fail
  refine bodyPost_end (v:=.tuple #[]) (by simp [results,Tryz.results13,go_sem]) rfl ⟨rfl,false,HOB4.out.set_ 0 _,(fun h=>by cases h),HF4.out.trans (Fr.set HOB4.out (by decide)),HBW4.out.setCell (Nat.le_refl _) _⟩
end Go.Proofs.YtkkohllhebdlcaaGreatDoor
