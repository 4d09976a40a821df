/-
  Proved here: (*group.home).do. Conditions: the group is one that a log made; the co
-/
import Derived.Test.YtkkohllhebdlcaaGreatDoorY39
set_option maxRecDepth 100000
namespace Go.Proofs.YtkkohllhebdlcaaGreatDoor
open Go.RowKit
theorem okCom_top {c:PC} (h:okCom c=true) (hk:4≤c.kind):0≤c.id∧c.id < 6291456:=by
 have:=okCom_kind h
 unfold okP at this
 have h0:c.kind≠0:=by omega
 have h1:c.kind≠1:=by omega
 have h2:c.kind≠2:=by omega
 have h3:c.kind≠3:=by omega
 simp only [h0,h1,h2,h3,if_false] at this
 have hon:onT c=true:=by
  split at this
  ·rw [Bool.and_eq_true] at this
   exact this.1
  ·split at this
   ·exact this
   ·cases this
 rw [onT,Bool.and_eq_true] at hon
 have hid:=hon.1
 simp only [idB,inB,Bool.and_eq_true,decide_eq_true_eq] at hid
 omega
def applyT:ByteArray:={ data:=#[97,112,112,108,121] }
def DoHEnd (w0:World) (g b:Nat) (r:Gs × List Tk × Int) (w:World) (e:Ending) (w':World):Prop:=∃ a cap,e=.returned (.tuple #[.slice a r.2.1.length cap,errV applyT r.2.2])∧OwnTk w' w.heap.size (.slice a r.2.1.length cap) r.2.1∧HomeAt w' g b r.1∧Kp g b w w'∧Below w0.heap.size w0 w'
theorem at_box3D {P:Program} {f:FuncId} {args:Array Value} {Q:Ending→World→Prop} {w:World} {t:TypeId} {x y z:Value} (k:Blk (w.alloc (.cells #[x,y,z] t)).drew w.heap.size t [x,y,z]→Calls P f args (w.alloc (.cells #[x,y,z] t)).drew Q):Calls P f args (w.alloc (.cells #[x,y,z] t)).drew Q:=k (Blk.new (w:=w) (t:=t) (cs:=[x,y,z]) rfl)
theorem set3_far {w:World} {g:Nat} {p q r:Value}:∀ k,k≠g→(((w.setCell ⟨g,0,none⟩ p).setCell ⟨g,1,none⟩ q).setCell ⟨g,2,none⟩ r).heap[k]?=w.heap[k]?:=fun k hk=>(heap_set _ _ _ _ k hk).trans ((heap_set _ _ _ _ k hk).trans (heap_set _ _ _ _ k hk))
theorem OwnSk.box3 {w:World} {B g:Nat} {v p q r:Value} {s:Sk} {cs:List Value} (h:OwnSk w B v s) (hb:Blk w g 32 cs):OwnSk (((w.setCell ⟨g,0,none⟩ p).setCell ⟨g,1,none⟩ q).setCell ⟨g,2,none⟩ r) B v s:=by
 obtain ⟨a,c,b,d,h1,⟨pl,e1,e2,e3⟩,h3⟩:=h
 exact ⟨a,c,b,d,h1,⟨pl,e1,row_far e2 set3_far (row_blk e2 hb (by decide)),fun p hp=>row_far (e3 p hp) set3_far (row_blk (e3 p hp) hb (by decide))⟩,row_far h3 set3_far (row_blk h3 hb (by decide))⟩
theorem OwnSk.le {w:World} {B B':Nat} {v:Value} {s:Sk} (h:OwnSk w B v s) (hB:B'≤B):OwnSk w B' v s:=by
 obtain ⟨a,c,b,d,h1,⟨pl,e1,e2,e3⟩,h3⟩:=h
 exact ⟨a,c,b,d,h1,⟨pl,e1,ownsRow_le e2 hB,fun p hp=>ownsRow_le (e3 p hp) hB⟩,ownsRow_le h3 hB⟩
theorem OwnMs.stab {w:World} {B g b:Nat} {v:Value} {l:List PM} (h:OwnMs w B v l) (hg:g < B) (hb:b < B):MsgsS w g b v l:=by
 obtain ⟨pl,rfl,h2,h3⟩:=h
 rw [List.length_map] at h2
 exact ⟨pl,rfl,fun w' hk=>sliceR_of_owns msgC_len (ownsRow_kp h2 hk (Or.inl hg) (Or.inl hb) (by decide)),fun p hp=>isSl_own (h3 p hp)⟩
theorem OwnMs.shape {w:World} {B:Nat} {v:Value} {l:List PM} (h:OwnMs w B v l):∃ a cap,v=.slice a l.length cap:=by
 obtain ⟨pl,rfl,h2,h3⟩:=h
 exact row_shape h2
theorem OwnMs.agree {w w':World} {B:Nat} {v:Value} {l:List PM} (h:OwnMs w B v l) (hh:∀ k,B≤k→k < w.heap.size→w'.heap[k]?=w.heap[k]?):OwnMs w' B v l:=by
 obtain ⟨pl,h1,h2,h3⟩:=h
 exact ⟨pl,h1,ownsRow_agree h2 hh,fun p hp=>ownsRow_agree (h3 p hp) hh⟩
set_option maxHeartbeats 8000000 in
set_option maxRecDepth 100000 in
theorem do_any {w0 w:World} {g b:Nat} {s:Gs} {c:PC} {cv:Value} {group:Int} (h:HomeAt w g b s) (hk:OkG s) (h0:Below w0.heap.size w0 w) (hg:w0.heap.size≤g) (hb:w0.heap.size≤b) (hc:ComR w cv c) (ho:okCom c=true) :
  Calls Tryz.prog 22 #[.pointer (some ⟨g,0,none⟩),.int .i64 group,cv] w (DoHEnd w0 g b (stepQ group c s) w):=by
 have KO:Hid (∀ W,Below w.heap.size w W→4≤c.kind→Calls Tryz.prog 41 #[.pointer (some ⟨g,0,none⟩),cv] W (TopEnd w0 g b ⟨s.sk,(onTopM c s.last s.m).2,(onTopM c s.last s.m).1⟩ W)):=fun W hW h4 =>
  onTop_any (h.keep hW) hk (Below.step h0 hW h0.size) hg hb (hc.below hW) (okCom_top ho h4).1 (okCom_top ho h4).2
 have HH:=LH h
 have HK:=LH hk
 obtain ⟨wv,dv,ta,tc,h1,h2,h3,h4,h5⟩:=h
 obtain ⟨⟨x,s',l⟩,hR⟩:∃ R,R=apS group c s.sk:=⟨_,rfl⟩
 have HR:=LH hR
 have KA:Hid (∀ W,Kp g b w W→Below w.heap.size w W→Calls Tryz.prog 30 #[.agg #[.int .i64 s.sk.clock,wv,dv],.int .i64 group,cv] W fun e W'=>∃ a4 n4 c4 b4 m4 d4 la lc,e=.returned (.tuple #[.agg #[.int .i64 s'.clock,.slice a4 n4 c4,.slice b4 m4 d4],.slice la l.length lc,.int .i64 x])∧OwnSk W' W.heap.size (.agg #[.int .i64 s'.clock,.slice a4 n4 c4,.slice b4 m4 d4]) s'∧OwnMs W' W.heap.size (.slice la l.length lc) l∧Below W.heap.size W W'):=fun W hW hB =>
  (apply_any (h4 W hW.weak) (hc.below hB) hR).mono fun e W' ⟨v',lv,he,ho,hm,hb⟩=>by
   obtain ⟨la,lc,rfl⟩:=hm.shape
   obtain ⟨a,c',b',d,ev,_⟩:=id ho
   subst ev
   exact ⟨a,_,c',b',_,d,la,lc,he,ho,hm,hb⟩
 have HB:=LH h0
 have HQ:=LH h1
 have HL:=LH h2
 have HGB:=LH h3
 have S1:=LH h4
 have S2:=LH h5
 obtain ⟨ck,hck⟩:∃ ck,ck=s.sk.clock:=⟨_,rfl⟩
 have HCK:=LH hck
 rw [← hck] at KA HQ S1
 obtain ⟨ma,mc,mb,bc,rfl,-,-⟩:=hc
 obtain ⟨kd,⟨i1,gl,t1,k1,bo⟩,ci,ct,ml,cp,cw,cn⟩:=c
 obtain ⟨gn,hgn⟩:∃ gn,gn=gl.length:=⟨_,rfl⟩
 obtain ⟨mn,hmn⟩:∃ mn,mn=ml.length:=⟨_,rfl⟩
 obtain ⟨ln,hln⟩:∃ ln,ln=l.length:=⟨_,rfl⟩
 have HLN:=LH hln
 simp only at KO KA ⊢
 rw [← hgn,← hmn] at KO KA ⊢
 rw [← hln] at KA
 have HE:Hid (stepQ group ⟨kd,⟨i1,gl,t1,k1,bo⟩,ci,ct,ml,cp,cw,cn⟩ s=if 4≤kd then (⟨s.sk,(onTopM ⟨kd,⟨i1,gl,t1,k1,bo⟩,ci,ct,ml,cp,cw,cn⟩ s.last s.m).2,(onTopM ⟨kd,⟨i1,gl,t1,k1,bo⟩,ci,ct,ml,cp,cw,cn⟩ s.last s.m).1⟩,[],0) else if x≠0 then (s,[],x) else (⟨s',(putsM s.m [] l).1,s.last⟩,(putsM s.m [] l).2,0)):=by
  rw [stepQ,← hR]
  exact LH rfl
 have gl1:=HQ.out.lt
 have bl1:=HL.out.lt
 clear h1 h2 h3 h4 h5 hk h0 hgn hmn hck hR hln ho
 go_enter Tryz.func22,Tryz.ntmps22
 by_cases h4:4≤kd
 ·have HE2:=HE.out
  rw [if_pos h4] at HE2
  have HE3:=LH HE2
  have KO2:=LH (fun W hW=>KO.out W hW h4)
  clear HE HE2 KO
  go_wp2_with fail
  refine (KO2.out _ (by repeat (first|with_reducible (first|exact Below.refl _ _|apply Below.drew|apply below_alloc)|((first|with_reducible refine Below.alloc ?_ ?_ _|with_reducible refine Below.setCell ?_ ?_ _);rotate_left;focus (first|(simp <;> omega)|omega))))).mono ?_
  rintro e w2 ⟨rfl,hh,hkp,hb2⟩
  have HH2:=LH hh
  have HK2:=LH ((Kp.below (g:=g) (b:=b) (w:=w) ((Below.refl _ _).alloc (Nat.le_refl _) _)).trans hkp)
  have HB2:=LH hb2
  clear hh hkp hb2
  go_wp2_with fail
  rw [HE3.out]
  refine bodyPost_ret (v:=.tuple #[.slice none 0 0,.nilIface]) (by simp [results,Tryz.results22,go_sem]) rfl ⟨none,0,rfl,World.ownsRow_nil _ _ _ _,HH2.out,HK2.out,HB2.out⟩
 have HE2:=HE.out
 rw [if_neg h4] at HE2
 have HE3:=LH HE2
 clear HE HE2 KO
 go_upto_region 4 with fail
 have hB0:Below w.heap.size w (w.alloc (.cells #[.int .u8 kd,.int .i64 i1,.slice ma gn mc,.int .i64 t1,.string k1,.string bo,.int .i64 ci,.int .i64 ct,.slice mb mn bc,.int .i64 cp,.int .i64 cw,.int .i64 cn] 58)):=(Below.refl _ _).alloc (Nat.le_refl _) _
 have HC:Hid (Blk (w.alloc (.cells #[.int .u8 kd,.int .i64 i1,.slice ma gn mc,.int .i64 t1,.string k1,.string bo,.int .i64 ci,.int .i64 ct,.slice mb mn bc,.int .i64 cp,.int .i64 cw,.int .i64 cn] 58)) w.heap.size 58 [.int .u8 kd,.int .i64 i1,.slice ma gn mc,.int .i64 t1,.string k1,.string bo,.int .i64 ci,.int .i64 ct,.slice mb mn bc,.int .i64 cp,.int .i64 cw,.int .i64 cn]):=LH (Blk.new rfl)
 have HQ2:=LH (HQ.out.step hB0)
 have HL2:=LH (HL.out.step hB0)
 have K2:=LH (Kp.below (g:=g) (b:=b) hB0)
 have HB2:=LH (Below.step HB.out hB0 HB.out.size)
 have HW2:=LH hB0
 clear hB0
 generalize w.alloc (.cells #[.int .u8 kd,.int .i64 i1,.slice ma gn mc,.int .i64 t1,.string k1,.string bo,.int .i64 ci,.int .i64 ct,.slice mb mn bc,.int .i64 cp,.int .i64 cw,.int .i64 cn] 58)=w2 at HC HQ2 HL2 K2 HB2 HW2 ⊢
 obtain ⟨⟨q0,q1,q2⟩,⟨q3,q4,q5⟩,qz⟩:=cells6 HQ2.out
 obtain ⟨⟨⟨p0,p1,p2,p3⟩,⟨p4,p5,p6,p7⟩,p8,p9,p10,p11⟩,pz⟩:=cells12 HC.out
 have gl3:=HQ2.out.lt
 have cl3:=HC.out.lt
 have bl3:=HL2.out.lt
 have sz2:=HW2.out.size
 go_region_law (first
  |(go_simp;go_at_call 30;(first|refine at_box3 fun HT=>?_|refine at_box3D fun HT=>?_);refine (KA.out _ (K2.out.trans (Kp.below (by repeat (first|with_reducible (first|exact Below.refl _ _|apply Below.drew|apply below_alloc)|((first|with_reducible refine Below.alloc ?_ ?_ _|with_reducible refine Below.setCell ?_ ?_ _);rotate_left;focus (first|(simp <;> omega)|omega)))))) (below_step HW2.out (by repeat (first|with_reducible (first|exact Below.refl _ _|apply Below.drew|apply below_alloc)|((first|with_reducible refine Below.alloc ?_ ?_ _|with_reducible refine Below.setCell ?_ ?_ _);rotate_left;focus (first|(simp <;> omega)|omega)))))).mono ?_;rintro e w4 ⟨a4,n4,c4,b4,m4,d4,la,lc,rfl,os,om,hb⟩;have HX4:Hid (Below w2.heap.size w2 w4):=below_step (by repeat (first|with_reducible (first|exact Below.refl _ _|apply Below.drew|apply below_alloc)|((first|with_reducible refine Below.alloc ?_ ?_ _|with_reducible refine Below.setCell ?_ ?_ _);rotate_left;focus (first|(simp <;> omega)|omega)))) hb;have OS:Hid (OwnSk w4 w2.heap.size (.agg #[.int .i64 s'.clock,.slice a4 n4 c4,.slice b4 m4 d4]) s'):=LH (OwnSk.le os (by simp));have OM:Hid (OwnMs w4 w2.heap.size (.slice la ln lc) l):=LH (OwnMs.le om (by simp));have HQ4:=LH (HQ2.out.step HX4.out);obtain ⟨⟨u0,u1,u2⟩,⟨u3,u4,u5⟩,uz⟩:=cells6 HQ4.out;have sl4:=HX4.out.size;have HT4:Blk w4 w2.heap.size 32 [.int .i64 0,.slice none 0 0,.slice none 0 0]:=HT.step hb;obtain ⟨v0,v1,v2,vz⟩:=cells3 HT4;have vl:=HT4.lt;have HTT:=LH HT4;clear hb os om HT HT4)
  |(go_simp;go_at_call 30;refine (KA.out _ (K2.out.trans (Kp.below (by repeat (first|with_reducible (first|exact Below.refl _ _|apply Below.drew|apply below_alloc)|((first|with_reducible refine Below.alloc ?_ ?_ _|with_reducible refine Below.setCell ?_ ?_ _);rotate_left;focus (first|(simp <;> omega)|omega)))))) (below_step HW2.out (by repeat (first|with_reducible (first|exact Below.refl _ _|apply Below.drew|apply below_alloc)|((first|with_reducible refine Below.alloc ?_ ?_ _|with_reducible refine Below.setCell ?_ ?_ _);rotate_left;focus (first|(simp <;> omega)|omega)))))).mono ?_;rintro e w4 ⟨a4,n4,c4,b4,m4,d4,la,lc,rfl,os,om,hb⟩;have HX4:Hid (Below w2.heap.size w2 w4):=below_step (by repeat (first|with_reducible (first|exact Below.refl _ _|apply Below.drew|apply below_alloc)|((first|with_reducible refine Below.alloc ?_ ?_ _|with_reducible refine Below.setCell ?_ ?_ _);rotate_left;focus (first|(simp <;> omega)|omega)))) hb;have OS:Hid (OwnSk w4 w2.heap.size (.agg #[.int .i64 s'.clock,.slice a4 n4 c4,.slice b4 m4 d4]) s'):=LH (OwnSk.le os (by simp));have OM:Hid (OwnMs w4 w2.heap.size (.slice la ln lc) l):=LH (OwnMs.le om (by simp));have HQ4:=LH (HQ2.out.step HX4.out);obtain ⟨⟨u0,u1,u2⟩,⟨u3,u4,u5⟩,uz⟩:=cells6 HQ4.out;have sl4:=HX4.out.size;clear hb os om))
 all_goals
  first
   |(show Exit.then _ _ _ _ (w4.alloc (.cells #[.int .i64 s'.clock,.slice a4 n4 c4,.slice b4 m4 d4] 32))
     have HX5:Hid (Below w2.heap.size w2 (w4.alloc (.cells #[.int .i64 s'.clock,.slice a4 n4 c4,.slice b4 m4 d4] 32))):=LH (HX4.out.alloc HX4.out.size _)
     have HQ5:Hid (Blk (w4.alloc (.cells #[.int .i64 s'.clock,.slice a4 n4 c4,.slice b4 m4 d4] 32)) g 80 [.int .i64 ck,wv,dv,ta,tc,.slice (some ⟨b,0,none⟩) 6 6]):=LH (HQ2.out.step HX5.out)
     have HL5:Hid (Blk (w4.alloc (.cells #[.int .i64 s'.clock,.slice a4 n4 c4,.slice b4 m4 d4] 32)) b 3 (rowVals s.last)):=LH (HL2.out.step HX5.out)
     have OS5:Hid (OwnSk (w4.alloc (.cells #[.int .i64 s'.clock,.slice a4 n4 c4,.slice b4 m4 d4] 32)) w2.heap.size (.agg #[.int .i64 s'.clock,.slice a4 n4 c4,.slice b4 m4 d4]) s'):=LH (OS.out.keep ((Below.refl _ _).alloc (Nat.le_refl _) _))
     have OM5:Hid (OwnMs (w4.alloc (.cells #[.int .i64 s'.clock,.slice a4 n4 c4,.slice b4 m4 d4] 32)) w2.heap.size (.slice la ln lc) l):=LH (OM.out.keep ((Below.refl _ _).alloc (Nat.le_refl _) _))
     have HT5:Hid (Blk (w4.alloc (.cells #[.int .i64 s'.clock,.slice a4 n4 c4,.slice b4 m4 d4] 32)) w4.heap.size 32 [.int .i64 s'.clock,.slice a4 n4 c4,.slice b4 m4 d4]):=LH (Blk.new rfl)
     clear HX4 HQ4 OS OM
     try clear HTT
     try clear v0 v1 v2 vz vl
     clear u0 u1 u2 u3 u4 u5 uz
     generalize (w4.alloc (.cells #[.int .i64 s'.clock,.slice a4 n4 c4,.slice b4 m4 d4] 32))=w5 at HX5 HQ5 HL5 OS5 OM5 HT5 ⊢       )
   |(show Exit.then _ _ _ _ (((w4.setCell ⟨w2.heap.size,0,none⟩ (.int .i64 s'.clock)).setCell ⟨w2.heap.size,1,none⟩ (.slice a4 n4 c4)).setCell ⟨w2.heap.size,2,none⟩ (.slice b4 m4 d4))
     have HX5:Hid (Below w2.heap.size w2 (((w4.setCell ⟨w2.heap.size,0,none⟩ (.int .i64 s'.clock)).setCell ⟨w2.heap.size,1,none⟩ (.slice a4 n4 c4)).setCell ⟨w2.heap.size,2,none⟩ (.slice b4 m4 d4))):=LH (((HX4.out.setCell (Nat.le_refl _) _).setCell (Nat.le_refl _) _).setCell (Nat.le_refl _) _)
     have HQ5:Hid (Blk (((w4.setCell ⟨w2.heap.size,0,none⟩ (.int .i64 s'.clock)).setCell ⟨w2.heap.size,1,none⟩ (.slice a4 n4 c4)).setCell ⟨w2.heap.size,2,none⟩ (.slice b4 m4 d4)) g 80 [.int .i64 ck,wv,dv,ta,tc,.slice (some ⟨b,0,none⟩) 6 6]):=LH (HQ2.out.step HX5.out)
     have HL5:Hid (Blk (((w4.setCell ⟨w2.heap.size,0,none⟩ (.int .i64 s'.clock)).setCell ⟨w2.heap.size,1,none⟩ (.slice a4 n4 c4)).setCell ⟨w2.heap.size,2,none⟩ (.slice b4 m4 d4)) b 3 (rowVals s.last)):=LH (HL2.out.step HX5.out)
     have OS5:Hid (OwnSk (((w4.setCell ⟨w2.heap.size,0,none⟩ (.int .i64 s'.clock)).setCell ⟨w2.heap.size,1,none⟩ (.slice a4 n4 c4)).setCell ⟨w2.heap.size,2,none⟩ (.slice b4 m4 d4)) w2.heap.size (.agg #[.int .i64 s'.clock,.slice a4 n4 c4,.slice b4 m4 d4]) s'):=LH (OS.out.box3 HTT.out)
     have OM5:Hid (OwnMs (((w4.setCell ⟨w2.heap.size,0,none⟩ (.int .i64 s'.clock)).setCell ⟨w2.heap.size,1,none⟩ (.slice a4 n4 c4)).setCell ⟨w2.heap.size,2,none⟩ (.slice b4 m4 d4)) w2.heap.size (.slice la ln lc) l):=LH (OM.out.blk HTT.out set3_far (by decide) (by decide))
     have HT5:Hid (Blk (((w4.setCell ⟨w2.heap.size,0,none⟩ (.int .i64 s'.clock)).setCell ⟨w2.heap.size,1,none⟩ (.slice a4 n4 c4)).setCell ⟨w2.heap.size,2,none⟩ (.slice b4 m4 d4)) w2.heap.size 32 [.int .i64 s'.clock,.slice a4 n4 c4,.slice b4 m4 d4]):=LH (((HTT.out.set_ 0 _).set_ 1 _).set_ 2 _)
     clear HX4 HQ4 OS OM
     try clear HTT
     try clear v0 v1 v2 vz vl
     clear u0 u1 u2 u3 u4 u5 uz
     generalize (((w4.setCell ⟨w2.heap.size,0,none⟩ (.int .i64 s'.clock)).setCell ⟨w2.heap.size,1,none⟩ (.slice a4 n4 c4)).setCell ⟨w2.heap.size,2,none⟩ (.slice b4 m4 d4))=w5 at HX5 HQ5 HL5 OS5 OM5 HT5 ⊢       )
 all_goals
  obtain ⟨⟨u0,u1,u2⟩,⟨u3,u4,u5⟩,uz⟩:=cells6 HQ5.out
  obtain ⟨v0,v1,v2,vz⟩:=cells3 HT5.out
  have vl:=HT5.out.lt
  have ul:=HQ5.out.lt
  have K5:Hid (Kp g b w w5):=LH (K2.out.trans (Kp.below HX5.out))
  have HB5:Hid (Below w0.heap.size w0 w5):=LH (Below.step HB2.out HX5.out HB2.out.size)
  by_cases hx:x=0
  ·have hxb:(x != 0)=false:=by simpa using hx
   have HE4:Hid (stepQ group ⟨kd,⟨i1,gl,t1,k1,bo⟩,ci,ct,ml,cp,cw,cn⟩ s=(⟨s',(putsM s.m [] l).1,s.last⟩,(putsM s.m [] l).2,0)):=by
    rw [HE3.out,if_neg (fun h=>h hx)]
    exact LH rfl
   have HLEN:=apS_len (g:=group) (c:=⟨kd,⟨i1,gl,t1,k1,bo⟩,ci,ct,ml,cp,cw,cn⟩) (s:=s.sk) (by rw [← HR.out];exact hx)
   rw [← HR.out] at HLEN
   simp only at HLEN
   have HLL:=LH HLEN
   clear HLEN hx HE3 HR
   go_upto_region 8 with fail
   have HQ7:Hid (Blk (((w5.setCell ⟨g,0,none⟩ (.int .i64 s'.clock)).setCell ⟨g,1,none⟩ (.slice a4 n4 c4)).setCell ⟨g,2,none⟩ (.slice b4 m4 d4)) g 80 [.int .i64 s'.clock,.slice a4 n4 c4,.slice b4 m4 d4,ta,tc,.slice (some ⟨b,0,none⟩) 6 6]):=LH (((HQ5.out.set_ 0 _).set_ 1 _).set_ 2 _)
   have hgb':b≠g:=fun e=>HGB.out e.symm
   have HL7:Hid (Blk (((w5.setCell ⟨g,0,none⟩ (.int .i64 s'.clock)).setCell ⟨g,1,none⟩ (.slice a4 n4 c4)).setCell ⟨g,2,none⟩ (.slice b4 m4 d4)) b 3 (rowVals s.last)):=LH (((HL5.out.far hgb' _).far hgb' _).far hgb' _)
   have OS7:Hid (OwnSk (((w5.setCell ⟨g,0,none⟩ (.int .i64 s'.clock)).setCell ⟨g,1,none⟩ (.slice a4 n4 c4)).setCell ⟨g,2,none⟩ (.slice b4 m4 d4)) w2.heap.size (.agg #[.int .i64 s'.clock,.slice a4 n4 c4,.slice b4 m4 d4]) s'):=LH (OwnSk.agree OS5.out (fun j hj _=>set3_far j (by omega)))
   have OM7:Hid (OwnMs (((w5.setCell ⟨g,0,none⟩ (.int .i64 s'.clock)).setCell ⟨g,1,none⟩ (.slice a4 n4 c4)).setCell ⟨g,2,none⟩ (.slice b4 m4 d4)) w2.heap.size (.slice la ln lc) l):=LH (OwnMs.agree OM5.out (fun j hj _=>set3_far j (by omega)))
   have K7:Hid (Kp g b w (((w5.setCell ⟨g,0,none⟩ (.int .i64 s'.clock)).setCell ⟨g,1,none⟩ (.slice a4 n4 c4)).setCell ⟨g,2,none⟩ (.slice b4 m4 d4))):=LH (((K5.out.trans Kp.set1).trans Kp.set1).trans Kp.set1)
   have HB7:Hid (Below w0.heap.size w0 (((w5.setCell ⟨g,0,none⟩ (.int .i64 s'.clock)).setCell ⟨g,1,none⟩ (.slice a4 n4 c4)).setCell ⟨g,2,none⟩ (.slice b4 m4 d4))):=LH (((HB5.out.setCell hg _).setCell hg _).setCell hg _)
   clear HQ5 HL5 OS5 OM5 u0 u1 u2 u3 u4 u5 uz v0 v1 v2 vz HT5 hgb'
   generalize (((w5.setCell ⟨g,0,none⟩ (.int .i64 s'.clock)).setCell ⟨g,1,none⟩ (.slice a4 n4 c4)).setCell ⟨g,2,none⟩ (.slice b4 m4 d4))=w7 at HQ7 HL7 OS7 OM7 K7 HB7 ⊢
   have HH7:Hid (HomeAt w7 g b ⟨s',s.m,s.last⟩):=LH ⟨_,_,_,_,HQ7.out,HL7.out,HGB.out,Stab.sk OS7.out gl3 bl3,S2.out.go K7.out⟩
   have KD:Hid (Calls Tryz.prog 42 #[.pointer (some ⟨g,0,none⟩),.slice la ln lc] w7 (DlvHEnd w0 g b ⟨s',(putsM s.m [] l).1,s.last⟩ (putsM s.m [] l).2 w7)) :=
    dlvH_any (D:=s.sk.done.length) HH7.out HB7.out hg (OM7.out.stab gl3 bl3) HK.out.may HK.out.len (by have:=HLL.out;omega)
   go_wp2_with fail
   refine KD.out.mono ?_
   rintro e w8 ⟨a8,c8,rfl,ot,hh,hkp,hb8⟩
   have OT8:=LH ot
   have HH8:=LH hh
   have K8:Hid (Kp g b w w8):=LH (K7.out.trans hkp)
   have HB8:=LH hb8
   have hs78:Hid (w.heap.size≤w7.heap.size):=LH K7.out.1
   clear ot hh hkp hb8
   go_wp2_with fail
   rw [HE4.out]
   refine bodyPost_ret (v:=.tuple #[.slice a8 (putsM s.m [] l).2.length c8,.nilIface]) (by simp [results,Tryz.results22,go_sem]) rfl ⟨a8,c8,rfl,ownsRow_le OT8.out hs78.out,HH8.out,K8.out,HB8.out⟩
  ·have hxb:(x != 0)=true:=by simpa using hx
   have HE4:Hid (stepQ group ⟨kd,⟨i1,gl,t1,k1,bo⟩,ci,ct,ml,cp,cw,cn⟩ s=(s,[],x)):=by
    rw [HE3.out,if_pos hx]
    exact LH rfl
   have HWR:=LH (wrap_any applyT x w5)
   unfold applyT at HWR
   clear hx HE3 HR
   go_wp2_with fail
   refine HWR.out.mono ?_
   rintro e w6 ⟨rfl,rfl⟩
   go_wp2_with fail
   rw [HE4.out]
   refine bodyPost_ret (v:=.tuple #[.slice none 0 0,errV applyT x]) (by simp [results,Tryz.results22,go_sem,applyT]) rfl ⟨none,0,rfl,World.ownsRow_nil _ _ _ _,HH.out.keep (below_step HW2.out HX5.out),K5.out,HB5.out⟩
end Go.Proofs.YtkkohllhebdlcaaGreatDoor
