/-
  Proved here: group.Twin. Conditions: the group is small.
-/
import Derived.Test.YtdfmcgekfogpbabGreatDoorY40
import Derived.Test.YtdfmcgekfogpbabGreatDoorY42
set_option maxRecDepth 100000
namespace Go.Proofs.YtdfmcgekfogpbabGreatDoor
open Go.RowKit
def TwinHEnd (s:Gs) (w:World) (e:Ending) (w':World):Prop:=∃ wv dv ta tc la ln lc,e=.returned (.agg #[.int .i64 s.sk.clock,wv,dv,ta,tc,.slice la ln lc])∧OwnSk w' w.heap.size (.agg #[.int .i64 s.sk.clock,wv,dv]) s.sk∧OwnS w' w.heap.size (.agg #[ta,tc]) (streamM s.m)∧Below w.heap.size w w'
set_option maxHeartbeats 8000000 in
set_option maxRecDepth 100000 in
theorem twinH_any {w:World} {s:Gs} {wv dv tv cv:Value} {b:Nat} (hk:SkR w (.agg #[.int .i64 s.sk.clock,wv,dv]) s.sk) (hs:StrR w (.agg #[tv,cv]) (streamM s.m)) (hl:Blk w b 3 (rowVals s.last)) (h6:s.last.length=6) (hfk:fewK s.sk) (hfs:fewS (streamM s.m)) :
  Calls Tryz.prog 23 #[.agg #[.int .i64 s.sk.clock,wv,dv,tv,cv,.slice (some ⟨b,0,none⟩) 6 6]] w (TwinHEnd s w):=by
 obtain ⟨wa,wc,da,dc,ev,-,-⟩:=id hk
 simp at ev
 obtain ⟨rfl,rfl⟩:=ev
 obtain ⟨ta,tc,ca,cn,cc,ev,-,-⟩:=hs.shape
 simp at ev
 obtain ⟨rfl,rfl⟩:=ev
 have KS:Hid (∀ W,Below w.heap.size w W→Calls Tryz.prog 50 #[.agg #[.int .i64 s.sk.clock,.slice wa s.sk.waits.length wc,.slice da s.sk.done.length dc]] W (SkEnd s.sk W)):=fun W hW=>skTwin_any (hk.below hW) hfk
 have KT:Hid (∀ W,Below w.heap.size w W→Calls Tryz.prog 51 #[.agg #[.slice ta (streamM s.m).tops.length tc,.slice ca cn cc]] W (StrEnd (streamM s.m) W)):=fun W hW=>strTwin_any (hs.below hW) hfs
 have KL:Hid (∀ W,Below w.heap.size w W→Calls Tryz.prog 52 #[.slice (some ⟨b,0,none⟩) 6 6] W (CloEndI intCell s.last W)):=fun W hW=>by
  have hsr:SliceR W (.slice (some ⟨b,0,none⟩) 6 6) 1 intCell s.last:=by
   refine ⟨_,6,by rw [h6],by omega,by decide,(fun h=>by cases h),fun _=>⟨b,0,rfl,fun i hi j hj=>?_⟩⟩
   obtain rfl:j=0:=by omega
   have:=(hl.step hW).cell i
   rw [rowQ_get hi] at this
   simpa [intCell,List.getD,hi] using this
  exact cloI_any (cs:=intCell) (fun _=>rfl) hsr (by rw [← rowVals_flat];exact rowVals_one' _) (by omega)
 obtain ⟨ck,hck⟩:∃ ck,ck=s.sk.clock:=⟨_,rfl⟩
 have HCK:=LH hck
 obtain ⟨wn,hwn⟩:∃ wn,wn=s.sk.waits.length:=⟨_,rfl⟩
 have HWN:=LH hwn
 obtain ⟨dn,hdn⟩:∃ dn,dn=s.sk.done.length:=⟨_,rfl⟩
 have HDN:=LH hdn
 obtain ⟨tn,htn⟩:∃ tn,tn=(streamM s.m).tops.length:=⟨_,rfl⟩
 have HTN:=LH htn
 obtain ⟨ln,hln⟩:∃ ln,ln=s.last.length:=⟨_,rfl⟩
 have HLN:=LH hln
 rw [← hck,← hwn,← hdn] at KS
 rw [← htn] at KT
 rw [← hck,← hwn,← hdn,← htn]
 clear hk hs hl h6 hfk hfs hck hwn hdn htn hln
 go_enter Tryz.func23,Tryz.ntmps23
 go_wp2_with fail
 go_region_law (first|(go_simp;go_at_call 50;refine (KS.out _ (by repeat (first|with_reducible (first|exact Below.refl _ _|apply Below.drew|apply below_alloc)|((first|with_reducible refine Below.alloc ?_ ?_ _|with_reducible refine Below.setCell ?_ ?_ _);rotate_left;focus (first|(simp <;> omega)|omega))))).mono ?_;rintro e w4 ⟨v4,rfl,os,hb⟩;have SK:Hid (OwnSk w4 (w.heap.size+2) _ s.sk):=LH (OwnSk.le os (by first|(simp;done)|(simp;omega)));obtain ⟨a4',c4,b4,d4,ev,-,-⟩:=id os;subst ev;have HA4:Hid (Blk w4 w.heap.size 36 [.int .i64 ck,.slice wa wn wc,.slice da dn dc,.slice ta tn tc,.slice ca cn cc,.slice (some ⟨b,0,none⟩) 6 6]):=LH (Blk.step (by repeat (first|with_reducible exact hb|((with_reducible apply Blk.new);focus (first|rfl|(simp <;> omega)))|with_reducible (first|apply Blk.drew|apply Blk.alloc|apply Blk.set_)|((with_reducible apply Blk.far);rotate_left;focus (first|(simp <;> omega)|omega)))) hb);have HR4:Hid (Blk w4 (w.heap.size+1) 36 [.int .i64 0,.slice none 0 0,.slice none 0 0,.slice none 0 0,.slice none 0 0,.slice none 0 0]):=LH (Blk.step (by repeat (first|with_reducible exact hb|((with_reducible apply Blk.new);focus (first|rfl|(simp <;> omega)))|with_reducible (first|apply Blk.drew|apply Blk.alloc|apply Blk.set_)|((with_reducible apply Blk.far);rotate_left;focus (first|(simp <;> omega)|omega)))) hb);have HB4:Hid (Below w.heap.size w w4):=below_step (by repeat (first|with_reducible (first|exact Below.refl _ _|apply Below.drew|apply below_alloc)|((first|with_reducible refine Below.alloc ?_ ?_ _|with_reducible refine Below.setCell ?_ ?_ _);rotate_left;focus (first|(simp <;> omega)|omega)))) hb;obtain ⟨⟨a0,a1,a2⟩,⟨a3,a4,a5⟩,az⟩:=cells6 HA4.out;obtain ⟨⟨r0,r1,r2⟩,⟨r3,r4,r5⟩,rz⟩:=cells6 HR4.out;have al:=HA4.out.lt;have rl:=HR4.out.lt;clear os hb)|(go_simp;go_at_call 51;refine (KT.out _ (by repeat (first|with_reducible (first|exact HB4.out|exact Below.refl _ _|apply Below.drew|apply below_alloc)|((first|with_reducible refine Below.alloc ?_ ?_ _|with_reducible refine Below.setCell ?_ ?_ _);rotate_left;focus (first|(simp <;> omega)|omega))))).mono ?_;rintro e w5 ⟨tx,ty,rfl,os,hb⟩;have ST:Hid (OwnS w5 (w.heap.size+2) _ (streamM s.m)):=LH (OwnS.le os (by first|(simp;done)|(simp;omega)|omega));obtain ⟨a5',c5,b5,n5,d5,ev,-,-⟩:=os.reads.shape;cases ev;have HA5:Hid (Blk w5 w.heap.size 36 [.int .i64 ck,.slice wa wn wc,.slice da dn dc,.slice ta tn tc,.slice ca cn cc,.slice (some ⟨b,0,none⟩) 6 6]):=LH (Blk.step (by repeat (first|with_reducible exact HA4.out|((with_reducible apply Blk.new);focus (first|rfl|(simp <;> omega)))|with_reducible (first|apply Blk.drew|apply Blk.alloc|apply Blk.set_)|((with_reducible apply Blk.far);rotate_left;focus (first|(simp <;> omega)|omega)))) hb);have HR5:Hid (Blk w5 (w.heap.size+1) 36 [.int .i64 0,.slice none 0 0,.slice none 0 0,.slice none 0 0,.slice none 0 0,.slice none 0 0]):=LH (Blk.step (by repeat (first|with_reducible exact HR4.out|((with_reducible apply Blk.new);focus (first|rfl|(simp <;> omega)))|with_reducible (first|apply Blk.drew|apply Blk.alloc|apply Blk.set_)|((with_reducible apply Blk.far);rotate_left;focus (first|(simp <;> omega)|omega)))) hb);have HB5:Hid (Below w.heap.size w w5):=below_step (by repeat (first|with_reducible (first|exact HB4.out|exact Below.refl _ _|apply Below.drew|apply below_alloc)|((first|with_reducible refine Below.alloc ?_ ?_ _|with_reducible refine Below.setCell ?_ ?_ _);rotate_left;focus (first|(simp <;> omega)|omega)))) hb;have HU45:Hid (Below w4.heap.size w4 w5):=below_step (by repeat (first|with_reducible (first|exact Below.refl _ _|apply Below.drew|apply below_alloc)|((first|with_reducible refine Below.alloc ?_ ?_ _|with_reducible refine Below.setCell ?_ ?_ _);rotate_left;focus (first|(simp <;> omega)|omega)))) hb;clear a0 a1 a2 a3 a4 a5 az r0 r1 r2 r3 r4 r5 rz al rl;obtain ⟨⟨a0,a1,a2⟩,⟨a3,a4,a5⟩,az⟩:=cells6 HA5.out;obtain ⟨⟨r0,r1,r2⟩,⟨r3,r4,r5⟩,rz⟩:=cells6 HR5.out;have al:=HA5.out.lt;have rl:=HR5.out.lt;clear os hb)|(go_simp;go_at_call 52;refine (KL.out _ (by repeat (first|with_reducible (first|exact HB5.out|exact Below.refl _ _|apply Below.drew|apply below_alloc)|((first|with_reducible refine Below.alloc ?_ ?_ _|with_reducible refine Below.setCell ?_ ?_ _);rotate_left;focus (first|(simp <;> omega)|omega))))).mono ?_;rintro e w6 ⟨a6,c6,rfl,-,hb⟩;have HA6:Hid (Blk w6 w.heap.size 36 [.int .i64 ck,.slice wa wn wc,.slice da dn dc,.slice ta tn tc,.slice ca cn cc,.slice (some ⟨b,0,none⟩) 6 6]):=LH (Blk.step (by repeat (first|with_reducible exact HA5.out|((with_reducible apply Blk.new);focus (first|rfl|(simp <;> omega)))|with_reducible (first|apply Blk.drew|apply Blk.alloc|apply Blk.set_)|((with_reducible apply Blk.far);rotate_left;focus (first|(simp <;> omega)|omega)))) hb);have HR6:Hid (Blk w6 (w.heap.size+1) 36 [.int .i64 0,.slice none 0 0,.slice none 0 0,.slice none 0 0,.slice none 0 0,.slice none 0 0]):=LH (Blk.step (by repeat (first|with_reducible exact HR5.out|((with_reducible apply Blk.new);focus (first|rfl|(simp <;> omega)))|with_reducible (first|apply Blk.drew|apply Blk.alloc|apply Blk.set_)|((with_reducible apply Blk.far);rotate_left;focus (first|(simp <;> omega)|omega)))) hb);have HB6:Hid (Below w.heap.size w w6):=below_step (by repeat (first|with_reducible (first|exact HB5.out|exact Below.refl _ _|apply Below.drew|apply below_alloc)|((first|with_reducible refine Below.alloc ?_ ?_ _|with_reducible refine Below.setCell ?_ ?_ _);rotate_left;focus (first|(simp <;> omega)|omega)))) hb;have HU46:Hid (Below w4.heap.size w4 w6):=below_step (by repeat (first|with_reducible (first|exact HU45.out|exact Below.refl _ _|apply Below.drew|apply below_alloc)|((first|with_reducible refine Below.alloc ?_ ?_ _|with_reducible refine Below.setCell ?_ ?_ _);rotate_left;focus (first|(simp <;> omega)|omega)))) hb;have HU56:Hid (Below w5.heap.size w5 w6):=below_step (by repeat (first|with_reducible (first|exact Below.refl _ _|apply Below.drew|apply below_alloc)|((first|with_reducible refine Below.alloc ?_ ?_ _|with_reducible refine Below.setCell ?_ ?_ _);rotate_left;focus (first|(simp <;> omega)|omega)))) hb;clear a0 a1 a2 a3 a4 a5 az r0 r1 r2 r3 r4 r5 rz al rl;obtain ⟨⟨a0,a1,a2⟩,⟨a3,a4,a5⟩,az⟩:=cells6 HA6.out;obtain ⟨⟨r0,r1,r2⟩,⟨r3,r4,r5⟩,rz⟩:=cells6 HR6.out;have al:=HA6.out.lt;have rl:=HR6.out.lt;clear hb))
 all_goals
  go_wp2_with fail
  obtain ⟨⟨t0,t1,t2⟩,⟨t3,t4,t5⟩,-⟩:=cells6 ((((((HR6.out.set_ 0 (.int .i64 s.sk.clock)).set_ 1 (.slice a4' s.sk.waits.length c4)).set_ 2 (.slice b4 s.sk.done.length d4)).set_ 3 (.slice a5' (streamM s.m).tops.length c5)).set_ 4 (.slice b5 n5 d5)).set_ 5 (.slice a6 s.last.length c6))
  refine bodyPost_ret (v:=.agg #[.int .i64 s.sk.clock,.slice a4' s.sk.waits.length c4,.slice b4 s.sk.done.length d4,.slice a5' (streamM s.m).tops.length c5,.slice b5 n5 d5,.slice a6 s.last.length c6]) (by simp [results,Tryz.results23,go_sem,t0,t1,t2,t3,t4,t5]) rfl ⟨_,_,_,_,_,_,_,rfl,?_,?_,?_⟩
  ·exact OwnSk.le (OwnSk.agree (SK.out.keep HU46.out) (fun k h _=>set6_far (w:=w6) (g:=w.heap.size+1) (p:=.int .i64 s.sk.clock) (q:=.slice a4' s.sk.waits.length c4) (r:=.slice b4 s.sk.done.length d4) (s:=.slice a5' (streamM s.m).tops.length c5) (t:=.slice b5 n5 d5) (u:=.slice a6 s.last.length c6) k (by omega))) (by omega)
  ·exact OwnS.le (OwnS.agree (ST.out.keep HU56.out) (fun k h _=>set6_far (w:=w6) (g:=w.heap.size+1) (p:=.int .i64 s.sk.clock) (q:=.slice a4' s.sk.waits.length c4) (r:=.slice b4 s.sk.done.length d4) (s:=.slice a5' (streamM s.m).tops.length c5) (t:=.slice b5 n5 d5) (u:=.slice a6 s.last.length c6) k (by omega))) (by omega)
  ·exact ((((((HB6.out.setCell (by simp) _).setCell (by simp) _).setCell (by simp) _).setCell (by simp) _).setCell (by simp) _).setCell (by simp) _)
end Go.Proofs.YtdfmcgekfogpbabGreatDoor
