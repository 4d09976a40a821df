/-
  Proved here: group.Twin. Conditions: the group is small. order.play, for any function that is handed the steps. Conditions: the
-/
import Derived.Test.YtkkohllhebdlcaaGreatDoorY41
set_option maxRecDepth 100000
namespace Go.Proofs.YtkkohllhebdlcaaGreatDoor
open Go.RowKit
def TwinHEnd (s:Gs) (w:World) (e:Ending) (w':World):Prop:=∃ wv dv ta tc la ln lc,e=.returned (.agg #[.int .i64 s.sk.clock,wv,dv,ta,tc,.slice la ln lc])∧OwnSk w' w.heap.size (.agg #[.int .i64 s.sk.clock,wv,dv]) s.sk∧OwnS w' w.heap.size (.agg #[ta,tc]) (streamM s.m)∧Below w.heap.size w w'
set_option maxHeartbeats 8000000 in
set_option maxRecDepth 100000 in
theorem twinH_any {w:World} {s:Gs} {wv dv tv cv:Value} {b:Nat} (hk:SkR w (.agg #[.int .i64 s.sk.clock,wv,dv]) s.sk) (hs:StrR w (.agg #[tv,cv]) (streamM s.m)) (hl:Blk w b 3 (rowVals s.last)) (h6:s.last.length=6) (hfk:fewK s.sk) (hfs:fewS (streamM s.m)) :
  Calls Tryz.prog 24 #[.agg #[.int .i64 s.sk.clock,wv,dv,tv,cv,.slice (some ⟨b,0,none⟩) 6 6]] w (TwinHEnd s w):=by
 obtain ⟨wa,wc,da,dc,ev,-,-⟩:=id hk
 simp at ev
 obtain ⟨rfl,rfl⟩:=ev
 obtain ⟨ta,tc,ca,cn,cc,ev,-,-⟩:=hs.shape
 simp at ev
 obtain ⟨rfl,rfl⟩:=ev
 have KS:Hid (∀ W,Below w.heap.size w W→Calls Tryz.prog 31 #[.agg #[.int .i64 s.sk.clock,.slice wa s.sk.waits.length wc,.slice da s.sk.done.length dc]] W (SkEnd s.sk W)):=fun W hW=>skTwin_any (hk.below hW) hfk
 have KT:Hid (∀ W,Below w.heap.size w W→Calls Tryz.prog 45 #[.agg #[.slice ta (streamM s.m).tops.length tc,.slice ca cn cc]] W (StrEnd (streamM s.m) W)):=fun W hW=>strTwin_any (hs.below hW) hfs
 have KL:Hid (∀ W,Below w.heap.size w W→Calls Tryz.prog 46 #[.slice (some ⟨b,0,none⟩) 6 6] W (CloEndI intCell s.last W)):=fun W hW=>by
  have hsr:SliceR W (.slice (some ⟨b,0,none⟩) 6 6) 1 intCell s.last:=by
   refine ⟨_,6,by rw [h6],by omega,by decide,(fun h=>by cases h),fun _=>⟨b,0,rfl,fun i hi j hj=>?_⟩⟩
   obtain rfl:j=0:=by omega
   have:=(hl.step hW).cell i
   rw [rowQ_get hi] at this
   simpa [intCell,List.getD,hi] using this
  exact cloI_any (cs:=intCell) (fun _=>rfl) hsr (by rw [← rowVals_flat];exact rowVals_one' _) (by omega)
 obtain ⟨ck,hck⟩:∃ ck,ck=s.sk.clock:=⟨_,rfl⟩
 have HCK:=LH hck
 obtain ⟨wn,hwn⟩:∃ wn,wn=s.sk.waits.length:=⟨_,rfl⟩
 have HWN:=LH hwn
 obtain ⟨dn,hdn⟩:∃ dn,dn=s.sk.done.length:=⟨_,rfl⟩
 have HDN:=LH hdn
 obtain ⟨tn,htn⟩:∃ tn,tn=(streamM s.m).tops.length:=⟨_,rfl⟩
 have HTN:=LH htn
 obtain ⟨ln,hln⟩:∃ ln,ln=s.last.length:=⟨_,rfl⟩
 have HLN:=LH hln
 rw [← hck,← hwn,← hdn] at KS
 rw [← htn] at KT
 rw [← hck,← hwn,← hdn,← htn]
 clear hk hs hl h6 hfk hfs hck hwn hdn htn hln
 go_enter Tryz.func24,Tryz.ntmps24
 go_wp2_with fail
 go_region_law (first|(go_simp;go_at_call 31;refine (KS.out _ (by repeat (first|with_reducible (first|exact Below.refl _ _|apply Below.drew|apply below_alloc)|((first|with_reducible refine Below.alloc ?_ ?_ _|with_reducible refine Below.setCell ?_ ?_ _);rotate_left;focus (first|(simp <;> omega)|omega))))).mono ?_;rintro e w4 ⟨v4,rfl,os,hb⟩;have SK:Hid (OwnSk w4 (w.heap.size+2) _ s.sk):=LH (OwnSk.le os (by first|(simp;done)|(simp;omega)));obtain ⟨a4',c4,b4,d4,ev,-,-⟩:=id os;subst ev;have HA4:Hid (Blk w4 w.heap.size 39 [.int .i64 ck,.slice wa wn wc,.slice da dn dc,.slice ta tn tc,.slice ca cn cc,.slice (some ⟨b,0,none⟩) 6 6]):=LH (Blk.step (by repeat (first|with_reducible exact hb|((with_reducible apply Blk.new);focus (first|rfl|(simp <;> omega)))|with_reducible (first|apply Blk.drew|apply Blk.alloc|apply Blk.set_)|((with_reducible apply Blk.far);rotate_left;focus (first|(simp <;> omega)|omega)))) hb);have HR4:Hid (Blk w4 (w.heap.size+1) 39 [.int .i64 0,.slice none 0 0,.slice none 0 0,.slice none 0 0,.slice none 0 0,.slice none 0 0]):=LH (Blk.step (by repeat (first|with_reducible exact hb|((with_reducible apply Blk.new);focus (first|rfl|(simp <;> omega)))|with_reducible (first|apply Blk.drew|apply Blk.alloc|apply Blk.set_)|((with_reducible apply Blk.far);rotate_left;focus (first|(simp <;> omega)|omega)))) hb);have HB4:Hid (Below w.heap.size w w4):=below_step (by repeat (first|with_reducible (first|exact Below.refl _ _|apply Below.drew|apply below_alloc)|((first|with_reducible refine Below.alloc ?_ ?_ _|with_reducible refine Below.setCell ?_ ?_ _);rotate_left;focus (first|(simp <;> omega)|omega)))) hb;obtain ⟨⟨a0,a1,a2⟩,⟨a3,a4,a5⟩,az⟩:=cells6 HA4.out;obtain ⟨⟨r0,r1,r2⟩,⟨r3,r4,r5⟩,rz⟩:=cells6 HR4.out;have al:=HA4.out.lt;have rl:=HR4.out.lt;clear os hb)|(go_simp;go_at_call 45;refine (KT.out _ (by repeat (first|with_reducible (first|exact HB4.out|exact Below.refl _ _|apply Below.drew|apply below_alloc)|((first|with_reducible refine Below.alloc ?_ ?_ _|with_reducible refine Below.setCell ?_ ?_ _);rotate_left;focus (first|(simp <;> omega)|omega))))).mono ?_;rintro e w5 ⟨tx,ty,rfl,os,hb⟩;have ST:Hid (OwnS w5 (w.heap.size+2) _ (streamM s.m)):=LH (OwnS.le os (by first|(simp;done)|(simp;omega)|omega));obtain ⟨a5',c5,b5,n5,d5,ev,-,-⟩:=os.reads.shape;cases ev;have HA5:Hid (Blk w5 w.heap.size 39 [.int .i64 ck,.slice wa wn wc,.slice da dn dc,.slice ta tn tc,.slice ca cn cc,.slice (some ⟨b,0,none⟩) 6 6]):=LH (Blk.step (by repeat (first|with_reducible exact HA4.out|((with_reducible apply Blk.new);focus (first|rfl|(simp <;> omega)))|with_reducible (first|apply Blk.drew|apply Blk.alloc|apply Blk.set_)|((with_reducible apply Blk.far);rotate_left;focus (first|(simp <;> omega)|omega)))) hb);have HR5:Hid (Blk w5 (w.heap.size+1) 39 [.int .i64 0,.slice none 0 0,.slice none 0 0,.slice none 0 0,.slice none 0 0,.slice none 0 0]):=LH (Blk.step (by repeat (first|with_reducible exact HR4.out|((with_reducible apply Blk.new);focus (first|rfl|(simp <;> omega)))|with_reducible (first|apply Blk.drew|apply Blk.alloc|apply Blk.set_)|((with_reducible apply Blk.far);rotate_left;focus (first|(simp <;> omega)|omega)))) hb);have HB5:Hid (Below w.heap.size w w5):=below_step (by repeat (first|with_reducible (first|exact HB4.out|exact Below.refl _ _|apply Below.drew|apply below_alloc)|((first|with_reducible refine Below.alloc ?_ ?_ _|with_reducible refine Below.setCell ?_ ?_ _);rotate_left;focus (first|(simp <;> omega)|omega)))) hb;have HU45:Hid (Below w4.heap.size w4 w5):=below_step (by repeat (first|with_reducible (first|exact Below.refl _ _|apply Below.drew|apply below_alloc)|((first|with_reducible refine Below.alloc ?_ ?_ _|with_reducible refine Below.setCell ?_ ?_ _);rotate_left;focus (first|(simp <;> omega)|omega)))) hb;clear a0 a1 a2 a3 a4 a5 az r0 r1 r2 r3 r4 r5 rz al rl;obtain ⟨⟨a0,a1,a2⟩,⟨a3,a4,a5⟩,az⟩:=cells6 HA5.out;obtain ⟨⟨r0,r1,r2⟩,⟨r3,r4,r5⟩,rz⟩:=cells6 HR5.out;have al:=HA5.out.lt;have rl:=HR5.out.lt;clear os hb)|(go_simp;go_at_call 46;refine (KL.out _ (by repeat (first|with_reducible (first|exact HB5.out|exact Below.refl _ _|apply Below.drew|apply below_alloc)|((first|with_reducible refine Below.alloc ?_ ?_ _|with_reducible refine Below.setCell ?_ ?_ _);rotate_left;focus (first|(simp <;> omega)|omega))))).mono ?_;rintro e w6 ⟨a6,c6,rfl,-,hb⟩;have HA6:Hid (Blk w6 w.heap.size 39 [.int .i64 ck,.slice wa wn wc,.slice da dn dc,.slice ta tn tc,.slice ca cn cc,.slice (some ⟨b,0,none⟩) 6 6]):=LH (Blk.step (by repeat (first|with_reducible exact HA5.out|((with_reducible apply Blk.new);focus (first|rfl|(simp <;> omega)))|with_reducible (first|apply Blk.drew|apply Blk.alloc|apply Blk.set_)|((with_reducible apply Blk.far);rotate_left;focus (first|(simp <;> omega)|omega)))) hb);have HR6:Hid (Blk w6 (w.heap.size+1) 39 [.int .i64 0,.slice none 0 0,.slice none 0 0,.slice none 0 0,.slice none 0 0,.slice none 0 0]):=LH (Blk.step (by repeat (first|with_reducible exact HR5.out|((with_reducible apply Blk.new);focus (first|rfl|(simp <;> omega)))|with_reducible (first|apply Blk.drew|apply Blk.alloc|apply Blk.set_)|((with_reducible apply Blk.far);rotate_left;focus (first|(simp <;> omega)|omega)))) hb);have HB6:Hid (Below w.heap.size w w6):=below_step (by repeat (first|with_reducible (first|exact HB5.out|exact Below.refl _ _|apply Below.drew|apply below_alloc)|((first|with_reducible refine Below.alloc ?_ ?_ _|with_reducible refine Below.setCell ?_ ?_ _);rotate_left;focus (first|(simp <;> omega)|omega)))) hb;have HU46:Hid (Below w4.heap.size w4 w6):=below_step (by repeat (first|with_reducible (first|exact HU45.out|exact Below.refl _ _|apply Below.drew|apply below_alloc)|((first|with_reducible refine Below.alloc ?_ ?_ _|with_reducible refine Below.setCell ?_ ?_ _);rotate_left;focus (first|(simp <;> omega)|omega)))) hb;have HU56:Hid (Below w5.heap.size w5 w6):=below_step (by repeat (first|with_reducible (first|exact Below.refl _ _|apply Below.drew|apply below_alloc)|((first|with_reducible refine Below.alloc ?_ ?_ _|with_reducible refine Below.setCell ?_ ?_ _);rotate_left;focus (first|(simp <;> omega)|omega)))) hb;clear a0 a1 a2 a3 a4 a5 az r0 r1 r2 r3 r4 r5 rz al rl;obtain ⟨⟨a0,a1,a2⟩,⟨a3,a4,a5⟩,az⟩:=cells6 HA6.out;obtain ⟨⟨r0,r1,r2⟩,⟨r3,r4,r5⟩,rz⟩:=cells6 HR6.out;have al:=HA6.out.lt;have rl:=HR6.out.lt;clear hb))
 all_goals
  go_wp2_with fail
  obtain ⟨⟨t0,t1,t2⟩,⟨t3,t4,t5⟩,-⟩:=cells6 ((((((HR6.out.set_ 0 (.int .i64 s.sk.clock)).set_ 1 (.slice a4' s.sk.waits.length c4)).set_ 2 (.slice b4 s.sk.done.length d4)).set_ 3 (.slice a5' (streamM s.m).tops.length c5)).set_ 4 (.slice b5 n5 d5)).set_ 5 (.slice a6 s.last.length c6))
  refine bodyPost_ret (v:=.agg #[.int .i64 s.sk.clock,.slice a4' s.sk.waits.length c4,.slice b4 s.sk.done.length d4,.slice a5' (streamM s.m).tops.length c5,.slice b5 n5 d5,.slice a6 s.last.length c6]) (by simp [results,Tryz.results24,go_sem,t0,t1,t2,t3,t4,t5]) rfl ⟨_,_,_,_,_,_,_,rfl,?_,?_,?_⟩
  ·exact OwnSk.le (OwnSk.agree (SK.out.keep HU46.out) (fun k h _=>set6_far (w:=w6) (g:=w.heap.size+1) (p:=.int .i64 s.sk.clock) (q:=.slice a4' s.sk.waits.length c4) (r:=.slice b4 s.sk.done.length d4) (s:=.slice a5' (streamM s.m).tops.length c5) (t:=.slice b5 n5 d5) (u:=.slice a6 s.last.length c6) k (by omega))) (by omega)
  ·exact OwnS.le (OwnS.agree (ST.out.keep HU56.out) (fun k h _=>set6_far (w:=w6) (g:=w.heap.size+1) (p:=.int .i64 s.sk.clock) (q:=.slice a4' s.sk.waits.length c4) (r:=.slice b4 s.sk.done.length d4) (s:=.slice a5' (streamM s.m).tops.length c5) (t:=.slice b5 n5 d5) (u:=.slice a6 s.last.length c6) k (by omega))) (by omega)
  ·exact ((((((HB6.out.setCell (by simp) _).setCell (by simp) _).setCell (by simp) _).setCell (by simp) _).setCell (by simp) _).setCell (by simp) _)
theorem ownK_le {w:World} {B B':Nat} {v:Value} {l:List PC} (h:OwnK w B v l) (hB:B'≤B):OwnK w B' v l:=by
 obtain ⟨pl,h1,h2,h3⟩:=h
 exact ⟨pl,h1,ownsRow_le h2 hB,fun p hp=>⟨ownsRow_le (h3 p hp).1 hB,ownsRow_le (h3 p hp).2 hB⟩⟩
def OPlayEnd (x:Int) (ts:List TypeId) (Rel:List PC→Sk→World→Prop) (w:World) (e:Ending) (w':World):Prop :=
 ∃ ck wa wn wc da dn dc rest s,e=.returned (.tuple #[.agg #[.int .i64 ck,.slice wa wn wc,.slice da dn dc],.int .i64 x])∧Fr (32 :: ts) w w'∧Rel rest s w'∧(x=0→rest=[])
set_option maxHeartbeats 16000000 in
set_option maxRecDepth 100000 in
theorem ordPlay_any {w:World} {gr:Int} {v:Value} {l:List ByteArray} {cs:List PC} {x:Int} {f:Nat} {caps:List Value} {ts:List TypeId} {Rel:List PC→Sk→World→Prop}
  (ef:∀ args W,(callFunc f args).run Tryz.prog W=.ok (.enter f args) W) (h0:0≤gr) (h4:gr < 4) (h:SliceR w v 1 strCell l) (hs:∀ s∈l,s.size≤maxLen) (hcs:cmdsP l=(cs,x))
  (t1:58 ∉ ts) (t2:3 ∉ ts) (t3:65 ∉ ts) (t4:104 ∉ ts) (t5:32 ∉ ts) (t6:56 ∉ ts)
  (hz:Rel cs skZ w)
  (hfr:∀ rest s W W',Rel rest s W→w.heap.size≤W.heap.size→Fr [32] W W'→Below w.heap.size W W'→Rel rest s W')
  (hdo:∀ c rest s W sv,x=0→okCom c=true→Rel (c :: rest) s W→w.heap.size≤W.heap.size→RunI s→StepR W w.heap.size c s (ordStep gr c s) sv →
   Calls Tryz.prog f (sv :: caps).toArray W fun e W'=>e=.returned (.tuple #[])∧Rel rest (ordStep gr c s) W'∧Fr ts W W') :
  Calls Tryz.prog 12 #[.int .i64 gr,v,.func (.func f) #[] caps.toArray] w (OPlayEnd x ts Rel w):=by
 have KC:Hid (∀ W,Below w.heap.size w W→Calls Tryz.prog 20 #[v] W fun e W'=>∃ a n cap,e=.returned (.tuple #[.slice a n cap,.int .i64 x])∧n=cs.length∧OwnK W' W.heap.size (.slice a n cap) cs∧Below W.heap.size W W'):=fun W hW=>(logCmds_any (h.below (fun _=>rfl) hW) hs hcs).mono fun e W' ⟨a,cap,h1,h2,h3⟩=>⟨a,_,cap,h1,rfl,h2,h3⟩
 have HCP:=LH (show x=0→(∀ c∈cs,okCom c=true)∧cs.length≤200 from fun h=>cmdsP_ok (h ▸ hcs))
 have HZ:=LH hz
 have HFR:=LH hfr
 have HDO:=LH hdo
 have HT:=LH (And.intro t1 (And.intro t2 (And.intro t3 (And.intro t4 (And.intro t5 t6)))))
 clear h hs hcs hz hfr hdo t1 t2 t3 t4 t5 t6
 go_enter Tryz.func12,Tryz.ntmps12
 go_wp2_with fail
 refine (KC.out _ (by repeat (first|with_reducible (first|exact Below.refl _ _|apply Below.drew|apply below_alloc)|((first|with_reducible refine Below.alloc ?_ ?_ _|with_reducible refine Below.setCell ?_ ?_ _);rotate_left;focus (first|(simp <;> omega)|omega))))).mono ?_
 rintro e w1 ⟨ca,n,ccap,rfl,hn,ok,hb⟩
 have HN:=LH hn
 have HB1:Hid (Below w.heap.size w w1):=below_step (by repeat (first|with_reducible (first|exact Below.refl _ _|apply Below.drew|apply below_alloc)|((first|with_reducible refine Below.alloc ?_ ?_ _|with_reducible refine Below.setCell ?_ ?_ _);rotate_left;focus (first|(simp <;> omega)|omega)))) hb
 have HR1:Hid (Blk w1 w.heap.size 32 [.int .i64 0,.slice none 0 0,.slice none 0 0]):=LH (Blk.step (by repeat (first|with_reducible exact Blk.new rfl|((with_reducible apply Blk.new);focus (first|rfl|(simp <;> omega)))|with_reducible (first|apply Blk.drew|apply Blk.alloc|apply Blk.set_)|((with_reducible apply Blk.far);rotate_left;focus (first|(simp <;> omega)|omega)))) hb)
 have HK:=LH (ownK_le (B':=w.heap.size) ok (by simp))
 have HZ1:Hid (Rel cs skZ w1):=LH (HFR.out _ _ _ _ HZ.out (Nat.le_refl _) (Fr.below HB1.out) HB1.out)
 obtain ⟨p0,p1,p2,pz⟩:=cells3 HR1.out
 have rl:=HR1.out.lt
 clear hb ok hn KC
 by_cases hx:x=0
 rotate_left
 ·have hxb:(x != 0)=true:=by simpa using hx
  have HX:=LH hx
  clear hx
  go_wp2_with fail
  obtain ⟨u0,u1,u2,-⟩:=cells3 (((HR1.out.set_ 0 (.int .i64 0)).set_ 1 (.slice none 0 0)).set_ 2 (.slice none 0 0))
  have hfs:Fr [32] w1 (((w1.setCell ⟨w.heap.size,0,none⟩ (.int .i64 0)).setCell ⟨w.heap.size,1,none⟩ (.slice none 0 0)).setCell ⟨w.heap.size,2,none⟩ (.slice none 0 0)):=((Fr.set HR1.out (by decide)).trans (Fr.set (HR1.out.set_ 0 _) (by decide))).trans (Fr.set ((HR1.out.set_ 0 _).set_ 1 _) (by decide))
  have hbs:Below w.heap.size w (((w1.setCell ⟨w.heap.size,0,none⟩ (.int .i64 0)).setCell ⟨w.heap.size,1,none⟩ (.slice none 0 0)).setCell ⟨w.heap.size,2,none⟩ (.slice none 0 0)):=((HB1.out.setCell (Nat.le_refl _) _).setCell (Nat.le_refl _) _).setCell (Nat.le_refl _) _
  refine bodyPost_ret (v:=.tuple #[.agg #[.int .i64 0,.slice none 0 0,.slice none 0 0],.int .i64 x]) (by simp [results,Tryz.results12,go_sem,u0,u1,u2]) rfl ⟨_,_,_,_,_,_,_,cs,skZ,rfl,Fr.below hbs,HFR.out _ _ _ _ HZ.out (Nat.le_refl _) (Fr.below hbs) hbs,fun h=>absurd h HX.out⟩
 subst hx
 have HCO:=LH (HCP.out rfl).1
 have HN2:=LH (show n≤200 by rw [HN.out];exact (HCP.out rfl).2)
 go_wp2_with fail
 refine (skNew_any _).mono ?_
 rintro e w2 ⟨rfl,hb⟩
 have HK2:=LH (HK.out.keep hb)
 have HB2:Hid (Below w.heap.size w w2):=below_step HB1.out hb
 have HR2:=LH (HR1.out.step hb)
 have s2:w.heap.size < w2.heap.size:=Nat.lt_of_lt_of_le rl hb.size
 clear hb p0 p1 p2 pz HK HR1 HB1 HZ1
 go_upto_region 7 with fail
 have hA:Below w2.heap.size w2 (w2.alloc (.cells #[.int .i64 0,.slice none 0 0,.slice none 0 0] 32)):=(Below.refl _ _).alloc (Nat.le_refl _) _
 have HS3:Hid (Blk (w2.alloc (.cells #[.int .i64 0,.slice none 0 0,.slice none 0 0] 32)) w2.heap.size 32 [.int .i64 0,.slice none 0 0,.slice none 0 0]):=LH (Blk.new rfl)
 have HK3:=LH (HK2.out.keep hA)
 have HR3:=LH (HR2.out.step hA)
 have HB3:Hid (Below w.heap.size w (w2.alloc (.cells #[.int .i64 0,.slice none 0 0,.slice none 0 0] 32))):=below_step HB2.out hA
 have HREL:Hid (Rel (cs.drop 0) skZ (w2.alloc (.cells #[.int .i64 0,.slice none 0 0,.slice none 0 0] 32))):=LH (HFR.out _ _ _ _ HZ.out (Nat.le_refl _) (Fr.below HB3.out) HB3.out)
 have HF3:Hid (Fr (32 :: ts) w (w2.alloc (.cells #[.int .i64 0,.slice none 0 0,.slice none 0 0] 32))):=LH (Fr.below HB3.out)
 have s3:w2.heap.size < (w2.alloc (.cells #[.int .i64 0,.slice none 0 0,.slice none 0 0] 32)).heap.size:=by simp
 clear hA HB2 HR2 HK2 HB3 HZ
 generalize (w2.alloc (.cells #[.int .i64 0,.slice none 0 0,.slice none 0 0] 32))=w3 at HS3 HK3 HR3 HREL HF3 s3 ⊢
 obtain ⟨b,hb⟩:∃ b,b=w2.heap.size:=⟨_,rfl⟩
 rw [← hb] at HS3 s2 s3 ⊢
 clear hb
 go_wp2_with fail
 go_loopg [12,13,14,15,35] n (fun gh _ _ _ _ iv wr=>∃ (k:Nat) (s:Sk) (wa da:Option Addr) (wc dc:Nat),k≤n∧gh=n - k∧iv=.int .i64 (k:Int)∧Hid (Rel (cs.drop k) s wr)∧Hid (RunI s)∧Hid (OwnK wr w.heap.size (.slice ca n ccap) cs)∧Hid (Blk wr b 32 [.int .i64 s.clock,.slice wa s.waits.length wc,.slice da s.done.length dc])∧Hid (OwnSk wr w.heap.size (.agg #[.int .i64 s.clock,.slice wa s.waits.length wc,.slice da s.done.length dc]) s)∧Hid (Blk wr w.heap.size 32 [.int .i64 0,.slice none 0 0,.slice none 0 0])∧Hid (Fr (32 :: ts) w wr)∧Hid (b < wr.heap.size))
 case atStart=>exact ⟨0,skZ,none,none,0,0,Nat.zero_le _,rfl,rfl,HREL,LH RunI.z,HK3,HS3,LH ⟨none,0,none,0,rfl,OwnW.nil _ _,OwnD.nil _ _⟩,HR3,HF3,LH s3⟩
 case round =>
  clear HREL HK3 HS3 HR3 HF3
  obtain ⟨k,s,wa,da,wc,dc,hk,rfl,rfl,HREL,HRUN,HK,HS,HO,HR,HF,HSZ⟩:=hrel
  by_cases hlt:k < n
  ·have hk0:(0:Int)≤(k:Int):=by omega
   have hk1:(k:Int) < (n:Int):=by omega
   obtain ⟨pl,hpl,hrow,hin⟩:=HK.out
   have hpn:pl.length=n:=by rw [HN.out,← hpl,List.length_map]
   rw [← hpl,List.length_map,hpn] at hrow
   have hsl:=sliceR_of_owns (l:=pl) comCs_len (by rw [hpn];exact hrow)
   obtain ⟨a',cap',e1,-,-,-,h5⟩:=hsl
   obtain ⟨gm,off,e2,hat⟩:=h5 (by omega)
   have hkm:k < pl.length:=by omega
   obtain ⟨p,hp⟩:∃ p,p=pl[k]:=⟨_,rfl⟩
   have hc:=fun j (hj:j < 12)=>hat k (by omega) j hj
   rw [← hp] at hc
   have e3:ca=some ⟨gm,off,none⟩:=by
    have:=e1;rw [e2] at this;simp at this;exact this.1
   subst e3
   obtain ⟨hg1,hg2⟩:=hin p (by rw [hp];exact List.getElem_mem hkm)
   have hmem:p.2∈cs:=by rw [← hpl];exact List.mem_map.2 ⟨p,by rw [hp];exact List.getElem_mem hkm,rfl⟩
   have hdr:cs.drop k=p.2 :: cs.drop (k+1):=by
    have hkl:k < cs.length:=by rw [← HN.out];exact hlt
    rw [List.drop_eq_getElem_cons hkl]
    congr 1
    have:cs[k]?=some p.2:=by rw [← hpl,List.getElem?_map,List.getElem?_eq_getElem hkm,hp];rfl
    rw [List.getElem?_eq_getElem hkl] at this
    exact Option.some.inj this
   have HOC:=LH (HCO.out p.2 hmem)
   have hrel:=HREL.out
   rw [hdr] at hrel
   have HREL2:=LH hrel
   obtain ⟨⟨u1,u2⟩,c⟩:=p
   simp only at hg1 hg2 HOC HREL2
   obtain ⟨ma,mc,rfl⟩:=row_shape hg1
   obtain ⟨mb,bc,rfl⟩:=row_shape hg2
   -- MARK
   have HCR:=LH (show ComR wr (.agg #[.int .u8 c.kind,.int .i64 c.msg.id,.slice ma c.msg.groups.length mc,.int .i64 c.msg.topic,.string c.msg.key,.string c.msg.body,.int .i64 c.id,.int .i64 c.time,.slice mb c.members.length bc,.int .i64 c.topic,.int .i64 c.who,.int .i64 c.n]) c from ⟨ma,mc,mb,bc,rfl,hg1.reads,hg2.reads⟩)
   have HG:=LH hg1
   have HSZ0:=HSZ.out
   have x0:=hc 0 (by omega)
   have x1:=hc 1 (by omega)
   have x2:=hc 2 (by omega)
   have x3:=hc 3 (by omega)
   have x4:=hc 4 (by omega)
   have x5:=hc 5 (by omega)
   have x6:=hc 6 (by omega)
   have x7:=hc 7 (by omega)
   have x8:=hc 8 (by omega)
   have x9:=hc 9 (by omega)
   have x10:=hc 10 (by omega)
   have x11:=hc 11 (by omega)
   simp only [← Nat.add_assoc,Nat.add_zero,comCs] at x0 x1 x2 x3 x4 x5 x6 x7 x8 x9 x10 x11
   have hgm:gm < wr.heap.size:=World.block_lt_of_cell? wr _ x0
   clear hc hat h5 e1 e2 hp hdr hrel hkm hpn hg1 hg2 hin hpl hrow HREL hmem pl
   go_upto_region 10 with fail
   have hA:Below wr.heap.size wr (wr.alloc (.cells #[.int .u8 c.kind,.int .i64 c.msg.id,.slice ma c.msg.groups.length mc,.int .i64 c.msg.topic,.string c.msg.key,.string c.msg.body,.int .i64 c.id,.int .i64 c.time,.slice mb c.members.length bc,.int .i64 c.topic,.int .i64 c.who,.int .i64 c.n] 58)):=(Below.refl _ _).alloc (Nat.le_refl _) _
   have HC4:Hid (Blk (wr.alloc (.cells #[.int .u8 c.kind,.int .i64 c.msg.id,.slice ma c.msg.groups.length mc,.int .i64 c.msg.topic,.string c.msg.key,.string c.msg.body,.int .i64 c.id,.int .i64 c.time,.slice mb c.members.length bc,.int .i64 c.topic,.int .i64 c.who,.int .i64 c.n] 58)) wr.heap.size 58 [.int .u8 c.kind,.int .i64 c.msg.id,.slice ma c.msg.groups.length mc,.int .i64 c.msg.topic,.string c.msg.key,.string c.msg.body,.int .i64 c.id,.int .i64 c.time,.slice mb c.members.length bc,.int .i64 c.topic,.int .i64 c.who,.int .i64 c.n]):=LH (Blk.new rfl)
   have HS4:=LH (HS.out.step hA)
   have HO4:=LH (HO.out.keep hA)
   have HR4:=LH (HR.out.step hA)
   have HK4:=LH (HK.out.keep hA)
   have HG4:=LH (ownsRow_keep HG.out hA)
   have HCR4:=LH (HCR.out.below hA)
   have HSW:Hid (w.heap.size≤wr.heap.size):=LH HF.out.1
   have HREL4:=LH (HFR.out _ _ _ _ HREL2.out HSW.out (Fr.below hA) (hA.mono HSW.out))
   have HF4:Hid (Fr (32 :: ts) w (wr.alloc (.cells #[.int .u8 c.kind,.int .i64 c.msg.id,.slice ma c.msg.groups.length mc,.int .i64 c.msg.topic,.string c.msg.key,.string c.msg.body,.int .i64 c.id,.int .i64 c.time,.slice mb c.members.length bc,.int .i64 c.topic,.int .i64 c.who,.int .i64 c.n] 58))):=LH (HF.out.trans (Fr.below hA))
   have HSZ4:=hA.size
   obtain ⟨cb,hcb⟩:∃ cb,cb=wr.heap.size:=⟨_,rfl⟩
   rw [← hcb] at HC4 HSZ4 HSW HSZ0 ⊢
   clear hA HS HO HR HK HG HCR HREL2 HF x0 x1 x2 x3 x4 x5 x6 x7 x8 x9 x10 x11 hgm HSZ
   generalize (wr.alloc (.cells #[.int .u8 c.kind,.int .i64 c.msg.id,.slice ma c.msg.groups.length mc,.int .i64 c.msg.topic,.string c.msg.key,.string c.msg.body,.int .i64 c.id,.int .i64 c.time,.slice mb c.members.length bc,.int .i64 c.topic,.int .i64 c.who,.int .i64 c.n] 58))=w4 at HC4 HS4 HO4 HR4 HK4 HG4 HCR4 HREL4 HF4 HSZ4 ⊢
   clear hcb wr
   obtain ⟨⟨xe,s',l'⟩,hR⟩:∃ R,R=apS gr c s:=⟨_,rfl⟩
   have HE:Hid (ordStep gr c s=if xe=0 then s' else s):=by
    rw [ordStep,← hR]
    exact LH rfl
   have KA:Hid (Calls Tryz.prog 30 #[.agg #[.int .i64 s.clock,.slice wa s.waits.length wc,.slice da s.done.length dc],.int .i64 gr,.agg #[.int .u8 c.kind,.int .i64 c.msg.id,.slice ma c.msg.groups.length mc,.int .i64 c.msg.topic,.string c.msg.key,.string c.msg.body,.int .i64 c.id,.int .i64 c.time,.slice mb c.members.length bc,.int .i64 c.topic,.int .i64 c.who,.int .i64 c.n]] w4 fun e W'=>∃ a4 c4 b4 d4 la ln lc,e=.returned (.tuple #[.agg #[.int .i64 s'.clock,.slice a4 s'.waits.length c4,.slice b4 s'.done.length d4],.slice la ln lc,.int .i64 xe])∧OwnSk W' w4.heap.size (.agg #[.int .i64 s'.clock,.slice a4 s'.waits.length c4,.slice b4 s'.done.length d4]) s'∧Below w4.heap.size w4 W'):=LH ((apply_any HO4.out.reads HCR4.out hR).mono fun e W' ⟨v',lv,he,ho,hm,hb⟩=>by
    obtain ⟨la,lc,rfl⟩:=hm.shape
    obtain ⟨a,c',b',d,ev,_⟩:=id ho
    subst ev
    exact ⟨a,c',b',d,la,_,lc,he,ho,hb⟩)
   obtain ⟨q0,q1,q2,qz⟩:=cells3 HS4.out
   obtain ⟨⟨⟨p0,p1,p2,p3⟩,⟨p4,p5,p6,p7⟩,p8,p9,p10,p11⟩,pz⟩:=cells12 HC4.out
   have ql:=HS4.out.lt
   have cl:=HC4.out.lt
   have HWR:Hid (w.heap.size≤w4.heap.size):=LH (Nat.le_trans HSW.out HSZ4)
   clear hR HCR4 HSW
   go_wp2_with fail
   refine KA.out.mono ?_
   rintro e w5 ⟨a4,c4,b4,d4,la,ln,lc,rfl,ho5,hb⟩
   have hb6:Below w4.heap.size w4 (w5.alloc (.cells #[.int .i64 s'.clock,.slice a4 s'.waits.length c4,.slice b4 s'.done.length d4] 32)):=below_step hb ((Below.refl _ _).alloc (Nat.le_refl _) _)
   have HC6:=LH (HC4.out.step hb6)
   have HS6:=LH (HS4.out.step hb6)
   have HO6:=LH (HO4.out.keep hb6)
   have HN6:=LH ((ho5.keep (w':=(w5.alloc (.cells #[.int .i64 s'.clock,.slice a4 s'.waits.length c4,.slice b4 s'.done.length d4] 32))) ((Below.refl _ _).alloc (Nat.le_refl _) _)).le HWR.out)
   have HR6:=LH (HR4.out.step hb6)
   have HK6:=LH (HK4.out.keep hb6)
   have HG6:=LH (ownsRow_keep HG4.out hb6)
   have HREL6:=LH (HFR.out _ _ _ _ HREL4.out HWR.out (Fr.below hb6) (hb6.mono HWR.out))
   have HF6:Hid (Fr (32 :: ts) w (w5.alloc (.cells #[.int .i64 s'.clock,.slice a4 s'.waits.length c4,.slice b4 s'.done.length d4] 32))):=LH (HF4.out.trans (Fr.below hb6))
   have HX6:Hid (Blk (w5.alloc (.cells #[.int .i64 s'.clock,.slice a4 s'.waits.length c4,.slice b4 s'.done.length d4] 32)) w5.heap.size 32 [.int .i64 s'.clock,.slice a4 s'.waits.length c4,.slice b4 s'.done.length d4]):=LH (Blk.new rfl)
   have HSZ6:Hid (w.heap.size≤(w5.alloc (.cells #[.int .i64 s'.clock,.slice a4 s'.waits.length c4,.slice b4 s'.done.length d4] 32)).heap.size):=LH (Nat.le_trans HWR.out hb6.size)
   have hs5:=hb.size
   have HB6:=LH hb6
   obtain ⟨xb,hxb⟩:∃ xb,xb=w5.heap.size:=⟨_,rfl⟩
   clear hb hb6 ho5 KA HC4 HS4 HO4 HR4 HK4 HG4 HREL4 HF4 q0 q1 q2 qz p0 p1 p2 p3 p4 p5 p6 p7 p8 p9 p10 p11 pz
   by_cases hx:xe=0
   ·have hxf:(xe != 0)=false:=by simpa using hx
    have HE1:Hid (ordStep gr c s=s'):=by
     have:=HE.out
     rw [if_pos hx] at this
     exact LH this
    clear HE hx
    go_upto_region 13 with fail
    rw [← hxb] at HX6 hs5 ⊢
    generalize (w5.alloc (.cells #[.int .i64 s'.clock,.slice a4 s'.waits.length c4,.slice b4 s'.done.length d4] 32))=w6 at HC6 HS6 HO6 HN6 HR6 HK6 HG6 HREL6 HF6 HX6 HSZ6 HB6 ⊢
    clear hxb hxf
    obtain ⟨q0,q1,q2,qz⟩:=cells3 HS6.out
    obtain ⟨y0,y1,y2,yz⟩:=cells3 HX6.out
    obtain ⟨⟨⟨p0,p1,p2,p3⟩,⟨p4,p5,p6,p7⟩,p8,p9,p10,p11⟩,pz⟩:=cells12 HC6.out
    have ql:=HS6.out.lt
    have yl:=HX6.out.lt
    have cl:=HC6.out.lt
    have hsr:=HDO.out c (cs.drop (k+1)) s w6 (.agg #[.int .u8 c.kind,.int .i64 c.msg.id,.slice ma c.msg.groups.length mc,.int .i64 c.msg.topic,.string c.msg.key,.string c.msg.body,.int .i64 c.id,.int .i64 c.time,.slice mb c.members.length bc,.int .i64 c.topic,.int .i64 c.who,.int .i64 c.n,.int .i64 s.clock,.slice wa s.waits.length wc,.slice da s.done.length dc,.int .i64 s'.clock,.slice a4 s'.waits.length c4,.slice b4 s'.done.length d4,.slice la ln lc]) (by trivial) HOC.out HREL6.out HSZ6.out HRUN.out
    rw [HE1.out] at hsr
    have KF:=LH (hsr ⟨ma,mc,mb,bc,wa,wc,da,dc,a4,c4,b4,d4,_,_,_,rfl,HG6.out,HO6.out,HN6.out⟩)
    clear hsr HREL6 HG6
    go_wp2_with fail
    refine KF.out.mono ?_
    rintro e w8 ⟨rfl,hrel8,hf8⟩
    have ⟨T1,T2,T3,T4,T5,T6⟩:=HT.out
    have HREL8:=LH hrel8
    have HK8:=LH (HK6.out.fr hf8 T1 T2)
    have HO8:=LH (HN6.out.fr hf8 T3 T2 T4)
    have HS8:=LH (HS6.out.fr hf8 T5)
    have HX8:=LH (HX6.out.fr hf8 T5)
    have HR8:=LH (HR6.out.fr hf8 T5)
    have HF8:Hid (Fr (32 :: ts) w w8):=LH (HF6.out.trans (hf8.mono fun t ht=>List.mem_cons_of_mem _ ht))
    have HSZ8:Hid (w.heap.size≤w8.heap.size):=LH (Nat.le_trans HSZ6.out hf8.1)
    have hrun8:=HRUN.out.step (g:=gr) HOC.out
    rw [HE1.out] at hrun8
    have HRUN8:=LH hrun8
    clear hrel8 hf8 hrun8 T1 T2 T3 T4 T5 T6 KF HK6 HO6 HS6 HX6 HR6 HF6 HSZ6 HC6 q0 q1 q2 qz y0 y1 y2 yz p0 p1 p2 p3 p4 p5 p6 p7 p8 p9 p10 p11 pz ql yl cl
    obtain ⟨q0,q1,q2,qz⟩:=cells3 HS8.out
    obtain ⟨y0,y1,y2,yz⟩:=cells3 HX8.out
    have ql:=HS8.out.lt
    have yl:=HX8.out.lt
    go_upto_region 15 with fail
    have hfs:Fr [32] w8 (((w8.setCell ⟨b,0,none⟩ (.int .i64 s'.clock)).setCell ⟨b,1,none⟩ (.slice a4 s'.waits.length c4)).setCell ⟨b,2,none⟩ (.slice b4 s'.done.length d4)):=((Fr.set HS8.out (by decide)).trans (Fr.set (HS8.out.set_ 0 _) (by decide))).trans (Fr.set ((HS8.out.set_ 0 _).set_ 1 _) (by decide))
    have hbs:Below w.heap.size w8 (((w8.setCell ⟨b,0,none⟩ (.int .i64 s'.clock)).setCell ⟨b,1,none⟩ (.slice a4 s'.waits.length c4)).setCell ⟨b,2,none⟩ (.slice b4 s'.done.length d4)):=(((Below.refl w.heap.size w8).setCell (show w.heap.size≤b by omega) _).setCell (show w.heap.size≤b by omega) _).setCell (show w.heap.size≤b by omega) _
    have HREL9:=LH (HFR.out _ _ _ _ HREL8.out HSZ8.out hfs hbs)
    have HK9:=LH (HK8.out.fr hfs (by decide) (by decide))
    have HO9:=LH (HO8.out.fr hfs (by decide) (by decide) (by decide))
    have HS9:Hid (Blk (((w8.setCell ⟨b,0,none⟩ (.int .i64 s'.clock)).setCell ⟨b,1,none⟩ (.slice a4 s'.waits.length c4)).setCell ⟨b,2,none⟩ (.slice b4 s'.done.length d4)) b 32 [.int .i64 s'.clock,.slice a4 s'.waits.length c4,.slice b4 s'.done.length d4]):=LH (((HS8.out.set_ 0 _).set_ 1 _).set_ 2 _)
    have hne:w.heap.size≠b:=by omega
    have HR9:Hid (Blk (((w8.setCell ⟨b,0,none⟩ (.int .i64 s'.clock)).setCell ⟨b,1,none⟩ (.slice a4 s'.waits.length c4)).setCell ⟨b,2,none⟩ (.slice b4 s'.done.length d4)) w.heap.size 32 [.int .i64 0,.slice none 0 0,.slice none 0 0]):=LH (((HR8.out.far hne _).far hne _).far hne _)
    have HF9:Hid (Fr (32 :: ts) w (((w8.setCell ⟨b,0,none⟩ (.int .i64 s'.clock)).setCell ⟨b,1,none⟩ (.slice a4 s'.waits.length c4)).setCell ⟨b,2,none⟩ (.slice b4 s'.done.length d4))):=LH (HF8.out.trans (hfs.mono fun t ht=>List.mem_cons.2 (Or.inl (List.mem_singleton.1 ht))))
    have hsz9:=hfs.1
    clear hfs hbs hne HREL8 HK8 HO8 HS8 HX8 HR8 HF8 HSZ8 q0 q1 q2 qz y0 y1 y2 yz
    generalize (((w8.setCell ⟨b,0,none⟩ (.int .i64 s'.clock)).setCell ⟨b,1,none⟩ (.slice a4 s'.waits.length c4)).setCell ⟨b,2,none⟩ (.slice b4 s'.done.length d4))=w9 at HREL9 HK9 HO9 HS9 HR9 HF9 hsz9 ⊢
    have hn200:n≤200:=HN2.out
    go_wp2_with fail
    go_roundg (n - (k+1))
    case measure=>omega
    case rel=>exact ⟨k+1,s',a4,b4,c4,d4,by omega,rfl,by go_num,HREL9,HRUN8,HK9,HS9,HO9,HR9,HF9,LH (by omega)⟩
   ·have hxt:(xe != 0)=true:=by simpa using hx
    have HE1:Hid (ordStep gr c s=s):=by
     have:=HE.out
     rw [if_neg hx] at this
     exact LH this
    clear HE hx
    go_upto_region 12 with fail
    rw [← hxb] at HX6 hs5 ⊢
    generalize (w5.alloc (.cells #[.int .i64 s'.clock,.slice a4 s'.waits.length c4,.slice b4 s'.done.length d4] 32))=w6 at HC6 HS6 HO6 HN6 HR6 HK6 HG6 HREL6 HF6 HX6 HSZ6 HB6 ⊢
    clear hxb hxt
    obtain ⟨q0,q1,q2,qz⟩:=cells3 HS6.out
    obtain ⟨y0,y1,y2,yz⟩:=cells3 HX6.out
    have ql:=HS6.out.lt
    have yl:=HX6.out.lt
    have hwb:=HWR.out
    go_upto_region 13 with fail
    have hfs:Fr [32] w6 (((w6.setCell ⟨xb,0,none⟩ (.int .i64 s.clock)).setCell ⟨xb,1,none⟩ (.slice wa s.waits.length wc)).setCell ⟨xb,2,none⟩ (.slice da s.done.length dc)):=((Fr.set HX6.out (by decide)).trans (Fr.set (HX6.out.set_ 0 _) (by decide))).trans (Fr.set ((HX6.out.set_ 0 _).set_ 1 _) (by decide))
    have hbs:Below w.heap.size w6 (((w6.setCell ⟨xb,0,none⟩ (.int .i64 s.clock)).setCell ⟨xb,1,none⟩ (.slice wa s.waits.length wc)).setCell ⟨xb,2,none⟩ (.slice da s.done.length dc)):=(((Below.refl w.heap.size w6).setCell (show w.heap.size≤xb by omega) _).setCell (show w.heap.size≤xb by omega) _).setCell (show w.heap.size≤xb by omega) _
    have HREL7:=LH (HFR.out _ _ _ _ HREL6.out HSZ6.out hfs hbs)
    have HC7:=LH (HC6.out.fr hfs (by decide))
    have HK7:=LH (HK6.out.fr hfs (by decide) (by decide))
    have HO7:=LH (HO6.out.fr hfs (by decide) (by decide) (by decide))
    have HG7:=LH (ownsRow_fr HG6.out hfs (by decide))
    have HX7:Hid (Blk (((w6.setCell ⟨xb,0,none⟩ (.int .i64 s.clock)).setCell ⟨xb,1,none⟩ (.slice wa s.waits.length wc)).setCell ⟨xb,2,none⟩ (.slice da s.done.length dc)) xb 32 [.int .i64 s.clock,.slice wa s.waits.length wc,.slice da s.done.length dc]):=LH (((HX6.out.set_ 0 _).set_ 1 _).set_ 2 _)
    have hne:b≠xb:=by omega
    have HS7:Hid (Blk (((w6.setCell ⟨xb,0,none⟩ (.int .i64 s.clock)).setCell ⟨xb,1,none⟩ (.slice wa s.waits.length wc)).setCell ⟨xb,2,none⟩ (.slice da s.done.length dc)) b 32 [.int .i64 s.clock,.slice wa s.waits.length wc,.slice da s.done.length dc]):=LH (((HS6.out.far hne _).far hne _).far hne _)
    have hne2:w.heap.size≠xb:=by omega
    have HR7:Hid (Blk (((w6.setCell ⟨xb,0,none⟩ (.int .i64 s.clock)).setCell ⟨xb,1,none⟩ (.slice wa s.waits.length wc)).setCell ⟨xb,2,none⟩ (.slice da s.done.length dc)) w.heap.size 32 [.int .i64 0,.slice none 0 0,.slice none 0 0]):=LH (((HR6.out.far hne2 _).far hne2 _).far hne2 _)
    have HF7:Hid (Fr (32 :: ts) w (((w6.setCell ⟨xb,0,none⟩ (.int .i64 s.clock)).setCell ⟨xb,1,none⟩ (.slice wa s.waits.length wc)).setCell ⟨xb,2,none⟩ (.slice da s.done.length dc))):=LH (HF6.out.trans (hfs.mono fun t ht=>List.mem_cons.2 (Or.inl (List.mem_singleton.1 ht))))
    have HSZ7:Hid (w.heap.size≤(((w6.setCell ⟨xb,0,none⟩ (.int .i64 s.clock)).setCell ⟨xb,1,none⟩ (.slice wa s.waits.length wc)).setCell ⟨xb,2,none⟩ (.slice da s.done.length dc)).heap.size):=LH (Nat.le_trans HSZ6.out hfs.1)
    clear hfs hbs hne hne2 HREL6 HC6 HK6 HO6 HG6 HX6 HS6 HR6 HF6 HSZ6 q0 q1 q2 qz y0 y1 y2 yz HB6 HN6
    generalize (((w6.setCell ⟨xb,0,none⟩ (.int .i64 s.clock)).setCell ⟨xb,1,none⟩ (.slice wa s.waits.length wc)).setCell ⟨xb,2,none⟩ (.slice da s.done.length dc))=w7 at HREL7 HC7 HK7 HO7 HG7 HX7 HS7 HR7 HF7 HSZ7 ⊢
    obtain ⟨q0,q1,q2,qz⟩:=cells3 HS7.out
    obtain ⟨y0,y1,y2,yz⟩:=cells3 HX7.out
    obtain ⟨⟨⟨p0,p1,p2,p3⟩,⟨p4,p5,p6,p7⟩,p8,p9,p10,p11⟩,pz⟩:=cells12 HC7.out
    have ql:=HS7.out.lt
    have yl:=HX7.out.lt
    have cl:=HC7.out.lt
    have hsr:=HDO.out c (cs.drop (k+1)) s w7 (.agg #[.int .u8 c.kind,.int .i64 c.msg.id,.slice ma c.msg.groups.length mc,.int .i64 c.msg.topic,.string c.msg.key,.string c.msg.body,.int .i64 c.id,.int .i64 c.time,.slice mb c.members.length bc,.int .i64 c.topic,.int .i64 c.who,.int .i64 c.n,.int .i64 s.clock,.slice wa s.waits.length wc,.slice da s.done.length dc,.int .i64 s.clock,.slice wa s.waits.length wc,.slice da s.done.length dc,.slice none 0 0]) (by trivial) HOC.out HREL7.out HSZ7.out HRUN.out
    rw [HE1.out] at hsr
    have KF:=LH (hsr ⟨ma,mc,mb,bc,wa,wc,da,dc,wa,wc,da,dc,_,_,_,rfl,HG7.out,HO7.out,HO7.out⟩)
    clear hsr HREL7 HG7
    go_wp2_with fail
    refine KF.out.mono ?_
    rintro e w8 ⟨rfl,hrel8,hf8⟩
    have ⟨T1,T2,T3,T4,T5,T6⟩:=HT.out
    have HREL8:=LH hrel8
    have HK8:=LH (HK7.out.fr hf8 T1 T2)
    have HO8:=LH (HO7.out.fr hf8 T3 T2 T4)
    have HS8:=LH (HS7.out.fr hf8 T5)
    have HX8:=LH (HX7.out.fr hf8 T5)
    have HR8:=LH (HR7.out.fr hf8 T5)
    have HF8:Hid (Fr (32 :: ts) w w8):=LH (HF7.out.trans (hf8.mono fun t ht=>List.mem_cons_of_mem _ ht))
    have HSZ8:Hid (w.heap.size≤w8.heap.size):=LH (Nat.le_trans HSZ7.out hf8.1)
    have hrun8:=HRUN.out.step (g:=gr) HOC.out
    rw [HE1.out] at hrun8
    have HRUN8:=LH hrun8
    clear hrel8 hf8 hrun8 T1 T2 T3 T4 T5 T6 KF HK7 HO7 HS7 HX7 HR7 HF7 HSZ7 HC7 q0 q1 q2 qz y0 y1 y2 yz p0 p1 p2 p3 p4 p5 p6 p7 p8 p9 p10 p11 pz ql yl cl
    obtain ⟨q0,q1,q2,qz⟩:=cells3 HS8.out
    obtain ⟨y0,y1,y2,yz⟩:=cells3 HX8.out
    have ql:=HS8.out.lt
    have yl:=HX8.out.lt
    go_upto_region 15 with fail
    have hfs:Fr [32] w8 (((w8.setCell ⟨b,0,none⟩ (.int .i64 s.clock)).setCell ⟨b,1,none⟩ (.slice wa s.waits.length wc)).setCell ⟨b,2,none⟩ (.slice da s.done.length dc)):=((Fr.set HS8.out (by decide)).trans (Fr.set (HS8.out.set_ 0 _) (by decide))).trans (Fr.set ((HS8.out.set_ 0 _).set_ 1 _) (by decide))
    have hbs:Below w.heap.size w8 (((w8.setCell ⟨b,0,none⟩ (.int .i64 s.clock)).setCell ⟨b,1,none⟩ (.slice wa s.waits.length wc)).setCell ⟨b,2,none⟩ (.slice da s.done.length dc)):=(((Below.refl w.heap.size w8).setCell (show w.heap.size≤b by omega) _).setCell (show w.heap.size≤b by omega) _).setCell (show w.heap.size≤b by omega) _
    have HREL9:=LH (HFR.out _ _ _ _ HREL8.out HSZ8.out hfs hbs)
    have HK9:=LH (HK8.out.fr hfs (by decide) (by decide))
    have HO9:=LH (HO8.out.fr hfs (by decide) (by decide) (by decide))
    have HS9:Hid (Blk (((w8.setCell ⟨b,0,none⟩ (.int .i64 s.clock)).setCell ⟨b,1,none⟩ (.slice wa s.waits.length wc)).setCell ⟨b,2,none⟩ (.slice da s.done.length dc)) b 32 [.int .i64 s.clock,.slice wa s.waits.length wc,.slice da s.done.length dc]):=LH (((HS8.out.set_ 0 _).set_ 1 _).set_ 2 _)
    have hne:w.heap.size≠b:=by omega
    have HR9:Hid (Blk (((w8.setCell ⟨b,0,none⟩ (.int .i64 s.clock)).setCell ⟨b,1,none⟩ (.slice wa s.waits.length wc)).setCell ⟨b,2,none⟩ (.slice da s.done.length dc)) w.heap.size 32 [.int .i64 0,.slice none 0 0,.slice none 0 0]):=LH (((HR8.out.far hne _).far hne _).far hne _)
    have HF9:Hid (Fr (32 :: ts) w (((w8.setCell ⟨b,0,none⟩ (.int .i64 s.clock)).setCell ⟨b,1,none⟩ (.slice wa s.waits.length wc)).setCell ⟨b,2,none⟩ (.slice da s.done.length dc))):=LH (HF8.out.trans (hfs.mono fun t ht=>List.mem_cons.2 (Or.inl (List.mem_singleton.1 ht))))
    have hsz9:=hfs.1
    clear hfs hbs hne HREL8 HK8 HO8 HS8 HX8 HR8 HF8 HSZ8 q0 q1 q2 qz y0 y1 y2 yz
    generalize (((w8.setCell ⟨b,0,none⟩ (.int .i64 s.clock)).setCell ⟨b,1,none⟩ (.slice wa s.waits.length wc)).setCell ⟨b,2,none⟩ (.slice da s.done.length dc))=w9 at HREL9 HK9 HO9 HS9 HR9 HF9 hsz9 ⊢
    have hn200:n≤200:=HN2.out
    go_wp2_with fail
    go_roundg (n - (k+1))
    case measure=>omega
    case rel=>exact ⟨k+1,s,wa,da,wc,dc,by omega,rfl,by go_num,HREL9,HRUN8,HK9,HS9,HO9,HR9,HF9,LH (by omega)⟩
  ·obtain rfl:k=n:=by omega
   have hlt':¬ (k:Int) < (k:Int):=by omega
   have hrel:=HREL.out
   rw [List.drop_eq_nil_of_le (by rw [← HN.out];exact Nat.le_refl _)] at hrel
   have HREL2:=LH hrel
   have KT:Hid (Calls Tryz.prog 31 #[.agg #[.int .i64 s.clock,.slice wa s.waits.length wc,.slice da s.done.length dc]] wr (SkEnd s wr)):=LH (skTwin_any HO.out.reads HRUN.out.few.few)
   obtain ⟨q0,q1,q2,qz⟩:=cells3 HS.out
   have ql:=HS.out.lt
   clear hrel HREL
   go_wp2_with fail
   refine KT.out.mono ?_
   rintro e w5 ⟨v',rfl,ho,hb⟩
   obtain ⟨a4,c4,b4,d4,ev,-⟩:=id ho
   subst ev
   have HR5:=LH (HR.out.step hb)
   have HB5:=LH hb
   obtain ⟨y0,y1,y2,yz⟩:=cells3 HR5.out
   have yl:=HR5.out.lt
   clear ho hb q0 q1 q2 qz KT
   go_wp2_with fail
   obtain ⟨u0,u1,u2,-⟩:=cells3 (((HR5.out.set_ 0 (.int .i64 s.clock)).set_ 1 (.slice a4 s.waits.length c4)).set_ 2 (.slice b4 s.done.length d4))
   have hfs:Fr [32] w5 (((w5.setCell ⟨w.heap.size,0,none⟩ (.int .i64 s.clock)).setCell ⟨w.heap.size,1,none⟩ (.slice a4 s.waits.length c4)).setCell ⟨w.heap.size,2,none⟩ (.slice b4 s.done.length d4)):=((Fr.set HR5.out (by decide)).trans (Fr.set (HR5.out.set_ 0 _) (by decide))).trans (Fr.set ((HR5.out.set_ 0 _).set_ 1 _) (by decide))
   have hbs:Below w.heap.size w5 (((w5.setCell ⟨w.heap.size,0,none⟩ (.int .i64 s.clock)).setCell ⟨w.heap.size,1,none⟩ (.slice a4 s.waits.length c4)).setCell ⟨w.heap.size,2,none⟩ (.slice b4 s.done.length d4)):=(((Below.refl w.heap.size w5).setCell (Nat.le_refl _) _).setCell (Nat.le_refl _) _).setCell (Nat.le_refl _) _
   have hsw:=HF.out.1
   have hs5:=HB5.out.size
   refine bodyPost_ret (v:=.tuple #[.agg #[.int .i64 s.clock,.slice a4 s.waits.length c4,.slice b4 s.done.length d4],.int .i64 0]) (by simp [results,Tryz.results12,go_sem,u0,u1,u2]) rfl ⟨_,_,_,_,_,_,_,[],s,rfl,?_,?_,fun _=>rfl⟩
   ·exact (HF.out.trans (Fr.below HB5.out)).trans (hfs.mono fun t ht=>List.mem_cons.2 (Or.inl (List.mem_singleton.1 ht)))
   ·exact HFR.out _ _ _ _ (HFR.out _ _ _ _ HREL2.out hsw (Fr.below HB5.out) (HB5.out.mono hsw)) (by omega) hfs hbs
end Go.Proofs.YtkkohllhebdlcaaGreatDoor
