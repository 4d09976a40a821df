/-
  Proved here: topic.Add. No condition but that the topic reads. command's reader: one kind of commands. No condition but the kind.
-/
import Derived.Test.YtdfmcgekfogpbabGreatDoorY07
import Derived.Test.YtdfmcgekfogpbabGreatDoorY10
import Derived.Test.YtdfmcgekfogpbabGreatDoorY12
set_option maxRecDepth 100000
set_option maxRecDepth 100000
namespace Go.Proofs.YtdfmcgekfogpbabGreatDoor
open Go.RowKit
set_option maxHeartbeats 4000000 in
set_option maxRecDepth 100000 in
theorem add_any {v:Value} {t u:Top} {w:World} {x y:Int} (id:Int) (k b:ByteArray) (h:TopR w v t) (hk:∀ x∈t.ents,x.key.size≤maxLen) (hf:addP t id k b=(u,x,y)) :
  Calls Tryz.prog 131 #[v,.int .i64 id,.string k,.string b] w (TopEnd2 u x y w):=by
 obtain ⟨i0,hi,hz0,hz1,hz2⟩:=info_parts info_ent
 have T:=LH h
 have HK:=LH hk
 obtain ⟨a,cap,rfl,hs⟩:=h
 by_cases hm:t.may
 ·have HM:=LH hm
  have HL:=LH (show t.ents.length≤200 from hm.1.2.2.2.2.2.2)
  have n0:0≤t.next:=hm.1.1
  have n1:t.next≤1073741824:=hm.1.2.1
  rw [addP,if_pos hm] at hf
  by_cases h1:id < 0∨6291456≤id
  ·rw [if_pos h1] at hf
   cases hf
   clear hm hs hk
   by_cases h2:id < 0
   ·clear h1
    go_enter Tryz.func131,Tryz.ntmps131
    go_wp2_with fail
    refine Calls.mono (check_yes ?_ HK.out HM.out) ?_
    ·exact T.out.below (by repeat (first|with_reducible (first|exact Below.refl _ _|apply Below.drew|apply below_alloc)|((first|with_reducible refine Below.alloc ?_ ?_ _|with_reducible refine Below.setCell ?_ ?_ _);rotate_left;focus (first|(simp <;> omega)|omega))))
    rintro e w2 ⟨rfl,hb⟩
    have HB:Hid (Below w.heap.size w _):=below_step (by repeat (first|with_reducible (first|exact Below.refl _ _|apply Below.drew|apply below_alloc)|((first|with_reducible refine Below.alloc ?_ ?_ _|with_reducible refine Below.setCell ?_ ?_ _);rotate_left;focus (first|(simp <;> omega)|omega)))) hb
    have R:Blk _ (w.heap.size+1) _ _:=Blk.step (by repeat (first|((with_reducible apply Blk.new);focus (first|rfl|(simp <;> omega)))|with_reducible (first|apply Blk.drew|apply Blk.alloc|apply Blk.set_)|((with_reducible apply Blk.far);rotate_left;focus (first|(simp <;> omega)|omega)))) hb
    obtain ⟨r0,r1,r2,r3,rz⟩:=cells4 R
    have rl:=Blk.lt R
    have HR:=LH R
    clear R
    clear hb
    go_wp2_with fail
    refine bodyPost_ret (v:=.tuple #[.agg #[.int .i64 0,.int .i64 0,.int .i64 0,.slice none 0 0],.int .i64 0,.int .i64 2]) (by simp [results,Tryz.results131,go_sem,r0,r1,r2,r3]) rfl (topEnd2_zero _ _ rfl ?_)
    repeat (first|with_reducible (first|exact HB.out|exact Below.refl _ _|apply Below.drew|apply below_alloc)|((first|with_reducible refine Below.alloc ?_ ?_ _|with_reducible refine Below.setCell ?_ ?_ _);rotate_left;focus (first|(simp <;> omega)|omega)))
   ·have h3:6291456≤id:=by omega
    clear h1
    go_enter Tryz.func131,Tryz.ntmps131
    go_wp2_with fail
    refine Calls.mono (check_yes ?_ HK.out HM.out) ?_
    ·exact T.out.below (by repeat (first|with_reducible (first|exact Below.refl _ _|apply Below.drew|apply below_alloc)|((first|with_reducible refine Below.alloc ?_ ?_ _|with_reducible refine Below.setCell ?_ ?_ _);rotate_left;focus (first|(simp <;> omega)|omega))))
    rintro e w2 ⟨rfl,hb⟩
    have HB:Hid (Below w.heap.size w _):=below_step (by repeat (first|with_reducible (first|exact Below.refl _ _|apply Below.drew|apply below_alloc)|((first|with_reducible refine Below.alloc ?_ ?_ _|with_reducible refine Below.setCell ?_ ?_ _);rotate_left;focus (first|(simp <;> omega)|omega)))) hb
    have R:Blk _ (w.heap.size+1) _ _:=Blk.step (by repeat (first|((with_reducible apply Blk.new);focus (first|rfl|(simp <;> omega)))|with_reducible (first|apply Blk.drew|apply Blk.alloc|apply Blk.set_)|((with_reducible apply Blk.far);rotate_left;focus (first|(simp <;> omega)|omega)))) hb
    obtain ⟨r0,r1,r2,r3,rz⟩:=cells4 R
    have rl:=Blk.lt R
    have HR:=LH R
    clear R
    clear hb
    go_wp2_with fail
    refine bodyPost_ret (v:=.tuple #[.agg #[.int .i64 0,.int .i64 0,.int .i64 0,.slice none 0 0],.int .i64 0,.int .i64 2]) (by simp [results,Tryz.results131,go_sem,r0,r1,r2,r3]) rfl (topEnd2_zero _ _ rfl ?_)
    repeat (first|with_reducible (first|exact HB.out|exact Below.refl _ _|apply Below.drew|apply below_alloc)|((first|with_reducible refine Below.alloc ?_ ?_ _|with_reducible refine Below.setCell ?_ ?_ _);rotate_left;focus (first|(simp <;> omega)|omega)))
  ·rw [if_neg h1] at hf
   have h1a:0≤id:=by omega
   have h1b:id < 6291456:=by omega
   clear h1
   by_cases h2:16 < k.size∨64 < b.size
   ·rw [if_pos h2] at hf
    cases hf
    have E:=fun w=>entry_no t.next id k b w (by omega)
    have HE:=LH E
    clear hm hs hk E h2
    go_enter Tryz.func131,Tryz.ntmps131
    go_wp2_with fail
    refine Calls.mono (check_yes ?_ HK.out HM.out) ?_
    ·exact T.out.below (by repeat (first|with_reducible (first|exact Below.refl _ _|apply Below.drew|apply below_alloc)|((first|with_reducible refine Below.alloc ?_ ?_ _|with_reducible refine Below.setCell ?_ ?_ _);rotate_left;focus (first|(simp <;> omega)|omega))))
    rintro e w2 ⟨rfl,hb⟩
    have HB:Hid (Below w.heap.size w _):=below_step (by repeat (first|with_reducible (first|exact Below.refl _ _|apply Below.drew|apply below_alloc)|((first|with_reducible refine Below.alloc ?_ ?_ _|with_reducible refine Below.setCell ?_ ?_ _);rotate_left;focus (first|(simp <;> omega)|omega)))) hb
    have R:Blk _ (w.heap.size+1) _ _:=Blk.step (by repeat (first|((with_reducible apply Blk.new);focus (first|rfl|(simp <;> omega)))|with_reducible (first|apply Blk.drew|apply Blk.alloc|apply Blk.set_)|((with_reducible apply Blk.far);rotate_left;focus (first|(simp <;> omega)|omega)))) hb
    obtain ⟨r0,r1,r2,r3,rz⟩:=cells4 R
    have rl:=Blk.lt R
    have HR:=LH R
    clear R
    have X:Blk _ (w.heap.size+2) _ _:=Blk.step (by repeat (first|((with_reducible apply Blk.new);focus (first|rfl|(simp <;> omega)))|with_reducible (first|apply Blk.drew|apply Blk.alloc|apply Blk.set_)|((with_reducible apply Blk.far);rotate_left;focus (first|(simp <;> omega)|omega)))) hb
    obtain ⟨x0,x1,x2,x3,xz⟩:=cells4 X
    have xl:=Blk.lt X
    have HX:=LH X
    clear X
    clear hb
    go_wp2_with fail
    refine (HE.out _).mono ?_
    rintro e w3 ⟨rfl,hb⟩
    replace HB:Hid (Below w.heap.size w _):=below_step (by repeat (first|with_reducible (first|exact HB.out|exact Below.refl _ _|apply Below.drew|apply below_alloc)|((first|with_reducible refine Below.alloc ?_ ?_ _|with_reducible refine Below.setCell ?_ ?_ _);rotate_left;focus (first|(simp <;> omega)|omega)))) hb
    clear r0 r1 r2 r3 rz rl
    replace HR:Hid (Blk _ (w.heap.size+1) _ _):=Blk.step (by repeat (first|with_reducible exact HR.out|((with_reducible apply Blk.new);focus (first|rfl|(simp <;> omega)))|with_reducible (first|apply Blk.drew|apply Blk.alloc|apply Blk.set_)|((with_reducible apply Blk.far);rotate_left;focus (first|(simp <;> omega)|omega)))) hb
    obtain ⟨r0,r1,r2,r3,rz⟩:=cells4 HR.out
    have rl:=Blk.lt HR.out
    clear hb
    go_wp2_with fail
    refine bodyPost_ret (v:=.tuple #[.agg #[.int .i64 0,.int .i64 0,.int .i64 0,.slice none 0 0],.int .i64 0,.int .i64 3]) (by simp [results,Tryz.results131,go_sem,r0,r1,r2,r3]) rfl (topEnd2_zero _ _ rfl ?_)
    repeat (first|with_reducible (first|exact HB.out|exact Below.refl _ _|apply Below.drew|apply below_alloc)|((first|with_reducible refine Below.alloc ?_ ?_ _|with_reducible refine Below.setCell ?_ ?_ _);rotate_left;focus (first|(simp <;> omega)|omega)))
   ·rw [if_neg h2] at hf
    have E:=fun w=>entry_yes t.next id k b w h1a h1b (by omega) (by omega)
    have HE:=LH E
    clear E h2
    by_cases h3:t.next=1073741824∨t.ents.length=200
    ·rw [if_pos h3] at hf
     cases hf
     have h4:(t.next == 1073741824)=true∨((t.next == 1073741824)=false∧((t.ents.length:Int) == 200)=true):=by
      by_cases h5:t.next=1073741824
      ·exact Or.inl (by simpa using h5)
      ·exact Or.inr ⟨by simpa using h5,by have:=h3.resolve_left h5;simp;omega⟩
     clear hm hs hk h3
     rcases h4 with h4|⟨h4,h5⟩
     all_goals
      go_enter Tryz.func131,Tryz.ntmps131
      go_wp2_with fail
      refine Calls.mono (check_yes ?_ HK.out HM.out) ?_
      ·exact T.out.below (by repeat (first|with_reducible (first|exact Below.refl _ _|apply Below.drew|apply below_alloc)|((first|with_reducible refine Below.alloc ?_ ?_ _|with_reducible refine Below.setCell ?_ ?_ _);rotate_left;focus (first|(simp <;> omega)|omega))))
      rintro e w2 ⟨rfl,hb⟩
      have HB:Hid (Below w.heap.size w _):=below_step (by repeat (first|with_reducible (first|exact Below.refl _ _|apply Below.drew|apply below_alloc)|((first|with_reducible refine Below.alloc ?_ ?_ _|with_reducible refine Below.setCell ?_ ?_ _);rotate_left;focus (first|(simp <;> omega)|omega)))) hb
      have A:Blk _ (w.heap.size) _ _:=Blk.step (by repeat (first|((with_reducible apply Blk.new);focus (first|rfl|(simp <;> omega)))|with_reducible (first|apply Blk.drew|apply Blk.alloc|apply Blk.set_)|((with_reducible apply Blk.far);rotate_left;focus (first|(simp <;> omega)|omega)))) hb
      obtain ⟨a0,a1,a2,a3,az⟩:=cells4 A
      have al:=Blk.lt A
      have HA:=LH A
      clear A
      have R:Blk _ (w.heap.size+1) _ _:=Blk.step (by repeat (first|((with_reducible apply Blk.new);focus (first|rfl|(simp <;> omega)))|with_reducible (first|apply Blk.drew|apply Blk.alloc|apply Blk.set_)|((with_reducible apply Blk.far);rotate_left;focus (first|(simp <;> omega)|omega)))) hb
      obtain ⟨r0,r1,r2,r3,rz⟩:=cells4 R
      have rl:=Blk.lt R
      have HR:=LH R
      clear R
      have X:Blk _ (w.heap.size+2) _ _:=Blk.step (by repeat (first|((with_reducible apply Blk.new);focus (first|rfl|(simp <;> omega)))|with_reducible (first|apply Blk.drew|apply Blk.alloc|apply Blk.set_)|((with_reducible apply Blk.far);rotate_left;focus (first|(simp <;> omega)|omega)))) hb
      obtain ⟨x0,x1,x2,x3,xz⟩:=cells4 X
      have xl:=Blk.lt X
      have HX:=LH X
      clear X
      clear hb
      go_wp2_with fail
      refine (HE.out _).mono ?_
      rintro e w3 ⟨rfl,hb⟩
      replace HB:Hid (Below w.heap.size w _):=below_step (by repeat (first|with_reducible (first|exact HB.out|exact Below.refl _ _|apply Below.drew|apply below_alloc)|((first|with_reducible refine Below.alloc ?_ ?_ _|with_reducible refine Below.setCell ?_ ?_ _);rotate_left;focus (first|(simp <;> omega)|omega)))) hb
      clear a0 a1 a2 a3 az al
      replace HA:Hid (Blk _ (w.heap.size) _ _):=Blk.step (by repeat (first|with_reducible exact HA.out|((with_reducible apply Blk.new);focus (first|rfl|(simp <;> omega)))|with_reducible (first|apply Blk.drew|apply Blk.alloc|apply Blk.set_)|((with_reducible apply Blk.far);rotate_left;focus (first|(simp <;> omega)|omega)))) hb
      obtain ⟨a0,a1,a2,a3,az⟩:=cells4 HA.out
      have al:=Blk.lt HA.out
      clear r0 r1 r2 r3 rz rl
      replace HR:Hid (Blk _ (w.heap.size+1) _ _):=Blk.step (by repeat (first|with_reducible exact HR.out|((with_reducible apply Blk.new);focus (first|rfl|(simp <;> omega)))|with_reducible (first|apply Blk.drew|apply Blk.alloc|apply Blk.set_)|((with_reducible apply Blk.far);rotate_left;focus (first|(simp <;> omega)|omega)))) hb
      obtain ⟨r0,r1,r2,r3,rz⟩:=cells4 HR.out
      have rl:=Blk.lt HR.out
      clear hb
      go_wp2_with fail
      refine bodyPost_ret (v:=.tuple #[.agg #[.int .i64 0,.int .i64 0,.int .i64 0,.slice none 0 0],.int .i64 0,.int .i64 9]) (by simp [results,Tryz.results131,go_sem,r0,r1,r2,r3]) rfl (topEnd2_zero _ _ rfl ?_)
      repeat (first|with_reducible (first|exact HB.out|exact Below.refl _ _|apply Below.drew|apply below_alloc)|((first|with_reducible refine Below.alloc ?_ ?_ _|with_reducible refine Below.setCell ?_ ?_ _);rotate_left;focus (first|(simp <;> omega)|omega)))
    ·rw [if_neg h3] at hf
     cases hf
     have h4:(t.next == 1073741824)=false:=by simp;omega
     have h5:((t.ents.length:Int) == 200)=false:=by simp;omega
     have HL2:=LH (show t.ents.length≤1000000 by have:=HL.out;omega)
     have n2:t.next < 1073741824:=by omega
     clear hm hs hk h3
     go_enter Tryz.func131,Tryz.ntmps131
     go_wp2_with fail
     refine Calls.mono (check_yes ?_ HK.out HM.out) ?_
     ·exact T.out.below (by repeat (first|with_reducible (first|exact Below.refl _ _|apply Below.drew|apply below_alloc)|((first|with_reducible refine Below.alloc ?_ ?_ _|with_reducible refine Below.setCell ?_ ?_ _);rotate_left;focus (first|(simp <;> omega)|omega))))
     rintro e w2 ⟨rfl,hb⟩
     have HB:Hid (Below w.heap.size w _):=below_step (by repeat (first|with_reducible (first|exact Below.refl _ _|apply Below.drew|apply below_alloc)|((first|with_reducible refine Below.alloc ?_ ?_ _|with_reducible refine Below.setCell ?_ ?_ _);rotate_left;focus (first|(simp <;> omega)|omega)))) hb
     have A:Blk _ (w.heap.size) _ _:=Blk.step (by repeat (first|((with_reducible apply Blk.new);focus (first|rfl|(simp <;> omega)))|with_reducible (first|apply Blk.drew|apply Blk.alloc|apply Blk.set_)|((with_reducible apply Blk.far);rotate_left;focus (first|(simp <;> omega)|omega)))) hb
     obtain ⟨a0,a1,a2,a3,az⟩:=cells4 A
     have al:=Blk.lt A
     have HA:=LH A
     clear A
     have R:Blk _ (w.heap.size+1) _ _:=Blk.step (by repeat (first|((with_reducible apply Blk.new);focus (first|rfl|(simp <;> omega)))|with_reducible (first|apply Blk.drew|apply Blk.alloc|apply Blk.set_)|((with_reducible apply Blk.far);rotate_left;focus (first|(simp <;> omega)|omega)))) hb
     obtain ⟨r0,r1,r2,r3,rz⟩:=cells4 R
     have rl:=Blk.lt R
     have HR:=LH R
     clear R
     have X:Blk _ (w.heap.size+2) _ _:=Blk.step (by repeat (first|((with_reducible apply Blk.new);focus (first|rfl|(simp <;> omega)))|with_reducible (first|apply Blk.drew|apply Blk.alloc|apply Blk.set_)|((with_reducible apply Blk.far);rotate_left;focus (first|(simp <;> omega)|omega)))) hb
     obtain ⟨x0,x1,x2,x3,xz⟩:=cells4 X
     have xl:=Blk.lt X
     have HX:=LH X
     clear X
     replace T:Hid (TopR _ _ _):=topR_step T.out (by repeat (first|with_reducible (first|exact Below.refl _ _|apply Below.drew|apply below_alloc)|((first|with_reducible refine Below.alloc ?_ ?_ _|with_reducible refine Below.setCell ?_ ?_ _);rotate_left;focus (first|(simp <;> omega)|omega)))) hb
     clear hb
     go_wp2_with fail
     refine (HE.out _).mono ?_
     rintro e w3 ⟨rfl,hb⟩
     replace HB:Hid (Below w.heap.size w _):=below_step (by repeat (first|with_reducible (first|exact HB.out|exact Below.refl _ _|apply Below.drew|apply below_alloc)|((first|with_reducible refine Below.alloc ?_ ?_ _|with_reducible refine Below.setCell ?_ ?_ _);rotate_left;focus (first|(simp <;> omega)|omega)))) hb
     clear a0 a1 a2 a3 az al
     replace HA:Hid (Blk _ (w.heap.size) _ _):=Blk.step (by repeat (first|with_reducible exact HA.out|((with_reducible apply Blk.new);focus (first|rfl|(simp <;> omega)))|with_reducible (first|apply Blk.drew|apply Blk.alloc|apply Blk.set_)|((with_reducible apply Blk.far);rotate_left;focus (first|(simp <;> omega)|omega)))) hb
     obtain ⟨a0,a1,a2,a3,az⟩:=cells4 HA.out
     have al:=Blk.lt HA.out
     clear r0 r1 r2 r3 rz rl
     replace HR:Hid (Blk _ (w.heap.size+1) _ _):=Blk.step (by repeat (first|with_reducible exact HR.out|((with_reducible apply Blk.new);focus (first|rfl|(simp <;> omega)))|with_reducible (first|apply Blk.drew|apply Blk.alloc|apply Blk.set_)|((with_reducible apply Blk.far);rotate_left;focus (first|(simp <;> omega)|omega)))) hb
     obtain ⟨r0,r1,r2,r3,rz⟩:=cells4 HR.out
     have rl:=Blk.lt HR.out
     clear x0 x1 x2 x3 xz xl
     replace HX:Hid (Blk _ (w.heap.size+2) _ _):=Blk.step (by repeat (first|with_reducible exact HX.out|((with_reducible apply Blk.new);focus (first|rfl|(simp <;> omega)))|with_reducible (first|apply Blk.drew|apply Blk.alloc|apply Blk.set_)|((with_reducible apply Blk.far);rotate_left;focus (first|(simp <;> omega)|omega)))) hb
     obtain ⟨x0,x1,x2,x3,xz⟩:=cells4 HX.out
     have xl:=Blk.lt HX.out
     replace T:Hid (TopR _ _ _):=topR_step T.out (by repeat (first|with_reducible (first|exact Below.refl _ _|apply Below.drew|apply below_alloc)|((first|with_reducible refine Below.alloc ?_ ?_ _|with_reducible refine Below.setCell ?_ ?_ _);rotate_left;focus (first|(simp <;> omega)|omega)))) hb
     clear hb
     go_wp2_with fail
     refine Calls.mono (topTwin_any ?_ HL2.out) ?_
     ·exact T.out.below (by repeat (first|with_reducible (first|exact Below.refl _ _|apply Below.drew|apply below_alloc)|((first|with_reducible refine Below.alloc ?_ ?_ _|with_reducible refine Below.setCell ?_ ?_ _);rotate_left;focus (first|(simp <;> omega)|omega))))
     rintro e w4 ⟨a4,cap4,rfl,o4,hb⟩
     have s4:w.heap.size+2 < w3.heap.size:=xl
     replace HB:Hid (Below w.heap.size w _):=below_step (by repeat (first|with_reducible (first|exact HB.out|exact Below.refl _ _|apply Below.drew|apply below_alloc)|((first|with_reducible refine Below.alloc ?_ ?_ _|with_reducible refine Below.setCell ?_ ?_ _);rotate_left;focus (first|(simp <;> omega)|omega)))) hb
     clear a0 a1 a2 a3 az al
     replace HA:Hid (Blk _ (w.heap.size) _ _):=Blk.step (by repeat (first|with_reducible exact HA.out|((with_reducible apply Blk.new);focus (first|rfl|(simp <;> omega)))|with_reducible (first|apply Blk.drew|apply Blk.alloc|apply Blk.set_)|((with_reducible apply Blk.far);rotate_left;focus (first|(simp <;> omega)|omega)))) hb
     obtain ⟨a0,a1,a2,a3,az⟩:=cells4 HA.out
     have al:=Blk.lt HA.out
     clear r0 r1 r2 r3 rz rl
     replace HR:Hid (Blk _ (w.heap.size+1) _ _):=Blk.step (by repeat (first|with_reducible exact HR.out|((with_reducible apply Blk.new);focus (first|rfl|(simp <;> omega)))|with_reducible (first|apply Blk.drew|apply Blk.alloc|apply Blk.set_)|((with_reducible apply Blk.far);rotate_left;focus (first|(simp <;> omega)|omega)))) hb
     obtain ⟨r0,r1,r2,r3,rz⟩:=cells4 HR.out
     have rl:=Blk.lt HR.out
     clear x0 x1 x2 x3 xz xl
     replace HX:Hid (Blk _ (w.heap.size+2) _ _):=Blk.step (by repeat (first|with_reducible exact HX.out|((with_reducible apply Blk.new);focus (first|rfl|(simp <;> omega)))|with_reducible (first|apply Blk.drew|apply Blk.alloc|apply Blk.set_)|((with_reducible apply Blk.far);rotate_left;focus (first|(simp <;> omega)|omega)))) hb
     obtain ⟨x0,x1,x2,x3,xz⟩:=cells4 HX.out
     have xl:=Blk.lt HX.out
     have O4:=LH o4
     have s5:w3.heap.size≤w4.heap.size:=hb.size
     clear hb o4 h4 h5
     go_wp2_with (at_builtin;go_must (refine wpList_append_own _ rfl _ _ 101 rfl w3.heap.size 50 i0 _ 4 48 Tryz.underlying101 hi hz0 hz1 hz2 rfl (by decide) _ _ _ rfl (own_alloc (own_set (own_set (own_set (own_set O4.out (by omega)) (by omega)) (by omega)) (by omega))) ⟨w4.heap.size,0,none⟩ 1 1 (entCells ⟨t.next,id,k,b⟩) rfl rfl ?_ (by intro v hv;simp [entCells] at hv;rcases hv with rfl|rfl|rfl|rfl <;> rfl) (by have:=HL.out;unfold maxLen;omega) (by have:=HL.out;omega) (by simp;omega) ?_))
     ·exact news_ent ⟨t.next,id,k,b⟩ (by simp)
     ·intro v' w5 hown hgrow _
      have OW:OwnE w5 w3.heap.size v' (t.ents++[⟨t.next,id,k,b⟩]):=by
       show w5.ownsRow _ _ _ _ _ _
       simpa [List.flatMap_append] using hown
      obtain ⟨a5,cap5,hv5⟩:=own_shape OW
      subst hv5
      have O5:=LH OW
      have HAA:Hid (Blk _ (w.heap.size) _ _):=Blk.grown (by repeat (first|with_reducible exact HA.out|((with_reducible apply Blk.new);focus (first|rfl|(simp <;> omega)))|with_reducible (first|apply Blk.drew|apply Blk.alloc|apply Blk.set_)|((with_reducible apply Blk.far);rotate_left;focus (first|(simp <;> omega)|omega)))) hgrow (own_ne O4.out (by omega))
      obtain ⟨aa0,aa1,aa2,aa3,aaz⟩:=cells4 HAA.out
      have aal:=Blk.lt HAA.out
      have HRR:Hid (Blk _ (w.heap.size+1) _ _):=Blk.grown (by repeat (first|with_reducible exact HR.out|((with_reducible apply Blk.new);focus (first|rfl|(simp <;> omega)))|with_reducible (first|apply Blk.drew|apply Blk.alloc|apply Blk.set_)|((with_reducible apply Blk.far);rotate_left;focus (first|(simp <;> omega)|omega)))) hgrow (own_ne O4.out (by omega))
      obtain ⟨rr0,rr1,rr2,rr3,rrz⟩:=cells4 HRR.out
      have rrl:=Blk.lt HRR.out
      have HXX:Hid (Blk _ (w.heap.size+2) _ _):=Blk.grown (by repeat (first|with_reducible exact HX.out|((with_reducible apply Blk.new);focus (first|rfl|(simp <;> omega)))|with_reducible (first|apply Blk.drew|apply Blk.alloc|apply Blk.set_)|((with_reducible apply Blk.far);rotate_left;focus (first|(simp <;> omega)|omega)))) hgrow (own_ne O4.out (by omega))
      obtain ⟨xx0,xx1,xx2,xx3,xxz⟩:=cells4 HXX.out
      have xxl:=Blk.lt HXX.out
      have HB5:Hid (Below w.heap.size w w5):=below_grown (by repeat (first|with_reducible (first|exact HB.out|exact Below.refl _ _|apply Below.drew|apply below_alloc)|((first|with_reducible refine Below.alloc ?_ ?_ _|with_reducible refine Below.setCell ?_ ?_ _);rotate_left;focus (first|(simp <;> omega)|omega)))) hgrow (own_alloc (own_set (own_set (own_set (own_set O4.out (by omega)) (by omega)) (by omega)) (by omega))) (by omega)
      have wn:IntKind.i64.wrap (t.next+1)=t.next+1:=IntWalk.i64_in _ (by omega)
      clear hown OW hgrow a0 a1 a2 a3 az r0 r1 r2 r3 rz x0 x1 x2 x3 xz
      go_wp2_with fail
      refine at_code (fun W=>Blk W w.heap.size 103 [.int .i64 t.base,.int .i64 (t.next+1),.int .i64 t.mark,.slice a5 (t.ents++[(⟨t.next,id,k,b⟩:Ent)]).length cap5]∧Blk W (w.heap.size+1) 103 [.int .i64 0,.int .i64 0,.int .i64 0,.slice none 0 0]∧Blk W (w.heap.size+2) 50 (entCells ⟨t.next,id,k,b⟩)∧Below w.heap.size w W∧OwnE W w3.heap.size (.slice a5 (t.ents++[(⟨t.next,id,k,b⟩:Ent)]).length cap5) (t.ents++[⟨t.next,id,k,b⟩])) ⟨?_,?_,?_,?_,?_⟩ ?_
      ·have h:=(HAA.out.set_ 3 (.slice a5 (t.ents++[(⟨t.next,id,k,b⟩:Ent)]).length cap5)).set_ 1 (.int .i64 (t.next+1))
       simpa using h
      ·repeat (first|with_reducible exact HRR.out|((with_reducible apply Blk.new);focus (first|rfl|(simp <;> omega)))|with_reducible (first|apply Blk.drew|apply Blk.alloc|apply Blk.set_)|((with_reducible apply Blk.far);rotate_left;focus (first|(simp <;> omega)|omega)))
      ·repeat (first|with_reducible exact HXX.out|((with_reducible apply Blk.new);focus (first|rfl|(simp <;> omega)))|with_reducible (first|apply Blk.drew|apply Blk.alloc|apply Blk.set_)|((with_reducible apply Blk.far);rotate_left;focus (first|(simp <;> omega)|omega)))
       exact HXX.out
      ·repeat (first|with_reducible (first|exact HB5.out|exact Below.refl _ _|apply Below.drew|apply below_alloc)|((first|with_reducible refine Below.alloc ?_ ?_ _|with_reducible refine Below.setCell ?_ ?_ _);rotate_left;focus (first|(simp <;> omega)|omega)))
      ·repeat (first|with_reducible (first|exact O5.out|apply own_drew|apply own_alloc)|((with_reducible apply own_set);rotate_left;focus (first|(simp <;> omega)|omega)))
      clear HAA HRR HXX HB5 O5 HA HR HX HB O4
      rintro W ⟨q1,q2,q3,q4,q5⟩
      obtain ⟨a0,a1,a2,a3,az⟩:=cells4 q1
      obtain ⟨r0,r1,r2,r3,rz⟩:=cells4 q2
      have x0:=q3.cell 0
      simp only [entCells,List.getElem?_cons_zero] at x0
      have Q4:=LH q4
      have Q5:=LH q5
      clear q1 q2 q3 q4 q5
      clear aa0 aa1 aa2 aa3 aaz rr0 rr1 rr2 rr3 rrz xx0 xx1 xx2 xx3 xxz T
      go_region_held3 (fun W=>W.cell? ⟨w.heap.size,0,none⟩=some (.int .i64 t.base)∧W.cell? ⟨w.heap.size,1,none⟩=some (.int .i64 (t.next+1))∧W.cell? ⟨w.heap.size,2,none⟩=some (.int .i64 t.mark) ∧
        W.cell? ⟨w.heap.size,3,none⟩=some (.slice a5 (t.ents++[(⟨t.next,id,k,b⟩:Ent)]).length cap5)∧W.cell? ⟨w.heap.size+2,0,none⟩=some (.int .i64 t.next)) (go_keep) (fail)
      go_wp2_with fail
      refine bodyPost_ret (v:=.tuple #[.agg #[.int .i64 t.base,.int .i64 (t.next+1),.int .i64 t.mark,.slice a5 (t.ents++[(⟨t.next,id,k,b⟩:Ent)]).length cap5],.int .i64 t.next,.int .i64 0]) (by simp [results,Tryz.results131,go_sem,r0,r1,r2,r3]) rfl ⟨a5,cap5,rfl,?_,?_⟩
      ·refine own_base (B:=w3.heap.size) ?_ (by omega)
       repeat (first|with_reducible (first|exact Q5.out|apply own_drew|apply own_alloc)|((with_reducible apply own_set);rotate_left;focus (first|(simp <;> omega)|omega)))
      ·repeat (first|with_reducible (first|exact Q4.out|exact Below.refl _ _|apply Below.drew|apply below_alloc)|((first|with_reducible refine Below.alloc ?_ ?_ _|with_reducible refine Below.setCell ?_ ?_ _);rotate_left;focus (first|(simp <;> omega)|omega)))
 ·have HM:=LH hm
  rw [addP,if_neg hm] at hf
  cases hf
  clear hm hs hk
  go_enter Tryz.func131,Tryz.ntmps131
  go_wp2_with fail
  refine Calls.mono (check_no ?_ HK.out HM.out) ?_
  ·exact T.out.below (by repeat (first|with_reducible (first|exact Below.refl _ _|apply Below.drew|apply below_alloc)|((first|with_reducible refine Below.alloc ?_ ?_ _|with_reducible refine Below.setCell ?_ ?_ _);rotate_left;focus (first|(simp <;> omega)|omega))))
  rintro e w2 ⟨rfl,hb⟩
  have HB:Hid (Below w.heap.size w _):=below_step (by repeat (first|with_reducible (first|exact Below.refl _ _|apply Below.drew|apply below_alloc)|((first|with_reducible refine Below.alloc ?_ ?_ _|with_reducible refine Below.setCell ?_ ?_ _);rotate_left;focus (first|(simp <;> omega)|omega)))) hb
  have R:Blk _ (w.heap.size+1) _ _:=Blk.step (by repeat (first|((with_reducible apply Blk.new);focus (first|rfl|(simp <;> omega)))|with_reducible (first|apply Blk.drew|apply Blk.alloc|apply Blk.set_)|((with_reducible apply Blk.far);rotate_left;focus (first|(simp <;> omega)|omega)))) hb
  obtain ⟨r0,r1,r2,r3,rz⟩:=cells4 R
  have rl:=Blk.lt R
  have HR:=LH R
  clear R
  clear hb
  go_wp2_with fail
  refine bodyPost_ret (v:=.tuple #[.agg #[.int .i64 0,.int .i64 0,.int .i64 0,.slice none 0 0],.int .i64 0,.int .i64 8]) (by simp [results,Tryz.results131,go_sem,r0,r1,r2,r3]) rfl (topEnd2_zero _ _ rfl ?_)
  repeat (first|with_reducible (first|exact HB.out|exact Below.refl _ _|apply Below.drew|apply below_alloc)|((first|with_reducible refine Below.alloc ?_ ?_ _|with_reducible refine Below.setCell ?_ ?_ _);rotate_left;focus (first|(simp <;> omega)|omega)))
set_option maxHeartbeats 8000000 in
set_option maxRecDepth 100000 in
theorem rd_k5 {w0 w:World} {g:Nat} {l:List Int} {o:Bool} {k:Int} (h:RdS w0 w g l o) (hk:k=min (nN l) 255) (hkk:k=5) {c:PC} {l':List Int} {o':Bool} (hr:rd56 5 (nL l) (nO l o)=(c,l',o')) :
  Calls Tryz.prog 53 #[.pointer (some ⟨g,0,none⟩)] w (RdCEnd w0 g c l' o' w):=by
 obtain ⟨n0,hn0⟩:∃ n,n=nN l:=⟨_,rfl⟩
 obtain ⟨l0,hl0⟩:∃ x,x=nL l:=⟨_,rfl⟩
 obtain ⟨o0,ho0⟩:∃ x,x=nO l o:=⟨_,rfl⟩
 have hpos:=nN_pos l
 rw [← hn0] at hk hpos
 rw [← hl0,← ho0] at hr
 have gl:g < w.heap.size:=by obtain ⟨_,_,hb,_⟩:=h;exact hb.lt
 have HR:=LH hr
 have RD:=LH h
 have HN0:=LH hn0
 have HL0:=LH hl0
 have HO0:=LH ho0
 clear h hr hn0 hl0 ho0
 obtain rfl:n0=5:=by omega
 clear hpos
 go_enter Tryz.func53,Tryz.ntmps53
 go_wp2_with fail
 refine Calls.mono (numbers_any (RD.out.keep (below_alloc (Below.refl _ _))) HN0.out HL0.out HO0.out) ?_
 rintro e w1 ⟨rfl,hrd,hf⟩
 have HZ:Hid (Blk w1 w.heap.size 79 [.int .u8 0,.int .i64 0,.slice none 0 0,.int .i64 0,.string ⟨#[]⟩,.string ⟨#[]⟩,.int .i64 0,.int .i64 0,.slice none 0 0,.int .i64 0,.int .i64 0,.int .i64 0]):=LH ((Blk.new rfl).frG hf (by omega))
 have FR:=LH (FrG.down (below_alloc (Below.refl _ _)) hf (Nat.le_of_lt gl))
 have RD:=LH hrd
 have s1:w.heap.size < w1.heap.size:=HZ.out.lt
 clear hrd hf
 go_wp2_with fail
 have HC:Hid (Blk (w1.alloc (.cells #[.int .u8 5,.int .i64 0,.slice none 0 0,.int .i64 0,.string ⟨#[]⟩,.string ⟨#[]⟩,.int .i64 0,.int .i64 0,.slice none 0 0,.int .i64 0,.int .i64 0,.int .i64 0] 79)) w1.heap.size 79 [.int .u8 5,.int .i64 0,.slice none 0 0,.int .i64 0,.string ⟨#[]⟩,.string ⟨#[]⟩,.int .i64 0,.int .i64 0,.slice none 0 0,.int .i64 0,.int .i64 0,.int .i64 0]):=LH (Blk.new rfl)
 replace HZ:Hid (Blk (w1.alloc (.cells #[.int .u8 5,.int .i64 0,.slice none 0 0,.int .i64 0,.string ⟨#[]⟩,.string ⟨#[]⟩,.int .i64 0,.int .i64 0,.slice none 0 0,.int .i64 0,.int .i64 0,.int .i64 0] 79)) w.heap.size 79 [.int .u8 0,.int .i64 0,.slice none 0 0,.int .i64 0,.string ⟨#[]⟩,.string ⟨#[]⟩,.int .i64 0,.int .i64 0,.slice none 0 0,.int .i64 0,.int .i64 0,.int .i64 0]):=LH (Blk.alloc HZ.out _)
 replace RD:Hid (RdS w0 (w1.alloc (.cells #[.int .u8 5,.int .i64 0,.slice none 0 0,.int .i64 0,.string ⟨#[]⟩,.string ⟨#[]⟩,.int .i64 0,.int .i64 0,.slice none 0 0,.int .i64 0,.int .i64 0,.int .i64 0] 79)) g l0 o0):=LH (RD.out.keep (below_alloc (Below.refl _ _)))
 replace FR:Hid (FrG g w (w1.alloc (.cells #[.int .u8 5,.int .i64 0,.slice none 0 0,.int .i64 0,.string ⟨#[]⟩,.string ⟨#[]⟩,.int .i64 0,.int .i64 0,.slice none 0 0,.int .i64 0,.int .i64 0,.int .i64 0] 79))):=LH (FR.out.up (below_alloc (Below.refl _ _)) (Nat.le_of_lt gl))
 try rw [show min (5:Int) 255=5 from rfl]
 generalize hW:w1.alloc (.cells #[.int .u8 5,.int .i64 0,.slice none 0 0,.int .i64 0,.string ⟨#[]⟩,.string ⟨#[]⟩,.int .i64 0,.int .i64 0,.slice none 0 0,.int .i64 0,.int .i64 0,.int .i64 0] 79)=W0 at HC HZ RD FR ⊢
 have sc:=HC.out.lt
 clear hW
 obtain ⟨⟨⟨c0,c1,c2,c3⟩,⟨c4,c5,c6,c7⟩,c8,c9,c10,c11⟩,cz⟩:=cells12 HC.out
 obtain ⟨n1,hn1⟩:∃ n,n=nN l0:=⟨_,rfl⟩
 obtain ⟨l1,hl1⟩:∃ x,x=nL l0:=⟨_,rfl⟩
 obtain ⟨o1,ho1⟩:∃ x,x=nO l0 o0:=⟨_,rfl⟩
 have HN1:=LH hn1
 have HL1:=LH hl1
 have HO1:=LH ho1
 clear hn1 hl1 ho1
 go_wp2_with fail
 refine Calls.mono (numbers_any RD.out HN1.out HL1.out HO1.out) ?_
 rintro e v1_ ⟨rfl,hrd,hf⟩
 replace HC:=LH (HC.out.frG hf (by omega))
 replace HZ:=LH (HZ.out.frG hf (by omega))
 replace FR:=LH (FR.out.trans hf)
 replace RD:=LH hrd
 have z1:W0.heap.size≤v1_.heap.size:=hf.1.size
 clear hrd hf c0 c1 c2 c3 c4 c5 c6 c7 c8 c9 c10 c11 cz
 obtain ⟨⟨⟨c0,c1,c2,c3⟩,⟨c4,c5,c6,c7⟩,c8,c9,c10,c11⟩,cz⟩:=cells12 HC.out
 have sc1:=HC.out.lt
 have HC1:Hid (Blk (v1_.setCell ⟨w1.heap.size,6,none⟩ (.int .i64 n1)) w1.heap.size 79 [.int .u8 5,.int .i64 0,.slice none 0 0,.int .i64 0,.string ⟨#[]⟩,.string ⟨#[]⟩,.int .i64 n1,.int .i64 0,.slice none 0 0,.int .i64 0,.int .i64 0,.int .i64 0]):=LH (HC.out.set_ 6 (.int .i64 n1))
 have HZ1:Hid (Blk (v1_.setCell ⟨w1.heap.size,6,none⟩ (.int .i64 n1)) w.heap.size 79 [.int .u8 0,.int .i64 0,.slice none 0 0,.int .i64 0,.string ⟨#[]⟩,.string ⟨#[]⟩,.int .i64 0,.int .i64 0,.slice none 0 0,.int .i64 0,.int .i64 0,.int .i64 0]):=LH (HZ.out.far (b:=w1.heap.size) (o:=6) (by omega) (.int .i64 n1))
 have RD1:Hid (RdS w0 (v1_.setCell ⟨w1.heap.size,6,none⟩ (.int .i64 n1)) g l1 o1):=LH (RD.out.far (by omega))
 have FR1:Hid (FrG g w (v1_.setCell ⟨w1.heap.size,6,none⟩ (.int .i64 n1))):=LH (FR.out.set_ (Nat.le_of_lt gl) (by omega))
 have zs1:(v1_.setCell ⟨w1.heap.size,6,none⟩ (.int .i64 n1)).heap.size=v1_.heap.size:=by simp
 clear HC HZ RD FR
 have HC:=HC1
 have HZ:=HZ1
 have RD:=RD1
 have FR:=FR1
 clear HC1 HZ1 RD1 FR1
 go_upto_region 19 with fail
 generalize hW:(v1_.setCell ⟨w1.heap.size,6,none⟩ (.int .i64 n1))=W1 at HC HZ RD FR zs1 ⊢
 clear hW c0 c1 c2 c3 c4 c5 c6 c7 c8 c9 c10 c11 cz
 obtain ⟨⟨⟨c0,c1,c2,c3⟩,⟨c4,c5,c6,c7⟩,c8,c9,c10,c11⟩,cz⟩:=cells12 HC.out
 have sd1:=HC.out.lt
 obtain ⟨n2,hn2⟩:∃ n,n=nN l1:=⟨_,rfl⟩
 obtain ⟨l2,hl2⟩:∃ x,x=nL l1:=⟨_,rfl⟩
 obtain ⟨o2,ho2⟩:∃ x,x=nO l1 o1:=⟨_,rfl⟩
 have HN2:=LH hn2
 have HL2:=LH hl2
 have HO2:=LH ho2
 clear hn2 hl2 ho2
 go_wp2_with fail
 refine Calls.mono (numbers_any RD.out HN2.out HL2.out HO2.out) ?_
 rintro e v2_ ⟨rfl,hrd,hf⟩
 replace HC:=LH (HC.out.frG hf (by omega))
 replace HZ:=LH (HZ.out.frG hf (by omega))
 replace FR:=LH (FR.out.trans hf)
 replace RD:=LH hrd
 have z2:W1.heap.size≤v2_.heap.size:=hf.1.size
 clear hrd hf c0 c1 c2 c3 c4 c5 c6 c7 c8 c9 c10 c11 cz
 obtain ⟨⟨⟨c0,c1,c2,c3⟩,⟨c4,c5,c6,c7⟩,c8,c9,c10,c11⟩,cz⟩:=cells12 HC.out
 have sc2:=HC.out.lt
 have HC2:Hid (Blk (v2_.setCell ⟨w1.heap.size,9,none⟩ (.int .i64 n2)) w1.heap.size 79 [.int .u8 5,.int .i64 0,.slice none 0 0,.int .i64 0,.string ⟨#[]⟩,.string ⟨#[]⟩,.int .i64 n1,.int .i64 0,.slice none 0 0,.int .i64 n2,.int .i64 0,.int .i64 0]):=LH (HC.out.set_ 9 (.int .i64 n2))
 have HZ2:Hid (Blk (v2_.setCell ⟨w1.heap.size,9,none⟩ (.int .i64 n2)) w.heap.size 79 [.int .u8 0,.int .i64 0,.slice none 0 0,.int .i64 0,.string ⟨#[]⟩,.string ⟨#[]⟩,.int .i64 0,.int .i64 0,.slice none 0 0,.int .i64 0,.int .i64 0,.int .i64 0]):=LH (HZ.out.far (b:=w1.heap.size) (o:=9) (by omega) (.int .i64 n2))
 have RD2:Hid (RdS w0 (v2_.setCell ⟨w1.heap.size,9,none⟩ (.int .i64 n2)) g l2 o2):=LH (RD.out.far (by omega))
 have FR2:Hid (FrG g w (v2_.setCell ⟨w1.heap.size,9,none⟩ (.int .i64 n2))):=LH (FR.out.set_ (Nat.le_of_lt gl) (by omega))
 have zs2:(v2_.setCell ⟨w1.heap.size,9,none⟩ (.int .i64 n2)).heap.size=v2_.heap.size:=by simp
 clear HC HZ RD FR
 have HC:=HC2
 have HZ:=HZ2
 have RD:=RD2
 have FR:=FR2
 clear HC2 HZ2 RD2 FR2
 go_upto_region 20 with fail
 generalize hW:(v2_.setCell ⟨w1.heap.size,9,none⟩ (.int .i64 n2))=W2 at HC HZ RD FR zs2 ⊢
 clear hW c0 c1 c2 c3 c4 c5 c6 c7 c8 c9 c10 c11 cz
 obtain ⟨⟨⟨c0,c1,c2,c3⟩,⟨c4,c5,c6,c7⟩,c8,c9,c10,c11⟩,cz⟩:=cells12 HC.out
 have sd2:=HC.out.lt
 obtain ⟨n3,hn3⟩:∃ n,n=nN l2:=⟨_,rfl⟩
 obtain ⟨l3,hl3⟩:∃ x,x=nL l2:=⟨_,rfl⟩
 obtain ⟨o3,ho3⟩:∃ x,x=nO l2 o2:=⟨_,rfl⟩
 have HN3:=LH hn3
 have HL3:=LH hl3
 have HO3:=LH ho3
 clear hn3 hl3 ho3
 go_wp2_with fail
 refine Calls.mono (numbers_any RD.out HN3.out HL3.out HO3.out) ?_
 rintro e v3_ ⟨rfl,hrd,hf⟩
 replace HC:=LH (HC.out.frG hf (by omega))
 replace HZ:=LH (HZ.out.frG hf (by omega))
 replace FR:=LH (FR.out.trans hf)
 replace RD:=LH hrd
 have z3:W2.heap.size≤v3_.heap.size:=hf.1.size
 clear hrd hf c0 c1 c2 c3 c4 c5 c6 c7 c8 c9 c10 c11 cz
 obtain ⟨⟨⟨c0,c1,c2,c3⟩,⟨c4,c5,c6,c7⟩,c8,c9,c10,c11⟩,cz⟩:=cells12 HC.out
 have sc3:=HC.out.lt
 have HC3:Hid (Blk (v3_.setCell ⟨w1.heap.size,11,none⟩ (.int .i64 n3)) w1.heap.size 79 [.int .u8 5,.int .i64 0,.slice none 0 0,.int .i64 0,.string ⟨#[]⟩,.string ⟨#[]⟩,.int .i64 n1,.int .i64 0,.slice none 0 0,.int .i64 n2,.int .i64 0,.int .i64 n3]):=LH (HC.out.set_ 11 (.int .i64 n3))
 have HZ3:Hid (Blk (v3_.setCell ⟨w1.heap.size,11,none⟩ (.int .i64 n3)) w.heap.size 79 [.int .u8 0,.int .i64 0,.slice none 0 0,.int .i64 0,.string ⟨#[]⟩,.string ⟨#[]⟩,.int .i64 0,.int .i64 0,.slice none 0 0,.int .i64 0,.int .i64 0,.int .i64 0]):=LH (HZ.out.far (b:=w1.heap.size) (o:=11) (by omega) (.int .i64 n3))
 have RD3:Hid (RdS w0 (v3_.setCell ⟨w1.heap.size,11,none⟩ (.int .i64 n3)) g l3 o3):=LH (RD.out.far (by omega))
 have FR3:Hid (FrG g w (v3_.setCell ⟨w1.heap.size,11,none⟩ (.int .i64 n3))):=LH (FR.out.set_ (Nat.le_of_lt gl) (by omega))
 have zs3:(v3_.setCell ⟨w1.heap.size,11,none⟩ (.int .i64 n3)).heap.size=v3_.heap.size:=by simp
 clear HC HZ RD FR
 have HC:=HC3
 have HZ:=HZ3
 have RD:=RD3
 have FR:=FR3
 clear HC3 HZ3 RD3 FR3
 go_upto_region 23 with fail
 generalize hW:(v3_.setCell ⟨w1.heap.size,11,none⟩ (.int .i64 n3))=W3 at HC HZ RD FR zs3 ⊢
 clear hW c0 c1 c2 c3 c4 c5 c6 c7 c8 c9 c10 c11 cz
 obtain ⟨⟨⟨c0,c1,c2,c3⟩,⟨c4,c5,c6,c7⟩,c8,c9,c10,c11⟩,cz⟩:=cells12 HC.out
 have sd3:=HC.out.lt
 have hfin:=HR.out
 rw [show rd56 5 l0 o0=(⟨5,default,n1,0,[],n2,0,n3⟩,l3,o3) by rw [HO3.out,HL3.out,HN3.out,HO2.out,HL2.out,HN2.out,HO1.out,HL1.out,HN1.out];rfl] at hfin
 cases hfin
 obtain ⟨⟨⟨e0,e1,e2,e3⟩,⟨e4,e5,e6,e7⟩,e8,e9,e10,e11⟩,ez⟩:=cells12 HZ.out
 have el:=HZ.out.lt
 go_wp2_with fail
 obtain ⟨⟨⟨t0,t1_,t2,t3⟩,⟨t4,t5,t6,t7⟩,t8,t9,t10,t11⟩,-⟩:=cells12 (blk_put12 HZ.out (.int .u8 5) (.int .i64 0) (.slice none 0 0) (.int .i64 0) (.string ⟨#[]⟩) (.string ⟨#[]⟩) (.int .i64 n1) (.int .i64 0) (.slice none 0 0) (.int .i64 n2) (.int .i64 0) (.int .i64 n3))
 exact bodyPost_ret (v:=.agg #[.int .u8 5,.int .i64 0,.slice none 0 0,.int .i64 0,.string ⟨#[]⟩,.string ⟨#[]⟩,.int .i64 n1,.int .i64 0,.slice none 0 0,.int .i64 n2,.int .i64 0,.int .i64 n3]) (by simp [results,Tryz.results53,go_sem,t0,t1_,t2,t3,t4,t5,t6,t7,t8,t9,t10,t11]) rfl ⟨_,rfl,⟨none,0,none,0,rfl,ownI_nil _ _,ownI_nil _ _⟩,((((((((((((RD.out.far (b:=w.heap.size) (o:=0) (v:=.int .u8 5) gl).far (b:=w.heap.size) (o:=1) (v:=.int .i64 0) gl).far (b:=w.heap.size) (o:=2) (v:=.slice none 0 0) gl).far (b:=w.heap.size) (o:=3) (v:=.int .i64 0) gl).far (b:=w.heap.size) (o:=4) (v:=.string ⟨#[]⟩) gl).far (b:=w.heap.size) (o:=5) (v:=.string ⟨#[]⟩) gl).far (b:=w.heap.size) (o:=6) (v:=.int .i64 n1) gl).far (b:=w.heap.size) (o:=7) (v:=.int .i64 0) gl).far (b:=w.heap.size) (o:=8) (v:=.slice none 0 0) gl).far (b:=w.heap.size) (o:=9) (v:=.int .i64 n2) gl).far (b:=w.heap.size) (o:=10) (v:=.int .i64 0) gl).far (b:=w.heap.size) (o:=11) (v:=.int .i64 n3) gl),((((((((((((FR.out.set_ (b:=w.heap.size) (o:=0) (v:=.int .u8 5) (Nat.le_of_lt gl) (Nat.le_refl _)).set_ (b:=w.heap.size) (o:=1) (v:=.int .i64 0) (Nat.le_of_lt gl) (Nat.le_refl _)).set_ (b:=w.heap.size) (o:=2) (v:=.slice none 0 0) (Nat.le_of_lt gl) (Nat.le_refl _)).set_ (b:=w.heap.size) (o:=3) (v:=.int .i64 0) (Nat.le_of_lt gl) (Nat.le_refl _)).set_ (b:=w.heap.size) (o:=4) (v:=.string ⟨#[]⟩) (Nat.le_of_lt gl) (Nat.le_refl _)).set_ (b:=w.heap.size) (o:=5) (v:=.string ⟨#[]⟩) (Nat.le_of_lt gl) (Nat.le_refl _)).set_ (b:=w.heap.size) (o:=6) (v:=.int .i64 n1) (Nat.le_of_lt gl) (Nat.le_refl _)).set_ (b:=w.heap.size) (o:=7) (v:=.int .i64 0) (Nat.le_of_lt gl) (Nat.le_refl _)).set_ (b:=w.heap.size) (o:=8) (v:=.slice none 0 0) (Nat.le_of_lt gl) (Nat.le_refl _)).set_ (b:=w.heap.size) (o:=9) (v:=.int .i64 n2) (Nat.le_of_lt gl) (Nat.le_refl _)).set_ (b:=w.heap.size) (o:=10) (v:=.int .i64 0) (Nat.le_of_lt gl) (Nat.le_refl _)).set_ (b:=w.heap.size) (o:=11) (v:=.int .i64 n3) (Nat.le_of_lt gl) (Nat.le_refl _))⟩
end Go.Proofs.YtdfmcgekfogpbabGreatDoor
