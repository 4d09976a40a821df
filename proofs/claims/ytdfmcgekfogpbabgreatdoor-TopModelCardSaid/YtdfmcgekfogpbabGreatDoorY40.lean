/-
  Proved here: skeen.New, group.New: a group at its beginning. No condition.
-/
import Derived.Test.YtdfmcgekfogpbabGreatDoorY35
import Derived.Test.YtdfmcgekfogpbabGreatDoorY36
set_option maxRecDepth 100000
namespace Go.Proofs.YtdfmcgekfogpbabGreatDoor
open Go.RowKit
theorem skNew_any (w:World):Calls Tryz.prog 26 #[] w fun e w'=>e=.returned (.agg #[.int .i64 0,.slice none 0 0,.slice none 0 0])∧Below w.heap.size w w':=by
 go_enter Tryz.func26,Tryz.ntmps26
 go_wp2_with fail
 refine bodyPost_ret (v:=.agg #[.int .i64 0,.slice none 0 0,.slice none 0 0]) (by simp [results,Tryz.results26,go_sem]) rfl ⟨rfl,?_⟩
 repeat (first|with_reducible (first|exact Below.refl _ _|apply Below.drew|apply below_alloc)|((first|with_reducible refine Below.alloc ?_ ?_ _|with_reducible refine Below.setCell ?_ ?_ _);rotate_left;focus (first|(simp <;> omega)|omega)))
def z6:List Int:=[0,0,0,0,0,0]
theorem info_int6:(Tryz.prog.info? 3).map (fun i=>(i.zero,i.size,i.bytes))=some (some (.int .i64 0),1,8):=by kernel_rfl
theorem make_int6:∀ w:World,Sem.run Tryz.prog (Instr.makeSlice 34 (.int .i64 6) (.int .i64 6)) w=.ok (.slice (some ⟨w.heap.size,0,none⟩) 6 6) (w.alloc (.cells #[.int .i64 0,.int .i64 0,.int .i64 0,.int .i64 0,.int .i64 0,.int .i64 0] 3)):=by
 obtain ⟨i0,hi,hz0,hz1,hz2⟩:=info_parts info_int6
 intro w
 have h:=run_make (P:=Tryz.prog) w 34 3 i0 _ Tryz.underlying34 hi hz0 .i64 .i64 6 6 (by omega) (by omega) (by rw [hz2];decide) (by omega)
 rw [hz1] at h
 have e:madeCells (Value.int .i64 0).cells (6 * 1)=#[.int .i64 0,.int .i64 0,.int .i64 0,.int .i64 0,.int .i64 0,.int .i64 0]:=by
  unfold madeCells
  apply Array.ext'
  rw [Array.toList_map,Array.toList_range]
  rfl
 rw [show Int.toNat 6=6 from rfl,e] at h
 exact h
theorem set6_far {w:World} {g:Nat} {p q r s t u:Value}:∀ k,k≠g→((((((w.setCell ⟨g,0,none⟩ p).setCell ⟨g,1,none⟩ q).setCell ⟨g,2,none⟩ r).setCell ⟨g,3,none⟩ s).setCell ⟨g,4,none⟩ t).setCell ⟨g,5,none⟩ u).heap[k]?=w.heap[k]?:=fun k hk =>
 (heap_set _ _ _ _ k hk).trans ((heap_set _ _ _ _ k hk).trans ((heap_set _ _ _ _ k hk).trans ((heap_set _ _ _ _ k hk).trans ((heap_set _ _ _ _ k hk).trans (heap_set _ _ _ _ k hk)))))
def NewHEnd (w:World) (e:Ending) (w':World):Prop:=∃ ta tc lb,e=.returned (.agg #[.int .i64 0,.slice none 0 0,.slice none 0 0,ta,tc,.slice (some ⟨lb,0,none⟩) 6 6])∧Blk w' lb 3 (rowVals z6)∧w.heap.size≤lb∧Stab w' lb lb (fun W=>StrR W (.agg #[ta,tc]) (streamM newM))∧Below w.heap.size w w'
set_option maxHeartbeats 8000000 in
set_option maxRecDepth 100000 in
theorem newH_any (w:World):Calls Tryz.prog 20 #[] w (NewHEnd w):=by
 have hmk:=make_int6
 go_enter Tryz.func20,Tryz.ntmps20
 go_wp2_with fail
 go_region_law (first|(go_simp;go_at_call 26;refine (skNew_any _).mono ?_;rintro e w4 ⟨rfl,hb⟩;have HR4:Hid (Blk w4 w.heap.size 36 [.int .i64 0,.slice none 0 0,.slice none 0 0,.slice none 0 0,.slice none 0 0,.slice none 0 0]):=LH (Blk.step (by repeat (first|with_reducible exact HR5.out|((with_reducible apply Blk.new);focus (first|rfl|(simp <;> omega)))|with_reducible (first|apply Blk.drew|apply Blk.alloc|apply Blk.set_)|((with_reducible apply Blk.far);rotate_left;focus (first|(simp <;> omega)|omega)))) hb);have HB4:Hid (Below w.heap.size w w4):=below_step (by repeat (first|with_reducible (first|exact HB5.out|exact Below.refl _ _|apply Below.drew|apply below_alloc)|((first|with_reducible refine Below.alloc ?_ ?_ _|with_reducible refine Below.setCell ?_ ?_ _);rotate_left;focus (first|(simp <;> omega)|omega)))) hb;(try have HU4:Hid (Below w5.heap.size w5 w4):=below_step (by repeat (first|with_reducible (first|exact Below.refl _ _|apply Below.drew|apply below_alloc)|((first|with_reducible refine Below.alloc ?_ ?_ _|with_reducible refine Below.setCell ?_ ?_ _);rotate_left;focus (first|(simp <;> omega)|omega)))) hb);(try (refine (fun (HI:Hid (Blk w4 w5.heap.size 3 [.int .i64 0,.int .i64 0,.int .i64 0,.int .i64 0,.int .i64 0,.int .i64 0]))=>?nain) (LH (Blk.step ?nide hb));case nide=>(repeat (first|with_reducible exact HI.out|((with_reducible apply Blk.new);focus (first|rfl|(simp <;> omega)))|with_reducible (first|apply Blk.drew|apply Blk.alloc|apply Blk.set_)|((with_reducible apply Blk.far);rotate_left;focus (first|(simp <;> omega)|omega))))));(try have hli4:=HI.out.lt);obtain ⟨⟨p0,p1,p2⟩,⟨p3,p4,p5⟩,pz⟩:=cells6 HR4.out;have pl:=HR4.out.lt;have HBA:=LH hb;clear hb)|(go_simp;go_at_call 45;refine (strNew_any _).mono ?_;rintro e w5 ⟨ta,tc,rfl,os,hb⟩;obtain ⟨a3,c3,b3,n3,d3,ev,-,-⟩:=os.reads.shape;cases ev;have OS:=LH os;have HR5:Hid (Blk w5 w.heap.size 36 [.int .i64 0,.slice none 0 0,.slice none 0 0,.slice none 0 0,.slice none 0 0,.slice none 0 0]):=LH (Blk.step (by repeat (first|with_reducible exact HR4.out|((with_reducible apply Blk.new);focus (first|rfl|(simp <;> omega)))|with_reducible (first|apply Blk.drew|apply Blk.alloc|apply Blk.set_)|((with_reducible apply Blk.far);rotate_left;focus (first|(simp <;> omega)|omega)))) hb);have HB5:Hid (Below w.heap.size w w5):=below_step (by repeat (first|with_reducible (first|exact HB4.out|exact Below.refl _ _|apply Below.drew|apply below_alloc)|((first|with_reducible refine Below.alloc ?_ ?_ _|with_reducible refine Below.setCell ?_ ?_ _);rotate_left;focus (first|(simp <;> omega)|omega)))) hb;(try have HU5:Hid (Below w4.heap.size w4 w5):=below_step (by repeat (first|with_reducible (first|exact Below.refl _ _|apply Below.drew|apply below_alloc)|((first|with_reducible refine Below.alloc ?_ ?_ _|with_reducible refine Below.setCell ?_ ?_ _);rotate_left;focus (first|(simp <;> omega)|omega)))) hb);(try (refine (fun (HI:Hid (Blk w5 (w.heap.size+1) 3 [.int .i64 0,.int .i64 0,.int .i64 0,.int .i64 0,.int .i64 0,.int .i64 0]))=>?nain) (LH (Blk.step ?nide hb));case nide=>(repeat (first|with_reducible exact HI.out|((with_reducible apply Blk.new);focus (first|rfl|(simp <;> omega)))|with_reducible (first|apply Blk.drew|apply Blk.alloc|apply Blk.set_)|((with_reducible apply Blk.far);rotate_left;focus (first|(simp <;> omega)|omega))))));(try (refine (fun (HI:Hid (Blk w5 w4.heap.size 3 [.int .i64 0,.int .i64 0,.int .i64 0,.int .i64 0,.int .i64 0,.int .i64 0]))=>?nain) (LH (Blk.step ?nide hb));case nide=>(repeat (first|with_reducible exact HI.out|((with_reducible apply Blk.new);focus (first|rfl|(simp <;> omega)))|with_reducible (first|apply Blk.drew|apply Blk.alloc|apply Blk.set_)|((with_reducible apply Blk.far);rotate_left;focus (first|(simp <;> omega)|omega))))));(try have hli5:=HI.out.lt);obtain ⟨⟨p0,p1,p2⟩,⟨p3,p4,p5⟩,pz⟩:=cells6 HR5.out;have pl:=HR5.out.lt;clear hb;clear os))
 ·go_wp2_with fail
  obtain ⟨⟨t0,t1,t2⟩,⟨t3,t4,t5⟩,-⟩:=cells6 (((((((HR5.out.set_ 0 (.int .i64 0)).set_ 1 (.slice none 0 0)).set_ 2 (.slice none 0 0)).set_ 3 (.slice a3 newS.tops.length c3)).set_ 4 (.slice b3 n3 d3)).set_ 5 (.slice (some ⟨w5.heap.size,0,none⟩) 6 6)).alloc (.cells #[.int .i64 0,.int .i64 0,.int .i64 0,.int .i64 0,.int .i64 0,.int .i64 0] 3))
  have hs5:=HB5.out.size
  have hu5:=HU5.out.size
  have hl4:=HR4.out.lt
  refine bodyPost_ret (v:=.agg #[.int .i64 0,.slice none 0 0,.slice none 0 0,.slice a3 newS.tops.length c3,.slice b3 n3 d3,.slice (some ⟨w5.heap.size,0,none⟩) 6 6]) (by simp [results,Tryz.results20,go_sem,t0,t1,t2,t3,t4,t5]) rfl ⟨_,_,_,rfl,?_,?_,?_,?_⟩
  ·exact (Blk.new (cs:=[.int .i64 0,.int .i64 0,.int .i64 0,.int .i64 0,.int .i64 0,.int .i64 0]) (by simp))
  ·exact hs5
  ·intro W hk
   have he:∀ k,k < w5.heap.size→k≠w.heap.size→(((((((w5.setCell ⟨w.heap.size,0,none⟩ (.int .i64 0)).setCell ⟨w.heap.size,1,none⟩ (.slice none 0 0)).setCell ⟨w.heap.size,2,none⟩ (.slice none 0 0)).setCell ⟨w.heap.size,3,none⟩ (.slice a3 newS.tops.length c3)).setCell ⟨w.heap.size,4,none⟩ (.slice b3 n3 d3)).setCell ⟨w.heap.size,5,none⟩ (.slice (some ⟨w5.heap.size,0,none⟩) 6 6)).alloc (.cells #[.int .i64 0,.int .i64 0,.int .i64 0,.int .i64 0,.int .i64 0,.int .i64 0] 3)).heap[k]?=w5.heap[k]?:=fun k h2 h3 =>
    (((Below.refl _ _).alloc (Nat.le_refl _) _).block k (by simp;omega)).trans (set6_far k h3)
   have hk':Kw w.heap.size w5.heap.size w5 W:=⟨Nat.le_trans (by simp) hk.1,fun k h2 h3 h4 h5=>(hk.2 k (by simp;omega) h4 h4 (fun c f e=>h5 c f ((he k h2 h3).symm.trans e))).trans (he k h2 h3)⟩
   exact (OwnS.kp OS.out hk' (Or.inl (by omega)) (Or.inr (Nat.le_refl _))).reads
  ·exact ((((((HB5.out.setCell (by simp) _).setCell (by simp) _).setCell (by simp) _).setCell (by simp) _).setCell (by simp) _).setCell (by simp) _).alloc (by simp;omega) _
 ·go_wp2_with fail
  obtain ⟨⟨t0,t1,t2⟩,⟨t3,t4,t5⟩,-⟩:=cells6 ((((((HR5.out.set_ 0 (.int .i64 0)).set_ 1 (.slice none 0 0)).set_ 2 (.slice none 0 0)).set_ 3 (.slice a3 newS.tops.length c3)).set_ 4 (.slice b3 n3 d3)).set_ 5 (.slice (some ⟨w4.heap.size,0,none⟩) 6 6))
  have hs4:=HB4.out.size
  have hl4:=HR4.out.lt
  refine bodyPost_ret (v:=.agg #[.int .i64 0,.slice none 0 0,.slice none 0 0,.slice a3 newS.tops.length c3,.slice b3 n3 d3,.slice (some ⟨w4.heap.size,0,none⟩) 6 6]) (by simp [results,Tryz.results20,go_sem,t0,t1,t2,t3,t4,t5]) rfl ⟨_,_,_,rfl,?_,?_,?_,?_⟩
  ·have hne:w4.heap.size≠w.heap.size:=by omega
   exact (((((HI.out.far hne _).far hne _).far hne _).far hne _).far hne _).far hne _
  ·exact hs4
  ·have os:=OwnS.agree OS.out (fun k h1 _=>set6_far (w:=w5) (g:=w.heap.size) (p:=.int .i64 0) (q:=.slice none 0 0) (r:=.slice none 0 0) (s:=.slice a3 newS.tops.length c3) (t:=.slice b3 n3 d3) (u:=.slice (some ⟨w4.heap.size,0,none⟩) 6 6) k (by simp at h1;omega))
   exact Stab.st os (by simp) (by simp)
  ·exact ((((((HB5.out.setCell (by simp) _).setCell (by simp) _).setCell (by simp) _).setCell (by simp) _).setCell (by simp) _).setCell (by simp) _)
 ·go_wp2_with fail
  obtain ⟨⟨t0,t1,t2⟩,⟨t3,t4,t5⟩,-⟩:=cells6 ((((((HR5.out.set_ 0 (.int .i64 0)).set_ 1 (.slice none 0 0)).set_ 2 (.slice none 0 0)).set_ 3 (.slice a3 newS.tops.length c3)).set_ 4 (.slice b3 n3 d3)).set_ 5 (.slice (some ⟨w.heap.size+1,0,none⟩) 6 6))
  have hl4:=HR4.out.lt
  have HI4:Blk w4 (w.heap.size+1) 3 [.int .i64 0,.int .i64 0,.int .i64 0,.int .i64 0,.int .i64 0,.int .i64 0]:=Blk.step (by repeat (first|with_reducible exact HBA|((with_reducible apply Blk.new);focus (first|rfl|(simp <;> omega)))|with_reducible (first|apply Blk.drew|apply Blk.alloc|apply Blk.set_)|((with_reducible apply Blk.far);rotate_left;focus (first|(simp <;> omega)|omega)))) HBA.out
  have hli4:=HI4.lt
  have HI:=LH (HI4.step HU5.out)
  refine bodyPost_ret (v:=.agg #[.int .i64 0,.slice none 0 0,.slice none 0 0,.slice a3 newS.tops.length c3,.slice b3 n3 d3,.slice (some ⟨w.heap.size+1,0,none⟩) 6 6]) (by simp [results,Tryz.results20,go_sem,t0,t1,t2,t3,t4,t5]) rfl ⟨_,_,_,rfl,?_,?_,?_,?_⟩
  ·have hne:w.heap.size+1≠w.heap.size:=by omega
   exact (((((HI.out.far hne _).far hne _).far hne _).far hne _).far hne _).far hne _
  ·omega
  ·have os:=OwnS.agree OS.out (fun k h1 _=>set6_far (w:=w5) (g:=w.heap.size) (p:=.int .i64 0) (q:=.slice none 0 0) (r:=.slice none 0 0) (s:=.slice a3 newS.tops.length c3) (t:=.slice b3 n3 d3) (u:=.slice (some ⟨w.heap.size+1,0,none⟩) 6 6) k (by omega))
   exact Stab.st os hli4 hli4
  ·exact ((((((HB5.out.setCell (by simp) _).setCell (by simp) _).setCell (by simp) _).setCell (by simp) _).setCell (by simp) _).setCell (by simp) _)
end Go.Proofs.YtdfmcgekfogpbabGreatDoor
