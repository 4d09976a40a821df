/-
  Proved here: keep.Trim where something may be let go. No condition but that the top
-/
import Derived.Test.YtkkohllhebdlcaaGreatDoorY14
import Derived.Lib.MinMax
set_option maxRecDepth 100000
namespace Go.Proofs.YtkkohllhebdlcaaGreatDoor
open Go.RowKit
def TrimEnd (t:Top) (tq:Int) (w:World) (e:Ending) (w':World):Prop :=
 ∃ a cap,e=.returned (.tuple #[.agg #[.int .i64 (trimTo t tq),.int .i64 t.next,.int .i64 t.mark,.slice a (fromE (trimTo t tq) t.ents).length cap],.int .i64 0]) ∧
  OwnE w' w.heap.size (.slice a (fromE (trimTo t tq) t.ents).length cap) (fromE (trimTo t tq) t.ents)∧Below w.heap.size w w'
set_option maxHeartbeats 2000000 in
set_option maxRecDepth 100000 in
theorem trim_yes {v:Value} {t:Top} {w:World} (tq:Int) (h:TopR w v t) (hk:∀ x∈t.ents,x.key.size≤maxLen) (hm:t.may) (h1:0≤tq) (h2:tq≤1073741824) :
  Calls Tryz.prog 96 #[v,.int .i64 tq] w (TrimEnd t tq w):=by
 have hb0:∀ o o':Obj,Below w.heap.size w ((w.alloc o).alloc o'):=fun o o'=>((Below.refl _ _).alloc (Nat.le_refl _) o).alloc (by simp) o'
 have K:=fun (o o':Obj)=>check_yes (h.below (hb0 o o')) hk hm
 have HK:=LH K
 have HB:=LH hb0
 have HT:=LH h
 have HL:=LH (show t.ents.length≤1000000 by have:=hm.1.2.2.2.2.2.2;omega)
 obtain ⟨a,cap,rfl,_⟩:=h
 have HRI:=LH (may_rises hm)
 clear K hb0 hk hm
 go_enter Tryz.func96,Tryz.ntmps96
 go_wp2_with fail
 refine (HK.out _ _).mono ?_
 rintro e w2 ⟨rfl,hb⟩
 have s2:w.heap.size+2≤w2.heap.size:=by have:=(hb).size;first|omega|(simp at this;omega)
 have HB2:Hid (Below w.heap.size w _):=below_step (by repeat (first|with_reducible (first|exact Below.refl _ _|apply Below.drew|apply below_alloc)|((first|with_reducible refine Below.alloc ?_ ?_ _|with_reducible refine Below.setCell ?_ ?_ _);rotate_left;focus (first|(simp <;> omega)|omega)))) hb
 have A2:Blk _ (w.heap.size) _ _:=Blk.step (by repeat (first|((with_reducible apply Blk.new);focus (first|rfl|(simp <;> omega)))|with_reducible (first|apply Blk.drew|apply Blk.alloc|apply Blk.set_)|((with_reducible apply Blk.far);rotate_left;focus (first|(simp <;> omega)|omega)))) hb
 obtain ⟨a20,a21,a22,a23,a2z⟩:=cells4 A2
 have a2l:=Blk.lt A2
 have HA2:=LH A2
 clear A2
 have R2:Blk _ (w.heap.size+1) _ _:=Blk.step (by repeat (first|((with_reducible apply Blk.new);focus (first|rfl|(simp <;> omega)))|with_reducible (first|apply Blk.drew|apply Blk.alloc|apply Blk.set_)|((with_reducible apply Blk.far);rotate_left;focus (first|(simp <;> omega)|omega)))) hb
 obtain ⟨r20,r21,r22,r23,r2z⟩:=cells4 R2
 have r2l:=Blk.lt R2
 have HR2:=LH R2
 clear R2
 clear hb
 go_wp2_with fail
 refine (topTwin_any (HT.out.below HB2.out) HL.out).mono ?_
 rintro e w3 ⟨a3,cap3,rfl,o3,hb⟩
 have s3:w2.heap.size≤w3.heap.size:=by have:=(hb).size;first|omega|(simp at this;omega)
 have HB3:Hid (Below w.heap.size w _):=below_step (by repeat (first|with_reducible (first|exact HB2.out|exact Below.refl _ _|apply Below.drew|apply below_alloc)|((first|with_reducible refine Below.alloc ?_ ?_ _|with_reducible refine Below.setCell ?_ ?_ _);rotate_left;focus (first|(simp <;> omega)|omega)))) hb
 have A3:Blk _ (w.heap.size) _ _:=Blk.step (by repeat (first|with_reducible exact HA2.out|((with_reducible apply Blk.new);focus (first|rfl|(simp <;> omega)))|with_reducible (first|apply Blk.drew|apply Blk.alloc|apply Blk.set_)|((with_reducible apply Blk.far);rotate_left;focus (first|(simp <;> omega)|omega)))) hb
 try simp only [List.set_cons_zero,List.set_cons_succ] at A3
 obtain ⟨a30,a31,a32,a33,a3z⟩:=cells4 A3
 have a3l:=Blk.lt A3
 have HA3:=LH A3
 clear A3
 have R3:Blk _ (w.heap.size+1) _ _:=Blk.step (by repeat (first|with_reducible exact HR2.out|((with_reducible apply Blk.new);focus (first|rfl|(simp <;> omega)))|with_reducible (first|apply Blk.drew|apply Blk.alloc|apply Blk.set_)|((with_reducible apply Blk.far);rotate_left;focus (first|(simp <;> omega)|omega)))) hb
 try simp only [List.set_cons_zero,List.set_cons_succ] at R3
 obtain ⟨r30,r31,r32,r33,r3z⟩:=cells4 R3
 have r3l:=Blk.lt R3
 have HR3:=LH R3
 clear R3
 have O3:=LH o3
 clear hb o3
 go_wp2_with fail
 refine at_world (C:=fun W=>Hid (OwnE W w2.heap.size (.slice a3 t.ents.length cap3) t.ents)) (by refine LH ?_;show OwnE _ w2.heap.size (.slice a3 t.ents.length cap3) t.ents;repeat (first|with_reducible (first|exact O3.out|apply own_drew|apply own_alloc)|((with_reducible apply own_set);rotate_left;focus (first|(simp <;> omega)|omega)))) (fun O4=>?_)
 refine (idx18_any O4.out.reads w.heap.size (trimTo t tq) (by go_simp;rfl)).mono ?_
 rintro e w5 ⟨⟨i,rfl,hi⟩,hb⟩
 have s5:w3.heap.size≤w5.heap.size:=by have:=(hb).size;first|omega|(simp at this;omega)
 have HB5:Hid (Below w.heap.size w _):=below_step (by repeat (first|with_reducible (first|exact HB3.out|exact Below.refl _ _|apply Below.drew|apply below_alloc)|((first|with_reducible refine Below.alloc ?_ ?_ _|with_reducible refine Below.setCell ?_ ?_ _);rotate_left;focus (first|(simp <;> omega)|omega)))) hb
 have A5:Blk _ (w.heap.size) _ _:=Blk.step (by repeat (first|with_reducible exact HA3.out|((with_reducible apply Blk.new);focus (first|rfl|(simp <;> omega)))|with_reducible (first|apply Blk.drew|apply Blk.alloc|apply Blk.set_)|((with_reducible apply Blk.far);rotate_left;focus (first|(simp <;> omega)|omega)))) hb
 try simp only [List.set_cons_zero,List.set_cons_succ] at A5
 obtain ⟨a50,a51,a52,a53,a5z⟩:=cells4 A5
 have a5l:=Blk.lt A5
 have HA5:=LH A5
 clear A5
 have R5:Blk _ (w.heap.size+1) _ _:=Blk.step (by repeat (first|with_reducible exact HR3.out|((with_reducible apply Blk.new);focus (first|rfl|(simp <;> omega)))|with_reducible (first|apply Blk.drew|apply Blk.alloc|apply Blk.set_)|((with_reducible apply Blk.far);rotate_left;focus (first|(simp <;> omega)|omega)))) hb
 try simp only [List.set_cons_zero,List.set_cons_succ] at R5
 obtain ⟨r50,r51,r52,r53,r5z⟩:=cells4 R5
 have r5l:=Blk.lt R5
 have HR5:=LH R5
 clear R5
 have S5:=LH (O4.out.reads.below entCells_len hb)
 have HI:=LH hi
 clear hb hi
 have cut:∃ k:Nat,k≤t.ents.length∧t.ents.drop k=fromE (trimTo t tq) t.ents∧((i < 0∧k=t.ents.length)∨(0≤i∧i=(k:Int))):=by
  have h0:=drop_from HRI.out HI.out
  by_cases i0:i < 0
  ·rw [if_pos i0] at h0
   exact ⟨_,Nat.le_refl _,h0,Or.inl ⟨i0,rfl⟩⟩
  ·rw [if_neg i0] at h0
   refine ⟨i.toNat,?_,h0,Or.inr ⟨by omega,by omega⟩⟩
   rcases HI.out with ⟨h,_⟩|⟨k,hk,h,_⟩ <;> omega
 obtain ⟨k,hk,hd,hi⟩:=cut
 obtain ⟨A',hsl,S6⟩:=slice_from S5.out k hk
 rw [hd] at S6
 have HLF:=LH (show (fromE (trimTo t tq) t.ents).length≤1000000 from Nat.le_trans (fromE_len _ _) HL.out)
 have HD:=LH hd
 have H6:=LH S6
 have HKL:=LH hk
 clear hd S6 hk
 rcases hi with ⟨i0,rfl⟩|⟨i0,rfl⟩
 all_goals
  go_wp2_with fail
  refine (clone_any (l:=fromE (trimTo t tq) t.ents) (by first|exact H6.out|(have h:=H6.out;rw [Nat.sub_self] at h;exact h)) HLF.out).mono ?_
  rintro e w6 ⟨a6,cap6,rfl,o6,hb⟩
  have s6:w5.heap.size≤w6.heap.size:=by have:=(hb).size;first|omega|(simp at this;omega)
  have HB6:Hid (Below w.heap.size w _):=below_step (by repeat (first|with_reducible (first|exact HB5.out|exact Below.refl _ _|apply Below.drew|apply below_alloc)|((first|with_reducible refine Below.alloc ?_ ?_ _|with_reducible refine Below.setCell ?_ ?_ _);rotate_left;focus (first|(simp <;> omega)|omega)))) hb
  have A6:Blk _ (w.heap.size) _ _:=Blk.step (by repeat (first|with_reducible exact HA5.out|((with_reducible apply Blk.new);focus (first|rfl|(simp <;> omega)))|with_reducible (first|apply Blk.drew|apply Blk.alloc|apply Blk.set_)|((with_reducible apply Blk.far);rotate_left;focus (first|(simp <;> omega)|omega)))) hb
  try simp only [List.set_cons_zero,List.set_cons_succ] at A6
  obtain ⟨a60,a61,a62,a63,a6z⟩:=cells4 A6
  have a6l:=Blk.lt A6
  have HA6:=LH A6
  clear A6
  have R6:Blk _ (w.heap.size+1) _ _:=Blk.step (by repeat (first|with_reducible exact HR5.out|((with_reducible apply Blk.new);focus (first|rfl|(simp <;> omega)))|with_reducible (first|apply Blk.drew|apply Blk.alloc|apply Blk.set_)|((with_reducible apply Blk.far);rotate_left;focus (first|(simp <;> omega)|omega)))) hb
  try simp only [List.set_cons_zero,List.set_cons_succ] at R6
  obtain ⟨r60,r61,r62,r63,r6z⟩:=cells4 R6
  have r6l:=Blk.lt R6
  have HR6:=LH R6
  clear R6
  have O6:=LH o6
  clear o6 hb
  go_wp2_with fail
  refine bodyPost_ret (v:=.tuple #[.agg #[.int .i64 (trimTo t tq),.int .i64 t.next,.int .i64 t.mark,.slice a6 (fromE (trimTo t tq) t.ents).length cap6],.int .i64 0]) (by simp [results,Tryz.results96,go_sem,r60,r61,r62,r63,trimTo]) rfl ⟨a6,cap6,rfl,?_,?_⟩
  ·refine own_base (B:=w5.heap.size) ?_ (by omega)
   repeat (first|with_reducible (first|exact O6.out|apply own_drew|apply own_alloc)|((with_reducible apply own_set);rotate_left;focus (first|(simp <;> omega)|omega)))
  ·repeat (first|with_reducible (first|exact HB6.out|exact Below.refl _ _|apply Below.drew|apply below_alloc)|((first|with_reducible refine Below.alloc ?_ ?_ _|with_reducible refine Below.setCell ?_ ?_ _);rotate_left;focus (first|(simp <;> omega)|omega)))
theorem trim_any {v:Value} {t u:Top} {w:World} {x:Int} (tq:Int) (h:TopR w v t) (hk:∀ x∈t.ents,x.key.size≤maxLen) (hu:trimP t tq=(u,x)) :
  Calls Tryz.prog 96 #[v,.int .i64 tq] w (TopEnd1 u x w):=by
 by_cases hm:t.may
 ·by_cases ht:tq < 0∨1073741824 < tq
  ·rw [trimP_arg hm ht] at hu
   cases hu
   exact (trim_arg tq h hk hm ht).mono fun _ _ ⟨h1,h2⟩=>topEnd1_zero 2 h1 h2
  ·rw [trimP_yes hm ht] at hu
   cases hu
   exact trim_yes tq h hk hm (by omega) (by omega)
 ·rw [trimP_bad hm] at hu
  cases hu
  exact (trim_bad tq h hk hm).mono fun _ _ ⟨h1,h2⟩=>topEnd1_zero 8 h1 h2
end Go.Proofs.YtkkohllhebdlcaaGreatDoor
