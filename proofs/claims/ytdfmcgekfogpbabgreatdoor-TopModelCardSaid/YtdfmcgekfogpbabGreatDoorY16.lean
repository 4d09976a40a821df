/-
  Proved here: slices.Insert of one that waits, into an own row. Condition: the place command.plain at one kind of commands. No condition but the kind. stream.Same and the document's. No condition but that the topics read.
-/
import Derived.Test.YtdfmcgekfogpbabGreatDoorY10
import Derived.Test.YtdfmcgekfogpbabGreatDoorY11
import Derived.Test.YtdfmcgekfogpbabGreatDoorY12
import Derived.Lib.Overlaps
import Derived.Lib.AppendZerosOnto
import Derived.Lib.Walk
import Derived.Laws.Externs
set_option maxRecDepth 100000
namespace Go.Proofs.YtdfmcgekfogpbabGreatDoor
open Go.RowKit
def InsEnd (B n:Nat) (v:Value) (ys:List Value) (w:World) (e:Ending) (w':World):Prop :=
 ∃ v',e=.returned v'∧w'.ownsRow B 196 7 v' (n+1) ys∧w.grownBy w' v.ownBlock
theorem size_wait:∀ w,(Go.sizeOf 196).run Tryz.prog w=.ok 7 w:=fun w=>by
 obtain ⟨i0,hi,hz0,hz1,hz2⟩:=info_parts info_wait
 simp [Go.sizeOf,typeInfo,hi,hz1]
set_option maxHeartbeats 8000000 in
set_option maxRecDepth 100000 in
theorem ins_shift {B g n cap i vb:Nat} {tv:TypeId} {xs vs ys:List Value} {w:World} (h:w.ownsRow B 196 7 (.slice (some ⟨g,0,none⟩) n cap) n xs) (h1:∀ v∈xs,v.oneCell'=true)
  (hb:Blk w vb tv vs) (hvl:vs.length=7) (h1v:∀ v∈vs,v.oneCell'=true) (hne:vb≠g) (hi:i < n) (hroom:n+1≤cap) (hy:ys=putIn xs (i * 7) vs) :
  Calls Tryz.prog 108 #[.slice (some ⟨g,0,none⟩) n cap,.int .i64 (i:Int),.slice (some ⟨vb,0,none⟩) 1 1] w (InsEnd B n (.slice (some ⟨g,0,none⟩) n cap) ys w):=by
 obtain ⟨i0,hi0,hz0,hz1,hz2⟩:=info_parts info_wait
 obtain ⟨hxl,h|⟨g',cap',cur,hv,hB,hg,hnc,hcm,hcs,hct⟩⟩:=h
 ·cases h.1
 ·obtain ⟨rfl,rfl⟩:g=g'∧cap=cap':=by simpa using hv
  clear hv
  obtain ⟨L,rfl⟩:∃ L:List Value,cur=L.toArray:=⟨cur.toList,by simp⟩
  simp only [List.size_toArray] at hcs hct
  unfold maxLen at hcm
  have hL:∀ j,j < n * 7→L[j]?=xs[j]?:=fun j hj=>by rw [← hct,List.getElem?_take,if_pos hj]
  have hcell:∀ j,w.cell? ⟨g,j,none⟩=L[j]?:=fun j=>by simp [World.cell?,hg]
  have hsz:(Tryz.prog.info? 196).map (·.size)=some 7:=by rw [hi0];simp [hz1]
  have hsa:w.shape? vb=some (tv,7):=by
   unfold Blk at hb
   simp [World.shape?,hb,hvl]
  have hsb:w.shape? g=some (196,cap * 7):=by simp [World.shape?,hg,hcs]
  have hov:∀ lb cb,(callFunc 146 #[.slice (some ⟨vb,0,none⟩) 1 1,.slice (some ⟨g,(i+1) * 7,none⟩) lb cb]).run Tryz.prog w=.ok (.value (.bool false)) w:=fun lb cb=>by
   rw [run_callFunc_extern Tryz.func146 (by kernel_rfl) (by kernel_rfl) (by kernel_rfl) (e:=Extern.SlicesOverlaps.overlaps #[26,26] #[4]) (by kernel_rfl),
    Lib.run_overlaps_apart w 26 4 196 Tryz.underlying26 7 size_wait ⟨vb,0,none⟩ ⟨g,(i+1) * 7,none⟩ 1 1 lb cb hne tv 196 7 (cap * 7) hsa hsb (by omega) (hb.free _) (hb.free _)]
   rfl
  have hdl:(xs.drop (i * 7)).length=(n - i) * 7:=by rw [List.length_drop,hxl];omega
  obtain ⟨L1,hL1⟩:∃ L1,L1=over L ((i+1) * 7) (xs.drop (i * 7)):=⟨_,rfl⟩
  have hl1:L1.length=cap * 7:=by rw [hL1,over_len (by rw [hdl,hcs];omega),hcs]
  obtain ⟨W1,hW1⟩:∃ W1,W1=w.drew.setRow g L1.toArray:=⟨_,rfl⟩
  have hcp1:Hid (∀ ty dc sc,(Builtin.copy_ #[26,26] ty #[.slice (some ⟨g,(i+1) * 7,none⟩) (n - i) dc,.slice (some ⟨g,i * 7,none⟩) (n+1 - i) sc]).run Tryz.prog w.drew=.ok (goInt (n - i:Nat)) W1):=fun ty dc sc=>by
   have hmin:Nat.min (n+1 - i) (n - i)=n - i:=by simp only [Nat.min_def];split <;> omega
   have:=run_copy_rowS (P:=Tryz.prog) w.drew 26 26 ty 196 7 g ((i+1) * 7) (n - i) dc ⟨g,i * 7,none⟩ (n+1 - i) sc L 196 (xs.drop (i * 7)) Tryz.underlying26 hsz hg (by rw [hdl,hmin])
    (fun j v hj=>by
     have hjl:j < (n - i) * 7:=by rw [← hdl];exact (List.getElem?_eq_some_iff.1 hj).1
     rw [Addr.add_lit]
     show w.cell? _=_
     rw [hcell,hL _ (by omega),← hj,List.getElem?_drop])
    (by rw [hdl,hcs];omega) (fun v hv=>h1 v (List.mem_of_mem_drop hv))
   rw [hmin,← hL1,← hW1] at this
   exact this
  have hg1:W1.heap[g]?=some (.cells L1.toArray 196 (0,0)):=by rw [hW1];exact setRow_heap w.drew g _ _ _ _ hg
  obtain ⟨W2,hW2⟩:∃ W2,W2=W1.setRow g (over L1 (i * 7) vs).toArray:=⟨_,rfl⟩
  have hb1:Blk W1 vb tv vs:=by rw [hW1];exact (setRow_other w.drew g vb _ hne).trans hb
  have hcp2:∀ ty dc,(Builtin.copy_ #[26,26] ty #[.slice (some ⟨g,i * 7,none⟩) (n+1 - i) dc,.slice (some ⟨vb,0,none⟩) 1 1]).run Tryz.prog W1=.ok (goInt (1:Nat)) W2:=fun ty dc=>by
   have hmin:Nat.min 1 (n+1 - i)=1:=by simp only [Nat.min_def];split <;> omega
   have:=run_copy_rowS (P:=Tryz.prog) W1 26 26 ty 196 7 g (i * 7) (n+1 - i) dc ⟨vb,0,none⟩ 1 1 L1 196 vs Tryz.underlying26 hsz hg1 (by rw [hvl,hmin])
    (fun j v hj=>by rw [Addr.add_lit,hb1.cell,Nat.zero_add];exact hj)
    (by rw [hvl,hl1];omega) h1v
   rw [hmin,← hW2] at this
   exact this
  have hfin:Hid (W2.ownsRow B 196 7 (.slice (some ⟨g,0,none⟩) (n+1) cap) (n+1) ys∧w.grownBy W2 (some g)):=by
   refine ⟨⟨?_,Or.inr ⟨g,cap,_,rfl,hB,(by rw [hW2];exact setRow_heap W1 g _ _ _ _ hg1),by omega,by unfold maxLen;omega,?_,?_⟩⟩,?_⟩
   ·rw [hy,putIn_len (by rw [hxl];omega),hxl,hvl];omega
   ·rw [List.size_toArray,over_len (by rw [hvl,hl1];omega),hl1]
   ·rw [List.toList_toArray,hL1,show (n+1) * 7=xs.length+7 by rw [hxl];omega,show (i+1) * 7=i * 7+7 by omega,hy]
    exact shift_take (by rw [hxl];omega) hvl (by rw [hxl,hcs];omega) (fun j hj=>hL j (by rw [hxl] at hj;exact hj))
   ·rw [hW2,hW1]
    exact grownBy_trans' (w':=w.drew) ⟨rfl,rfl,rfl,Nat.le_refl _,fun _ _ _=>rfl⟩ (grownBy_trans' (grownBy_setRow _ _ _) (grownBy_setRow _ _ _))
  have k1:(i:Int)≤(n:Int):=by omega
  have k2:(0:Int)≤(i:Int)+1:=by omega
  have k3:((i:Int)+1).toNat=i+1:=by omega
  have k4:¬ cap=i+1:=by omega
  have k5:¬ cap=i:=by omega
  have k6:(i:Int)+1≤(n:Int)+1:=by omega
  have k7:¬ (i:Int)=(n:Int):=by omega
  have k8:(n:Int)+1≤(cap:Int):=by omega
  have k9:(i:Int)≤(n:Int)+1:=by omega
  have k10:(0:Int)≤(n:Int)+1:=by omega
  have k11:((n:Int)+1).toNat=n+1:=by omega
  have hw1:IntKind.i64.wrap ((i:Int)+1)=(i:Int)+1:=by rw [IntKind.wrap_i64];omega
  clear hL hcell hsz hsa hsb hdl hL1 hl1 hW1 hg1 hW2 hb1 hb hvl h1v hcs hct hg hy h1 hxl
  go_enter Tryz.func108,Tryz.ntmps108
  go_wp2_with (simp only [hov])
  go_region_law (refine step_copy_runS rfl _ _ 26 26 rfl (.slice (some ⟨g,(i+1) * 7,none⟩) (n - i) (cap - (i+1))) (.slice (some ⟨g,i * 7,none⟩) (n+1 - i) (cap - i)) (by simp [Act.eval,Act.put]) (by simp [Act.eval,Act.put]) (hcp1.out _ _ _) ?_)
  go_wp2_with (at_builtin;refine wpList_copy_runS _ rfl _ _ 26 26 rfl _ _ rfl rfl (hcp2 _ _) ?_)
  obtain ⟨f1,f2⟩:=hfin.out
  go_ret
  exact ⟨_,rfl,f1,f2⟩
set_option maxHeartbeats 8000000 in
set_option maxRecDepth 100000 in
theorem ins_grow {B g n cap i vb:Nat} {tv:TypeId} {xs vs ys:List Value} {w:World} (h:w.ownsRow B 196 7 (.slice (some ⟨g,0,none⟩) n cap) n xs) (h1:∀ v∈xs,v.oneCell'=true)
  (hb:Blk w vb tv vs) (hvl:vs.length=7) (h1v:∀ v∈vs,v.oneCell'=true) (hi:i < n) (hroom:cap < n+1) (hsm:n≤1000000) (hBw:B≤w.heap.size) (hy:ys=putIn xs (i * 7) vs) :
  Calls Tryz.prog 108 #[.slice (some ⟨g,0,none⟩) n cap,.int .i64 (i:Int),.slice (some ⟨vb,0,none⟩) 1 1] w (InsEnd B n (.slice (some ⟨g,0,none⟩) n cap) ys w):=by
 obtain ⟨i0,hi0,hz0,hz1,hz2⟩:=info_parts info_wait
 obtain ⟨hxl,h|⟨g',cap',cur,hv,hB,hg,hnc,hcm,hcs,hct⟩⟩:=h
 ·cases h.1
 ·obtain ⟨rfl,rfl⟩:g=g'∧cap=cap':=by simpa using hv
  clear hv
  obtain ⟨L,rfl⟩:∃ L:List Value,cur=L.toArray:=⟨cur.toList,by simp⟩
  simp only [List.size_toArray] at hcs hct
  unfold maxLen at hcm
  have hL:∀ j,j < n * 7→L[j]?=xs[j]?:=fun j hj=>by rw [← hct,List.getElem?_take,if_pos hj]
  have hcell:∀ j,w.cell? ⟨g,j,none⟩=L[j]?:=fun j=>by simp [World.cell?,hg]
  have hlt:g < w.heap.size:=(Array.getElem?_eq_some_iff.1 hg).1
  have hblt:vb < w.heap.size:=hb.lt
  have hsz:(Tryz.prog.info? 196).map (·.size)=some 7:=by rw [hi0];simp [hz1]
  have hkk:(n:Int)+1 - (i:Int)=((n+1 - i:Nat):Int):=by omega
  have hik:i+(n+1 - i)=n+1:=by omega
  obtain ⟨G,hG⟩:∃ G,G=grownCap w (n+1) cap 196:=⟨_,rfl⟩
  have hGn:n+1≤G:=by rw [hG];exact grownCap_ge w _ _ _
  have hG63:G≤9223372036854775807:=by
   have:=grownCap_le_maxLen w (n+1) cap 196 (by unfold maxLen;omega)
   rw [← hG] at this
   unfold maxLen at this
   omega
  have htl:(xs.take (i * 7)).length=i * 7:=by rw [List.length_take,hxl];omega
  have hold:(Builtin.firstCells i0.size i (.slice (some ⟨g,0,none⟩) i cap)).run Tryz.prog w.drew=.ok (xs.take (i * 7)).toArray w.drew:=by
   rw [hz1]
   exact run_firstCells_some w.drew 7 i ⟨g,0,none⟩ i cap (xs.take (i * 7)) htl (fun j v hj=>by
    have hjl:j < i * 7:=by rw [← htl];exact (List.getElem?_eq_some_iff.1 hj).1
    rw [Addr.add_lit]
    show w.cell? _=_
    rw [hcell,Nat.zero_add,hL _ (by omega),← hj,List.getElem?_take,if_pos hjl])
  obtain ⟨z,hzz⟩:∃ z:Value,z=.agg #[.int .i64 0,.slice none 0 0,.int .i64 0,.string ByteArray.empty,.string ByteArray.empty,.int .i64 0,.bool false]:=⟨_,rfl⟩
  rw [← hzz] at hz0
  have hzs:z.cells.size=7:=by rw [hzz];rfl
  obtain ⟨R,hR⟩:∃ R:List Value,R.toArray=(xs.take (i * 7)).toArray++Builtin.zeroCells z.cells (n+1 - i)++Builtin.zeroCells z.cells (G - (n+1)):=⟨_,Array.toArray_toList⟩
  have hrz:Hid (∀ ty,(Builtin.append_ #[26,3] ty #[.slice (some ⟨g,0,none⟩) i cap,.int .i64 ((n:Int)+1 - (i:Int))]).run Tryz.prog w=.ok (.slice (some ⟨w.heap.size,0,none⟩) (n+1) G) (w.drew.alloc (.cells R.toArray 196))):=fun ty=>by
   have h:=Lib.run_append_grow_zeros w 26 3 ty 196 i0 _ .i64 .i64 Tryz.underlying26 Tryz.underlying3 hi0 hz0 (some ⟨g,0,none⟩) i cap (xs.take (i * 7)) hold (n+1 - i) (by omega) (by omega) (by omega) (by omega) (by rw [hz2];omega) (by rw [hz2,hik];exact growslice_fits hroom (by omega))
   rw [hik,← hG,← hR] at h
   rw [hkk]
   exact h
  have hRl:R.length=G * 7:=by
   have:=congrArg Array.size hR
   simp only [List.size_toArray,Array.size_append,Builtin.zeroCells,hzs,Array.size_map,Array.size_range,htl] at this
   omega
  have hRx:∀ j,j < i * 7→R[j]?=xs[j]?:=fun j hj=>by
   have:=congrArg (fun A:Array Value=>A[j]?) hR
   simp only [List.getElem?_toArray] at this
   rw [this,Array.append_assoc,Array.getElem?_append,if_pos (by simpa [htl] using hj),List.getElem?_toArray,List.getElem?_take,if_pos hj]
  clear hR hold hkk hik hG hi0 hz0 hz1 hz2 hzz hzs
  obtain ⟨N,hN⟩:∃ N,N=w.heap.size:=⟨_,rfl⟩
  obtain ⟨W1,hW1⟩:∃ W1,W1=w.drew.alloc (.cells R.toArray 196):=⟨_,rfl⟩
  rw [← hN,← hW1] at hrz
  have hN1:W1.heap[N]?=some (.cells R.toArray 196 (0,0)):=by rw [hW1,hN];show (w.heap.push _)[w.heap.size]?=_;simp
  have hOld:∀ k,k < N→W1.heap[k]?=w.heap[k]?:=fun k hk=>by rw [hW1];show (w.heap.push _)[k]?=_;rw [Array.getElem?_push_lt (by omega),Array.getElem?_eq_getElem (by omega)]
  have hb1:Blk W1 vb tv vs:=(hOld vb (by omega)).trans hb
  have hg1:W1.heap[g]?=some (.cells L.toArray 196 (0,0)):=(hOld g (by omega)).trans hg
  obtain ⟨W2,hW2⟩:∃ W2,W2=W1.setRow N (over R (i * 7) vs).toArray:=⟨_,rfl⟩
  have hcpA:∀ ty dc,(Builtin.copy_ #[26,26] ty #[.slice (some ⟨N,i * 7,none⟩) (n+1 - i) dc,.slice (some ⟨vb,0,none⟩) 1 1]).run Tryz.prog W1=.ok (goInt (1:Nat)) W2:=fun ty dc=>by
   have hmin:Nat.min 1 (n+1 - i)=1:=by simp only [Nat.min_def];split <;> omega
   have:=run_copy_rowS (P:=Tryz.prog) W1 26 26 ty 196 7 N (i * 7) (n+1 - i) dc ⟨vb,0,none⟩ 1 1 R 196 vs Tryz.underlying26 hsz hN1 (by rw [hvl,hmin])
    (fun j v hj=>by rw [Addr.add_lit,hb1.cell,Nat.zero_add];exact hj)
    (by rw [hvl,hRl];omega) h1v
   rw [hmin,← hW2] at this
   exact this
  have hl2:(over R (i * 7) vs).length=G * 7:=by rw [over_len (by rw [hvl,hRl];omega),hRl]
  have hN2:W2.heap[N]?=some (.cells (over R (i * 7) vs).toArray 196 (0,0)):=by rw [hW2];exact setRow_heap W1 N _ _ _ _ hN1
  have hg2:W2.heap[g]?=some (.cells L.toArray 196 (0,0)):=by rw [hW2];exact (setRow_other W1 N g _ (by omega)).trans hg1
  obtain ⟨L2,hL2⟩:∃ L2,L2=over (over R (i * 7) vs) ((i+1) * 7) (xs.drop (i * 7)):=⟨_,rfl⟩
  have hdl:(xs.drop (i * 7)).length=(n - i) * 7:=by rw [List.length_drop,hxl];omega
  have hcpB:Hid (∀ ty dc sc,(Builtin.copy_ #[26,26] ty #[.slice (some ⟨N,(i+1) * 7,none⟩) (n - i) dc,.slice (some ⟨g,i * 7,none⟩) (n - i) sc]).run Tryz.prog W2.drew=.ok (goInt (n - i:Nat)) (W2.drew.setRow N L2.toArray)):=fun ty dc sc=>by
   have hmin:Nat.min (n - i) (n - i)=n - i:=by simp only [Nat.min_def];split <;> omega
   have:=run_copy_rowS (P:=Tryz.prog) W2.drew 26 26 ty 196 7 N ((i+1) * 7) (n - i) dc ⟨g,i * 7,none⟩ (n - i) sc (over R (i * 7) vs) 196 (xs.drop (i * 7)) Tryz.underlying26 hsz hN2 (by rw [hdl,hmin])
    (fun j v hj=>by
     have hjl:j < (n - i) * 7:=by rw [← hdl];exact (List.getElem?_eq_some_iff.1 hj).1
     rw [Addr.add_lit]
     show W2.cell? _=_
     have hc2:∀ j,W2.cell? ⟨g,j,none⟩=L[j]?:=fun j=>by simp [World.cell?,hg2]
     rw [hc2,hL _ (by omega),← hj,List.getElem?_drop])
    (by rw [hdl,hl2];omega) (fun v hv=>h1 v (List.mem_of_mem_drop hv))
   rw [hmin,← hL2] at this
   exact this
  have hfin:Hid (∀ W3,W3=W2.drew.setRow N L2.toArray→W3.ownsRow B 196 7 (.slice (some ⟨N,0,none⟩) (n+1) G) (n+1) ys∧w.grownBy W3 (some g)):=by
   rintro W3 rfl
   refine ⟨⟨?_,Or.inr ⟨N,G,_,rfl,by omega,setRow_heap W2.drew N _ _ _ _ hN2,by omega,by unfold maxLen;omega,?_,?_⟩⟩,?_⟩
   ·rw [hy,putIn_len (by rw [hxl];omega),hxl,hvl];omega
   ·rw [List.size_toArray,hL2,over_len (by rw [hdl,hl2];omega),hl2]
   ·rw [List.toList_toArray,hL2,show (n+1) * 7=xs.length+7 by rw [hxl];omega,show (i+1) * 7=i * 7+7 by omega,hy]
    exact grow_take (by rw [hxl];omega) hvl (by rw [hxl,hRl];omega) hRx
   ·refine ⟨by rw [hW2,hW1];rfl,by rw [hW2,hW1];rfl,by rw [hW2,hW1];rfl,?_,fun k hk _=>?_⟩
    ·rw [size_setRow]
     show w.heap.size≤W2.heap.size
     rw [hW2,size_setRow,hW1]
     show w.heap.size≤(w.heap.push _).size
     simp
    ·rw [setRow_other W2.drew N k _ (by omega)]
     show W2.heap[k]?=_
     rw [hW2,setRow_other W1 N k _ (by omega)]
     exact hOld k (by omega)
  have hE1:Hid ((w.drew.alloc (.cells R.toArray 196))=W1):=LH hW1.symm
  have k1:(i:Int)≤(n:Int):=by omega
  have k2:(0:Int)≤(i:Int)+1:=by omega
  have k3:((i:Int)+1).toNat=i+1:=by omega
  have k4:¬ cap=i:=by omega
  have k5:¬ G=i+1:=by omega
  have k5':¬ G=i:=by omega
  have k6:(i:Int)+1≤(n:Int)+1:=by omega
  have k7:¬ (i:Int)=(n:Int):=by omega
  have k8:(cap:Int) < (n:Int)+1:=by omega
  have k9:(i:Int)≤(n:Int)+1:=by omega
  have k12:(i:Int)≤(cap:Int):=by omega
  have hw1:IntKind.i64.wrap ((i:Int)+1)=(i:Int)+1:=by rw [IntKind.wrap_i64];omega
  have hw2:IntKind.i64.wrap ((n:Int)+1)=(n:Int)+1:=by rw [IntKind.wrap_i64];omega
  have hw3:IntKind.i64.wrap ((n:Int)+1 - (i:Int))=(n:Int)+1 - (i:Int):=by rw [IntKind.wrap_i64];omega
  clear hL hcell hsz htl hRl hRx hN1 hOld hb1 hg1 hW2 hl2 hN2 hg2 hL2 hdl hb hvl h1v hcs hct hg hy h1 hxl hW1 hN hE1
  go_enter Tryz.func108,Tryz.ntmps108
  go_wp2_with (first
   |(at_builtin;refine Lib.wpList_append_run _ rfl _ _ _ _ rfl _ _ rfl rfl _ _ (hrz.out _) ?_)
   |(at_builtin;refine wpList_copy_runS _ rfl _ _ 26 26 rfl _ _ rfl rfl (hcpA _ _) ?_))
  go_region_law (refine step_copy_runS rfl _ _ 26 26 rfl (.slice (some ⟨N,(i+1) * 7,none⟩) (n - i) (G - (i+1))) (.slice (some ⟨g,i * 7,none⟩) (n - i) (cap - i)) (by simp [Act.eval,Act.put]) (by simp [Act.eval,Act.put]) (hcpB.out _ _ _) ?_)
  go_wp2
  obtain ⟨f1,f2⟩:=hfin.out _ rfl
  go_ret
  exact ⟨_,rfl,f1,f2⟩
set_option maxHeartbeats 8000000 in
set_option maxRecDepth 100000 in
theorem ins_end {B n vb:Nat} {tv:TypeId} {v:Value} {xs vs:List Value} {w:World} (h:w.ownsRow B 196 7 v n xs)
  (hb:Blk w vb tv vs) (hvl:vs.length=7) (h1v:∀ v∈vs,v.oneCell'=true) (hsm:n≤1000000) (hBw:B≤w.heap.size) :
  Calls Tryz.prog 108 #[v,.int .i64 (n:Int),.slice (some ⟨vb,0,none⟩) 1 1] w (InsEnd B n v (xs++vs) w):=by
 obtain ⟨i0,hi0,hz0,hz1,hz2⟩:=info_parts info_wait
 have hnews:∀ j u,vs[j]?=some u→w.cell? ((⟨vb,0,none⟩:Addr).add j)=some u:=fun j u hj=>by rw [Addr.add_lit,hb.cell,Nat.zero_add];exact hj
 have hn63:n+1≤maxLen:=by unfold maxLen;omega
 have hshape:∃ a cap,v=.slice a n cap∧(a=none∨∃ g,a=some ⟨g,0,none⟩)∧n≤cap∧cap≤maxLen:=by
  rcases h.2 with ⟨rfl,h0⟩|⟨g,cp,cur,rfl,_,_,h3,h4,_⟩
  ·exact ⟨none,0,by rw [h0],Or.inl rfl,by omega,by unfold maxLen;omega⟩
  ·exact ⟨_,cp,rfl,Or.inr ⟨g,rfl⟩,h3,h4⟩
 obtain ⟨a,cap,rfl,ha,hnc,hcm⟩:=hshape
 unfold maxLen at hcm
 rcases ha with rfl|⟨g,rfl⟩
 ·go_enter Tryz.func108,Tryz.ntmps108
  go_wp2_with (at_builtin;refine wpList_append_own w rfl _ _ _ rfl B 196 i0 _ 7 88 Tryz.underlying26 hi0 hz0 hz1 hz2 rfl (by decide) _ n xs rfl h ⟨vb,0,none⟩ 1 1 vs rfl (by rw [hvl]) hnews h1v hn63 (by omega) hBw fun v' w' h2 h3 h4=>?_)
  all_goals (go_ret;exact ⟨_,rfl,h2,h3⟩)
 ·go_enter Tryz.func108,Tryz.ntmps108
  go_wp2_with (at_builtin;refine wpList_append_own w rfl _ _ _ rfl B 196 i0 _ 7 88 Tryz.underlying26 hi0 hz0 hz1 hz2 rfl (by decide) _ n xs rfl h ⟨vb,0,none⟩ 1 1 vs rfl (by rw [hvl]) hnews h1v hn63 (by omega) hBw fun v' w' h2 h3 h4=>?_)
  all_goals (go_ret;exact ⟨_,rfl,h2,h3⟩)
theorem ins_any {B n i vb:Nat} {tv:TypeId} {v:Value} {xs vs ys:List Value} {w:World} (h:w.ownsRow B 196 7 v n xs) (h1:∀ v∈xs,v.oneCell'=true)
  (hb:Blk w vb tv vs) (hvl:vs.length=7) (h1v:∀ v∈vs,v.oneCell'=true) (hne:v.ownBlock≠some vb) (hi:i≤n) (hsm:n≤1000000) (hBw:B≤w.heap.size) (hy:ys=putIn xs (i * 7) vs) :
  Calls Tryz.prog 108 #[v,.int .i64 (i:Int),.slice (some ⟨vb,0,none⟩) 1 1] w (InsEnd B n v ys w):=by
 rcases Nat.eq_or_lt_of_le hi with rfl|hlt
 ·rw [putIn_end' (by rw [h.1])] at hy
  subst hy
  exact ins_end h hb hvl h1v hsm hBw
 ·rcases h.2 with ⟨_,h0⟩|⟨g,cap,cur,rfl,_⟩
  ·omega
  ·have hne':vb≠g:=fun e=>hne (by rw [e];rfl)
   by_cases hr:n+1≤cap
   ·exact ins_shift h h1 hb hvl h1v hne' hlt hr hy
   ·exact ins_grow h h1 hb hvl h1v hlt (by omega) hsm hBw hy
end Go.Proofs.YtdfmcgekfogpbabGreatDoor
namespace Go.Proofs.YtdfmcgekfogpbabGreatDoor
open Go.RowKit
set_option maxHeartbeats 8000000 in
set_option maxRecDepth 100000 in
theorem plain_k1 {v:Value} {c:PC} {w:World} (h:ComR w v c) (hk:c.kind=1):Calls Tryz.prog 96 #[v] w (PlainEnd (pC c) (okP c) w):=by
 obtain ⟨a,cap,b,bc,rfl,hg,hm⟩:=h
 obtain ⟨q,hq⟩:∃ q,q=onT c:=⟨_,rfl⟩
 have HPC:=LH (show pC c=pC c from rfl)
 have HOK:=LH (show okP c=okP c from rfl)
 obtain ⟨pc,hpc⟩:∃ pc,pc=pC c:=⟨_,rfl⟩
 obtain ⟨ok,hok⟩:∃ ok,ok=okP c:=⟨_,rfl⟩
 rw [← hpc,← hok]
 clear HPC HOK
 obtain ⟨kd,⟨i1,g1,t1,k1,b1⟩,ci,ct,ml,cp,cw,cn⟩:=c
 simp only [onT] at hq hg hm hk ⊢
 have HK:=LH hk
 clear hk
 have HQ:=LH hq
 have HPC:=LH hpc
 have HOK:=LH hok
 have G:=LH hg
 have M:=LH hm
 obtain ⟨gn,hgn⟩:∃ n,n=g1.length:=⟨_,rfl⟩
 obtain ⟨mn,hmn⟩:∃ n,n=ml.length:=⟨_,rfl⟩
 rw [← hgn] at G ⊢
 rw [← hmn] at M ⊢
 have HGN:=LH hgn
 have HMN:=LH hmn
 clear hq hg hm hpc hok hgn hmn
 obtain ⟨z1,hz1⟩:∃ z:Bool,z=idB ci:=⟨_,rfl⟩
 obtain ⟨z2,hz2⟩:∃ z:Bool,z=inB cp 0 3:=⟨_,rfl⟩
 obtain ⟨z3,hz3⟩:∃ z:Bool,z=inB cn 0 1073741824:=⟨_,rfl⟩
 have HZ1:=LH hz1
 have HZ2:=LH hz2
 have HZ3:=LH hz3
 rw [← hz1,← hz2,← hz3] at HQ
 clear hz1 hz2 hz3
 go_enter Tryz.func96,Tryz.ntmps96
 go_upto_region 2 with fail
 go_cut [5] (fun c wx=>c=.bool q∧Hid (Below w.heap.size w wx)∧Hid (Blk wx w.heap.size 79 [.int .u8 kd,.int .i64 i1,.slice a gn cap,.int .i64 t1,.string k1,.string b1,.int .i64 ci,.int .i64 ct,.slice b mn bc,.int .i64 cp,.int .i64 cw,.int .i64 cn])∧Hid (Blk wx (w.heap.size+1) 79 [.int .u8 0,.int .i64 0,.slice none 0 0,.int .i64 0,.string ⟨#[]⟩,.string ⟨#[]⟩,.int .i64 0,.int .i64 0,.slice none 0 0,.int .i64 0,.int .i64 0,.int .i64 0])∧Hid (Blk wx (w.heap.size+1+1) 79 [.int .u8 kd,.int .i64 0,.slice none 0 0,.int .i64 0,.string ⟨#[]⟩,.string ⟨#[]⟩,.int .i64 0,.int .i64 0,.slice none 0 0,.int .i64 0,.int .i64 0,.int .i64 0]))
 case first =>
  have HB0:Hid (Below w.heap.size w (((w.alloc (.cells #[.int .u8 kd,.int .i64 i1,.slice a gn cap,.int .i64 t1,.string k1,.string b1,.int .i64 ci,.int .i64 ct,.slice b mn bc,.int .i64 cp,.int .i64 cw,.int .i64 cn] 79)).alloc (.cells #[.int .u8 0,.int .i64 0,.slice none 0 0,.int .i64 0,.string ⟨#[]⟩,.string ⟨#[]⟩,.int .i64 0,.int .i64 0,.slice none 0 0,.int .i64 0,.int .i64 0,.int .i64 0] 79)).alloc (.cells #[.int .u8 kd,.int .i64 0,.slice none 0 0,.int .i64 0,.string ⟨#[]⟩,.string ⟨#[]⟩,.int .i64 0,.int .i64 0,.slice none 0 0,.int .i64 0,.int .i64 0,.int .i64 0] 79))):=LH (by repeat (first|with_reducible (first|exact Below.refl _ _|apply Below.drew|apply below_alloc)|((first|with_reducible refine Below.alloc ?_ ?_ _|with_reducible refine Below.setCell ?_ ?_ _);rotate_left;focus (first|(simp <;> omega)|omega))))
  have HE:Hid (Blk (((w.alloc (.cells #[.int .u8 kd,.int .i64 i1,.slice a gn cap,.int .i64 t1,.string k1,.string b1,.int .i64 ci,.int .i64 ct,.slice b mn bc,.int .i64 cp,.int .i64 cw,.int .i64 cn] 79)).alloc (.cells #[.int .u8 0,.int .i64 0,.slice none 0 0,.int .i64 0,.string ⟨#[]⟩,.string ⟨#[]⟩,.int .i64 0,.int .i64 0,.slice none 0 0,.int .i64 0,.int .i64 0,.int .i64 0] 79)).alloc (.cells #[.int .u8 kd,.int .i64 0,.slice none 0 0,.int .i64 0,.string ⟨#[]⟩,.string ⟨#[]⟩,.int .i64 0,.int .i64 0,.slice none 0 0,.int .i64 0,.int .i64 0,.int .i64 0] 79)) w.heap.size 79 [.int .u8 kd,.int .i64 i1,.slice a gn cap,.int .i64 t1,.string k1,.string b1,.int .i64 ci,.int .i64 ct,.slice b mn bc,.int .i64 cp,.int .i64 cw,.int .i64 cn]∧Blk (((w.alloc (.cells #[.int .u8 kd,.int .i64 i1,.slice a gn cap,.int .i64 t1,.string k1,.string b1,.int .i64 ci,.int .i64 ct,.slice b mn bc,.int .i64 cp,.int .i64 cw,.int .i64 cn] 79)).alloc (.cells #[.int .u8 0,.int .i64 0,.slice none 0 0,.int .i64 0,.string ⟨#[]⟩,.string ⟨#[]⟩,.int .i64 0,.int .i64 0,.slice none 0 0,.int .i64 0,.int .i64 0,.int .i64 0] 79)).alloc (.cells #[.int .u8 kd,.int .i64 0,.slice none 0 0,.int .i64 0,.string ⟨#[]⟩,.string ⟨#[]⟩,.int .i64 0,.int .i64 0,.slice none 0 0,.int .i64 0,.int .i64 0,.int .i64 0] 79)) (w.heap.size+1) 79 [.int .u8 0,.int .i64 0,.slice none 0 0,.int .i64 0,.string ⟨#[]⟩,.string ⟨#[]⟩,.int .i64 0,.int .i64 0,.slice none 0 0,.int .i64 0,.int .i64 0,.int .i64 0]∧Blk (((w.alloc (.cells #[.int .u8 kd,.int .i64 i1,.slice a gn cap,.int .i64 t1,.string k1,.string b1,.int .i64 ci,.int .i64 ct,.slice b mn bc,.int .i64 cp,.int .i64 cw,.int .i64 cn] 79)).alloc (.cells #[.int .u8 0,.int .i64 0,.slice none 0 0,.int .i64 0,.string ⟨#[]⟩,.string ⟨#[]⟩,.int .i64 0,.int .i64 0,.slice none 0 0,.int .i64 0,.int .i64 0,.int .i64 0] 79)).alloc (.cells #[.int .u8 kd,.int .i64 0,.slice none 0 0,.int .i64 0,.string ⟨#[]⟩,.string ⟨#[]⟩,.int .i64 0,.int .i64 0,.slice none 0 0,.int .i64 0,.int .i64 0,.int .i64 0] 79)) (w.heap.size+1+1) 79 [.int .u8 kd,.int .i64 0,.slice none 0 0,.int .i64 0,.string ⟨#[]⟩,.string ⟨#[]⟩,.int .i64 0,.int .i64 0,.slice none 0 0,.int .i64 0,.int .i64 0,.int .i64 0]) :=
   LH ⟨((Blk.new rfl).alloc _).alloc _,(Blk.new (by simp)).alloc _,Blk.new (by simp)⟩
  cases z1
  ·obtain rfl:q=false:=HQ.out
   go_wp2_with fail
   refine Calls.mono (idB_any ci _) ?_
   rintro e w1 ⟨rfl,rfl⟩
   rw [← HZ1.out]
   go_wp2_with fail
   go_meet
   case rel=>exact ⟨rfl,HB0,HE.out.1,HE.out.2.1,HE.out.2.2⟩
  ·cases z2
   ·obtain rfl:q=false:=HQ.out
    go_wp2_with fail
    refine Calls.mono (idB_any ci _) ?_
    rintro e w1 ⟨rfl,rfl⟩
    rw [← HZ1.out]
    go_wp2_with fail
    refine Calls.mono (inB_any cp 0 3 _) ?_
    rintro e w1 ⟨rfl,rfl⟩
    rw [← HZ2.out]
    go_wp2_with fail
    go_meet
    case rel=>exact ⟨rfl,HB0,HE.out.1,HE.out.2.1,HE.out.2.2⟩
   ·obtain rfl:q=z3:=HQ.out
    go_wp2_with fail
    refine Calls.mono (idB_any ci _) ?_
    rintro e w1 ⟨rfl,rfl⟩
    rw [← HZ1.out]
    go_wp2_with fail
    refine Calls.mono (inB_any cp 0 3 _) ?_
    rintro e w1 ⟨rfl,rfl⟩
    rw [← HZ2.out]
    go_wp2_with fail
    refine Calls.mono (inB_any cn 0 1073741824 _) ?_
    rintro e w1 ⟨rfl,rfl⟩
    rw [← HZ3.out]
    go_wp2_with fail
    go_meet
    case rel=>exact ⟨rfl,HB0,HE.out.1,HE.out.2.1,HE.out.2.2⟩
 case rest =>
  obtain ⟨rfl,HB,HP,HRR,HQQ⟩:=hcut
  have hk:=HK.out
  obtain ⟨⟨⟨q0,q1,q2,q3⟩,⟨q4,q5,q6,q7⟩,q8,q9,q10,q11⟩,qz⟩:=cells12 HQQ.out
  have ql:=HQQ.out.lt
  obtain ⟨⟨⟨p0,p1,p2,p3⟩,⟨p4,p5,p6,p7⟩,p8,p9,p10,p11⟩,pz⟩:=cells12 HP.out
  have pl:=HP.out.lt
  obtain ⟨⟨⟨r0,r1,r2,r3⟩,⟨r4,r5,r6,r7⟩,r8,r9,r10,r11⟩,rz⟩:=cells12 HRR.out
  have rl:=HRR.out.lt
  obtain rfl:pc=⟨1,⟨i1,g1,t1,k1,b1⟩,0,0,[],0,0,0⟩:=by rw [HPC.out,hk];rfl
  have HOK':=LH (show ok=msgB ⟨i1,g1,t1,k1,b1⟩ by rw [HOK.out,hk];rfl)
  clear HOK HPC
  subst hk
  obtain rfl:=HGN.out
  obtain ⟨zc,hzc⟩:∃ zc:Int,zc=if msgB ⟨i1,g1,t1,k1,b1⟩=true then 0 else 120:=⟨_,rfl⟩
  have HZC:=LH hzc
  obtain rfl:ok=(zc == 0):=by
   rw [hzc,HOK'.out]
   cases msgB ⟨i1,g1,t1,k1,b1⟩ <;> rfl
  clear hzc HOK'
  go_wp2_with fail
  have HQ2:=LH (((((HQQ.out.set_ 1 (.int .i64 i1)).set_ 2 (.slice a g1.length cap)).set_ 3 (.int .i64 t1)).set_ 4 (.string k1)).set_ 5 (.string b1))
  have HR2:=LH (((((HRR.out.far (b:=w.heap.size+1+1) (o:=1) (by omega) (.int .i64 i1)).far (b:=w.heap.size+1+1) (o:=2) (by omega) (.slice a g1.length cap)).far (b:=w.heap.size+1+1) (o:=3) (by omega) (.int .i64 t1)).far (b:=w.heap.size+1+1) (o:=4) (by omega) (.string k1)).far (b:=w.heap.size+1+1) (o:=5) (by omega) (.string b1))
  have HP2:=LH (((((HP.out.far (b:=w.heap.size+1+1) (o:=1) (by omega) (.int .i64 i1)).far (b:=w.heap.size+1+1) (o:=2) (by omega) (.slice a g1.length cap)).far (b:=w.heap.size+1+1) (o:=3) (by omega) (.int .i64 t1)).far (b:=w.heap.size+1+1) (o:=4) (by omega) (.string k1)).far (b:=w.heap.size+1+1) (o:=5) (by omega) (.string b1))
  have HB2:=LH (((((HB.out.setCell (p:=⟨w.heap.size+1+1,1,none⟩) (by simp;omega) (.int .i64 i1)).setCell (p:=⟨w.heap.size+1+1,2,none⟩) (by simp;omega) (.slice a g1.length cap)).setCell (p:=⟨w.heap.size+1+1,3,none⟩) (by simp;omega) (.int .i64 t1)).setCell (p:=⟨w.heap.size+1+1,4,none⟩) (by simp;omega) (.string k1)).setCell (p:=⟨w.heap.size+1+1,5,none⟩) (by simp;omega) (.string b1))
  generalize hW:(((((wc.setCell ⟨w.heap.size+1+1,1,none⟩ (.int .i64 i1)).setCell ⟨w.heap.size+1+1,2,none⟩ (.slice a g1.length cap)).setCell ⟨w.heap.size+1+1,3,none⟩ (.int .i64 t1)).setCell ⟨w.heap.size+1+1,4,none⟩ (.string k1)).setCell ⟨w.heap.size+1+1,5,none⟩ (.string b1))=W at HQ2 HR2 HP2 HB2 ⊢
  clear q0 q1 q2 q3 q4 q5 q6 q7 q8 q9 q10 q11 qz ql p0 p1 p2 p3 p4 p5 p6 p7 p8 p9 p10 p11 pz pl r0 r1 r2 r3 r4 r5 r6 r7 r8 r9 r10 r11 rz rl hW HP HRR HQQ HB
  obtain ⟨⟨⟨q0,q1,q2,q3⟩,⟨q4,q5,q6,q7⟩,q8,q9,q10,q11⟩,qz⟩:=cells12 HQ2.out
  have ql:=HQ2.out.lt
  obtain ⟨⟨⟨p0,p1,p2,p3⟩,⟨p4,p5,p6,p7⟩,p8,p9,p10,p11⟩,pz⟩:=cells12 HP2.out
  have pl:=HP2.out.lt
  obtain ⟨⟨⟨r0,r1,r2,r3⟩,⟨r4,r5,r6,r7⟩,r8,r9,r10,r11⟩,rz⟩:=cells12 HR2.out
  have rl:=HR2.out.lt
  go_region_with (go_at_call 101;refine Calls.mono (chkMsg_any (m:=⟨i1,g1,t1,k1,b1⟩) ⟨a,cap,rfl,G.out.below HB2.out.drew⟩ HZC.out) ?_;rintro e w1 ⟨rfl,hb⟩;have HR6:=LH (Blk.step (Blk.drew HR2.out) hb);have HQ6:=LH (Blk.step (Blk.drew HQ2.out) hb);have HB6:=LH (HB2.out.drew.trans (hb.mono HB2.out.drew.size));clear hb;obtain ⟨⟨⟨q0,q1,q2,q3⟩,⟨q4,q5,q6,q7⟩,q8,q9,q10,q11⟩,qz⟩:=cells12 HQ6.out;obtain ⟨⟨⟨r0,r1,r2,r3⟩,⟨r4,r5,r6,r7⟩,r8,r9,r10,r11⟩,rz⟩:=cells12 HR6.out;have rl:=HR6.out.lt)
  all_goals
   go_wp2_with fail
   obtain ⟨⟨⟨t0,t1_,t2,t3⟩,⟨t4,t5,t6,t7⟩,t8,t9,t10,t11⟩,-⟩:=cells12 (blk_put12 HR6.out (.int .u8 1) (.int .i64 i1) (.slice a g1.length cap) (.int .i64 t1) (.string k1) (.string b1) (.int .i64 0) (.int .i64 0) (.slice none 0 0) (.int .i64 0) (.int .i64 0) (.int .i64 0))
   have HBF:=((((((((((((HB6.out.setCell (p:=⟨w.heap.size+1,0,none⟩) (by simp) (.int .u8 1)).setCell (p:=⟨w.heap.size+1,1,none⟩) (by simp) (.int .i64 i1)).setCell (p:=⟨w.heap.size+1,2,none⟩) (by simp) (.slice a g1.length cap)).setCell (p:=⟨w.heap.size+1,3,none⟩) (by simp) (.int .i64 t1)).setCell (p:=⟨w.heap.size+1,4,none⟩) (by simp) (.string k1)).setCell (p:=⟨w.heap.size+1,5,none⟩) (by simp) (.string b1)).setCell (p:=⟨w.heap.size+1,6,none⟩) (by simp) (.int .i64 0)).setCell (p:=⟨w.heap.size+1,7,none⟩) (by simp) (.int .i64 0)).setCell (p:=⟨w.heap.size+1,8,none⟩) (by simp) (.slice none 0 0)).setCell (p:=⟨w.heap.size+1,9,none⟩) (by simp) (.int .i64 0)).setCell (p:=⟨w.heap.size+1,10,none⟩) (by simp) (.int .i64 0)).setCell (p:=⟨w.heap.size+1,11,none⟩) (by simp) (.int .i64 0))
   exact bodyPost_ret (v:=.tuple #[.agg #[.int .u8 1,.int .i64 i1,.slice a g1.length cap,.int .i64 t1,.string k1,.string b1,.int .i64 0,.int .i64 0,.slice none 0 0,.int .i64 0,.int .i64 0,.int .i64 0],.bool (zc == 0)]) (by simp [results,Tryz.results96,go_sem,t0,t1_,t2,t3,t4,t5,t6,t7,t8,t9,t10,t11]) rfl ⟨_,rfl,⟨a,cap,none,0,rfl,G.out.below HBF,ints_nil _⟩,HBF⟩
end Go.Proofs.YtdfmcgekfogpbabGreatDoor
namespace Go.Proofs.YtdfmcgekfogpbabGreatDoor
open Go.RowKit
theorem tops_ext {l l':List Top} (h:l.length=l'.length) (hall:∀ j,j < l.length→l.getD j default=l'.getD j default):l=l':=list_eq_of default h hall
theorem str_ext {s s':Str}:s=s'↔s.tops=s'.tops∧s.coms=s'.coms:=by
 cases s;cases s';simp
set_option maxHeartbeats 4000000 in
set_option maxRecDepth 100000 in
theorem eqTop_any {v v':Value} {l l':List Top} {w:World} {z:Bool} (h:TopsR w v l) (h':TopsR w v' l') (hz:z=true↔l=l') :
  Calls Tryz.prog 39 #[v,v',.func (.func 40) #[] #[]] w fun e w'=>e=.returned (.bool z)∧Below w.heap.size w w':=by
 have HZ:=LH hz
 obtain ⟨a,cap,rfl,hcap,hmx,_,hd⟩:=h.shape
 obtain ⟨a',cap',rfl,hcap',hmx',_,hd'⟩:=h'.shape
 have HD:=LH hd
 have HD':=LH hd'
 obtain ⟨n,hn⟩:∃ n,n=l.length:=⟨_,rfl⟩
 obtain ⟨n',hn'⟩:∃ n,n=l'.length:=⟨_,rfl⟩
 rw [← hn] at HD hcap ⊢
 rw [← hn'] at HD' hcap' ⊢
 have HN:=LH hn
 have HN':=LH hn'
 unfold maxLen at hmx hmx'
 have nn0:(n:Int)≤9223372036854775807:=by omega
 clear hz hd hd' hn hn' h h'
 by_cases hnn:n=n'
 ·subst hnn
  have nn:((n:Int) != (n:Int))=false:=by simp
  go_enter Tryz.func39,Tryz.ntmps39
  go_wp2_with fail
  go_loopg [17] n (fun g i wr=>∃ k:Nat,k≤n∧g=n - k∧i=.int .i64 (k:Int)∧Hid (∀ j,j < k→l.getD j default=l'.getD j default)∧Hid (Below w.heap.size w wr))
  case atStart=>exact ⟨0,Nat.zero_le _,rfl,rfl,(fun j hj=>absurd hj (Nat.not_lt_zero _)),Below.refl _ _⟩
  case round =>
   obtain ⟨k,hk,rfl,rfl,hall,HB⟩:=hrel
   by_cases hlt:k < n
   ·have hk0:(0:Int)≤(k:Int):=by omega
    have hk1:(k:Int) < (n:Int):=by omega
    obtain ⟨g,off,ha,hat⟩:=HD.out (by omega)
    subst ha
    obtain ⟨g',off',ha',hat'⟩:=HD'.out (by omega)
    subst ha'
    obtain ⟨ea,ecap,⟨⟨⟨c0,c1⟩,c2⟩,c3⟩,hTT⟩:=(hat k hlt).keep HB.out
    obtain ⟨ea',ecap',⟨⟨⟨d0,d1⟩,d2⟩,d3⟩,hTT'⟩:=(hat' k hlt).keep HB.out
    have T:=LH hTT
    have TQ:=LH hTT'
    have hg1:g < wr.heap.size:=World.block_lt_of_cell? wr _ c0
    have hg2:g' < wr.heap.size:=World.block_lt_of_cell? wr _ d0
    obtain ⟨t,ht⟩:∃ t,t=l.getD k default:=⟨_,rfl⟩
    obtain ⟨t',ht'⟩:∃ t,t=l'.getD k default:=⟨_,rfl⟩
    rw [← ht] at c0 c1 c2 c3 T
    rw [← ht'] at d0 d1 d2 d3 TQ
    have HT:=LH ht
    have HT':=LH ht'
    obtain ⟨q,hq⟩:∃ q,q=sameT t t':=⟨_,rfl⟩
    have HQS:=LH hq
    clear hat hat' hTT hTT' ht ht' hq
    cases q
    all_goals
     go_wp2_with fail
     refine Calls.mono (topSame_q ?_ ?_ HQS.out) ?_
     ·exact T.out.below (by repeat (first|with_reducible (first|exact Below.refl _ _|apply Below.drew|apply below_alloc)|((first|with_reducible refine Below.alloc ?_ ?_ _|with_reducible refine Below.setCell ?_ ?_ _);rotate_left;focus (first|(simp <;> omega)|omega))))
     ·exact TQ.out.below (by repeat (first|with_reducible (first|exact Below.refl _ _|apply Below.drew|apply below_alloc)|((first|with_reducible refine Below.alloc ?_ ?_ _|with_reducible refine Below.setCell ?_ ?_ _);rotate_left;focus (first|(simp <;> omega)|omega))))
     rintro e w4 ⟨rfl,hb⟩
     replace HB:Hid (Below w.heap.size w _):=below_step (by repeat (first|with_reducible (first|exact HB.out|exact Below.refl _ _|apply Below.drew|apply below_alloc)|((first|with_reducible refine Below.alloc ?_ ?_ _|with_reducible refine Below.setCell ?_ ?_ _);rotate_left;focus (first|(simp <;> omega)|omega)))) hb
     clear hb c0 c1 c2 c3 d0 d1 d2 d3
     go_wp2_with fail
    ·go_ret
     have e:z=false:=by
      cases hzz:z with
      |false=>rfl
      |true =>
       have h0:=HQS.out
       rw [HT.out,HT'.out,HZ.out.1 hzz,(sameT_iff _ _).2 rfl] at h0
       cases h0
     exact ⟨by rw [e];rfl,HB.out⟩
    ·go_roundg (n - (k+1))
     case measure=>omega
     case rel =>
      refine ⟨k+1,by omega,rfl,by go_num,fun j hj=>?_,HB⟩
      by_cases hjk:j < k
      ·exact hall.out j hjk
      ·obtain rfl:j=k:=by omega
       rw [← HT.out,← HT'.out]
       exact (sameT_iff _ _).1 HQS.out.symm
   ·obtain rfl:k=n:=by omega
    have hlt':¬ (k:Int) < (k:Int):=by omega
    go_wp2_with fail
    go_ret
    have e:z=true:=HZ.out.2 (tops_ext (by rw [← HN.out,HN'.out]) (by rw [← HN.out];exact hall.out))
    exact ⟨by rw [e];rfl,HB.out⟩
 ·have hd:((n:Int) != (n':Int))=true:=by simp;omega
  have HNE:=LH hnn
  clear hnn
  go_enter Tryz.func39,Tryz.ntmps39
  go_wp2_with fail
  go_ret
  have e:z=false:=by
   cases hzz:z with
   |false=>rfl
   |true=>exact absurd (by rw [HN.out,HN'.out,HZ.out.1 hzz]) HNE.out
  exact ⟨by rw [e];rfl,Below.refl _ _⟩
open Classical in
theorem strSame_any {v v':Value} {s s':Str} {w:World} {z:Bool} (h:StrR w v s) (h':StrR w v' s') (hz:z=true↔s=s') :
  Calls Tryz.prog 16 #[v,v'] w fun e w'=>e=.returned (.bool z)∧Below w.heap.size w w':=by
 have HZ:=LH hz
 obtain ⟨a,cap,b,nc,cc,rfl,hT,hR⟩:=h.shape
 obtain ⟨a',cap',b',nc',cc',rfl,hT',hR'⟩:=h'.shape
 obtain ⟨q,hq⟩:∃ q:Bool,q=true↔s.tops=s'.tops:=⟨decide (s.tops=s'.tops),by simp⟩
 obtain ⟨d,hd⟩:∃ d,d=decide (s.coms=s'.coms):=⟨_,rfl⟩
 have HQT:=LH hq.1
 have HQF:=LH (show s.tops=s'.tops→q=true from hq.2)
 have HE:=LH (fun W (hW:TopsR W (.slice a s.tops.length cap) s.tops) (hW':TopsR W (.slice a' s'.tops.length cap') s'.tops)=>eqTop_any hW hW' hq)
 have HDD:=LH hd
 have M:=fun W (hW:RowsR W (.slice b nc cc) s.coms) (hW':RowsR W (.slice b' nc' cc') s'.coms)=>same_any hW hW'
 rw [← hd] at M
 have HM:=LH M
 have TT:=LH hT
 have TT':=LH hT'
 have RR:=LH hR
 have RR':=LH hR'
 obtain ⟨n,hn⟩:∃ n,n=s.tops.length:=⟨_,rfl⟩
 obtain ⟨n',hn'⟩:∃ n,n=s'.tops.length:=⟨_,rfl⟩
 rw [← hn] at TT HE ⊢
 rw [← hn'] at TT' HE ⊢
 clear M hd hz hT hT' hR hR' hq hn hn' h h'
 cases q
 ·go_enter Tryz.func16,Tryz.ntmps16
  go_wp2_with fail
  refine Calls.mono (HE.out _ ?_ ?_) ?_
  ·exact TT.out.below (by repeat (first|with_reducible (first|exact Below.refl _ _|apply Below.drew|apply below_alloc)|((first|with_reducible refine Below.alloc ?_ ?_ _|with_reducible refine Below.setCell ?_ ?_ _);rotate_left;focus (first|(simp <;> omega)|omega))))
  ·exact TT'.out.below (by repeat (first|with_reducible (first|exact Below.refl _ _|apply Below.drew|apply below_alloc)|((first|with_reducible refine Below.alloc ?_ ?_ _|with_reducible refine Below.setCell ?_ ?_ _);rotate_left;focus (first|(simp <;> omega)|omega))))
  rintro e w1 ⟨rfl,hb⟩
  have HB:Hid (Below w.heap.size w _):=below_step (by repeat (first|with_reducible (first|exact Below.refl _ _|apply Below.drew|apply below_alloc)|((first|with_reducible refine Below.alloc ?_ ?_ _|with_reducible refine Below.setCell ?_ ?_ _);rotate_left;focus (first|(simp <;> omega)|omega)))) hb
  clear hb
  go_wp2_with fail
  go_ret
  have e:z=false:=by
   cases hzz:z with
   |false=>rfl
   |true=>have:=HQF.out (str_ext.1 (HZ.out.1 hzz)).1;simp at this
  exact ⟨by rw [e];rfl,HB.out⟩
 ·cases d
  all_goals
   go_enter Tryz.func16,Tryz.ntmps16
   go_wp2_with fail
   refine Calls.mono (HE.out _ ?_ ?_) ?_
   ·exact TT.out.below (by repeat (first|with_reducible (first|exact Below.refl _ _|apply Below.drew|apply below_alloc)|((first|with_reducible refine Below.alloc ?_ ?_ _|with_reducible refine Below.setCell ?_ ?_ _);rotate_left;focus (first|(simp <;> omega)|omega))))
   ·exact TT'.out.below (by repeat (first|with_reducible (first|exact Below.refl _ _|apply Below.drew|apply below_alloc)|((first|with_reducible refine Below.alloc ?_ ?_ _|with_reducible refine Below.setCell ?_ ?_ _);rotate_left;focus (first|(simp <;> omega)|omega))))
   rintro e w1 ⟨rfl,hb⟩
   have HB:Hid (Below w.heap.size w _):=below_step (by repeat (first|with_reducible (first|exact Below.refl _ _|apply Below.drew|apply below_alloc)|((first|with_reducible refine Below.alloc ?_ ?_ _|with_reducible refine Below.setCell ?_ ?_ _);rotate_left;focus (first|(simp <;> omega)|omega)))) hb
   have P:Blk _ (w.heap.size) _ _:=Blk.step (by repeat (first|((with_reducible apply Blk.new);focus (first|rfl|(simp <;> omega)))|with_reducible (first|apply Blk.drew|apply Blk.alloc|apply Blk.set_)|((with_reducible apply Blk.far);rotate_left;focus (first|(simp <;> omega)|omega)))) hb
   obtain ⟨p0,p1,pz⟩:=cells2 P
   have pl:=Blk.lt P
   have HP:=LH P
   clear P
   have Q2:Blk _ (w.heap.size+1) _ _:=Blk.step (by repeat (first|((with_reducible apply Blk.new);focus (first|rfl|(simp <;> omega)))|with_reducible (first|apply Blk.drew|apply Blk.alloc|apply Blk.set_)|((with_reducible apply Blk.far);rotate_left;focus (first|(simp <;> omega)|omega)))) hb
   obtain ⟨q20,q21,q2z⟩:=cells2 Q2
   have q2l:=Blk.lt Q2
   have HQ2:=LH Q2
   clear Q2
   clear hb
   go_wp2_with fail
   refine Calls.mono (HM.out _ ?_ ?_) ?_
   ·exact RR.out.below HB.out
   ·exact RR'.out.below HB.out
   rintro e w2 ⟨rfl,hb⟩
   replace HB:Hid (Below w.heap.size w _):=below_step (by repeat (first|with_reducible (first|exact HB.out|exact Below.refl _ _|apply Below.drew|apply below_alloc)|((first|with_reducible refine Below.alloc ?_ ?_ _|with_reducible refine Below.setCell ?_ ?_ _);rotate_left;focus (first|(simp <;> omega)|omega)))) hb
   clear hb
   go_wp2_with fail
   go_ret
  ·have e:z=false:=by
    cases hzz:z with
    |false=>rfl
    |true=>exact absurd (str_ext.1 (HZ.out.1 hzz)).2 (of_decide_eq_false HDD.out.symm)
   exact ⟨by rw [e];rfl,HB.out⟩
  ·have e:z=true:=HZ.out.2 (str_ext.2 ⟨HQT.out (by trivial),of_decide_eq_true HDD.out.symm⟩)
   exact ⟨by rw [e];rfl,HB.out⟩
end Go.Proofs.YtdfmcgekfogpbabGreatDoor
