/-
  Proved here: slices.Delete of one that waits, from an own row. Condition: it is the slices.Insert of one that waits, into an own row. Condition: the place commits.asked, commits.Get, commits.Set. No condition but that the sli commits.New. No condition. Plain laws of commits; the chapter's first examples. No condition. Plain: what is left when a topic is compacted. No program in sight.
-/
import Derived.Test.YtkkohllhebdlcaaGreatDoorY04
import Derived.Test.YtkkohllhebdlcaaGreatDoorY06
import Derived.Test.YtkkohllhebdlcaaGreatDoorY07
import Derived.Deep.RegionLaw
import Derived.Shelf.RegionOpenPlain
import Derived.Lib.Overlaps
import Derived.Lib.AppendZerosOnto
import Derived.Lib.Walk
import Derived.Laws.Externs
import Derived.Laws.OwnMore
set_option maxRecDepth 100000
namespace Go.Proofs.YtkkohllhebdlcaaGreatDoor
open Go.RowKit
theorem info_wait:(Tryz.prog.info? 65).map (fun i=>(i.zero,i.size,i.bytes))=some (some (.agg #[.int .i64 0,.slice none 0 0,.int .i64 0,.string ByteArray.empty,.string ByteArray.empty,.int .i64 0,.bool false]),7,88):=by kernel_rfl
theorem zero_wait:∀ w,(zeroValue 65).run Tryz.prog w=.ok (.agg #[.int .i64 0,.slice none 0 0,.int .i64 0,.string ByteArray.empty,.string ByteArray.empty,.int .i64 0,.bool false]) w:=fun w=>by
 obtain ⟨i0,hi,hz0,hz1,hz2⟩:=info_parts info_wait
 simp [zeroValue,typeInfo,hi,hz0]
def DelEnd (B g n cap:Nat) (xs:List Value) (w:World) (e:Ending) (w':World):Prop :=
 e=.returned (.slice (some ⟨g,0,none⟩) (n - 1) cap)∧w'.ownsRow B 65 7 (.slice (some ⟨g,0,none⟩) (n - 1) cap) (n - 1) xs∧w.grownBy w' (some g)
set_option maxHeartbeats 8000000 in
set_option maxRecDepth 100000 in
theorem del_any {B g n cap k:Nat} {xs ys:List Value} {w:World} (h:w.ownsRow B 65 7 (.slice (some ⟨g,0,none⟩) n cap) n xs) (h1:∀ v∈xs,v.oneCell'=true) (hk:k < n) (hy:ys=xs.take (k * 7)++xs.drop ((k+1) * 7)) :
  Calls Tryz.prog 88 #[.slice (some ⟨g,0,none⟩) n cap,.int .i64 (k:Int),.int .i64 ((k:Int)+1)] w (DelEnd B g n cap ys w):=by
 obtain ⟨i0,hi,hz0,hz1,hz2⟩:=info_parts info_wait
 obtain ⟨hxl,h|⟨g',cap',cur,hv,hB,hg,hnc,hcm,hcs,hct⟩⟩:=h
 ·cases h.1
 ·obtain ⟨rfl,rfl⟩:g=g'∧cap=cap':=by simpa using hv
  clear hv
  obtain ⟨L,rfl⟩:∃ L:List Value,cur=L.toArray:=⟨cur.toList,by simp⟩
  simp only [List.size_toArray] at hcs hct
  unfold maxLen at hcm
  obtain ⟨news,hnews⟩:∃ news,news=xs.drop ((k+1) * 7):=⟨_,rfl⟩
  have hlen:news.length=(n - (k+1)) * 7:=by rw [hnews,List.length_drop,hxl];omega
  have hL:∀ j,j < n * 7→L[j]?=xs[j]?:=fun j hj=>by rw [← hct,List.getElem?_take,if_pos hj]
  have hcell:∀ j,w.cell? ⟨g,j,none⟩=L[j]?:=fun j=>by simp [World.cell?,hg]
  have hlt:g < w.heap.size:=(Array.getElem?_eq_some_iff.1 hg).1
  -- the cells that are moved
  obtain ⟨A,hA,hsrc⟩:∃ A:Addr,(if cap=k+1 then some (⟨g,0,none⟩:Addr) else some ⟨g,(k+1) * 7,none⟩)=some A∧Hid (∀ t u,news[t]?=some u→w.drew.cell? (A.add t)=some u):=by
   by_cases hc:cap=k+1
   ·refine ⟨⟨g,0,none⟩,by simp [hc],fun t u hu=>?_⟩
    have h0:news.length=0:=by rw [hlen];omega
    rw [List.length_eq_zero_iff.1 h0] at hu
    simp at hu
   ·refine ⟨⟨g,(k+1) * 7,none⟩,by simp [hc],fun t u hu=>?_⟩
    have ht:t < (n - (k+1)) * 7:=by
     have:=(List.getElem?_eq_some_iff.1 hu).1
     rwa [hlen] at this
    rw [Addr.add_lit]
    show w.cell? _=_
    rw [hcell,hL _ (by omega),← hu,hnews,List.getElem?_drop]
  have s1:Hid (news.length=(n - (k+1)) * 7):=hlen
  have s2:Hid (∀ u∈news,u.oneCell'=true):=fun u hu=>h1 u (by rw [hnews] at hu;exact List.mem_of_mem_drop hu)
  have s3:Hid (∀ t,t < news.length→(w.drew.cell? ⟨g,0+k * 7+t,none⟩).isSome=true∧w.drew.frozen? ⟨g,0+k * 7+t,none⟩=false):=by
   intro t ht
   rw [hlen] at ht
   refine ⟨?_,by show w.frozen? _=false;simp [World.frozen?,hg]⟩
   show (w.cell? _).isSome=true
   rw [hcell,List.getElem?_eq_getElem (by omega)]
   rfl
  obtain ⟨L1,hL1⟩:∃ L1,L1=over L (k * 7) news:=⟨_,rfl⟩
  have hl1:L1.length=L.length:=by rw [hL1];exact over_len (by rw [hlen,hcs];omega)
  have e1:w.drew.setCells g (0+k * 7) news=w.drew.setRow g L1.toArray:=by
   rw [Nat.zero_add,hL1]
   exact setCells_row g 65 news (k * 7) L w.drew hg (by rw [hlen,hcs];omega)
  obtain ⟨W1,hW1⟩:∃ W1,W1=w.drew.setRow g L1.toArray:=⟨_,rfl⟩
  have hg1:W1.heap[g]?=some (.cells L1.toArray 65 (0,0)):=by rw [hW1];exact setRow_heap w.drew g _ _ _ _ hg
  obtain ⟨zs,hzl,hcl⟩:=run_clear_rowS (P:=Tryz.prog) W1 29 65 0 _ 7 g ((n - 1) * 7) 1 (cap - (n - 1)) L1 65 Tryz.underlying29 zero_wait rfl (by decide) (by omega) hg1 (by rw [hl1,hcs];omega)
  have hcl2:∀ ty c,(Builtin.clear_ #[29] ty #[.slice (some ⟨g,(n - 1) * 7,none⟩) 1 c]).run Tryz.prog W1=.ok (.tuple #[]) (W1.setRow g (over L1 ((n - 1) * 7) zs).toArray):=fun ty c=>hcl
  have hfin:Hid (∀ W2,W2=W1.setRow g (over L1 ((n - 1) * 7) zs).toArray→W2.ownsRow B 65 7 (.slice (some ⟨g,0,none⟩) (n - 1) cap) (n - 1) ys∧w.grownBy W2 (some g)):=by
   rintro W2 rfl
   refine ⟨⟨?_,Or.inr ⟨g,cap,_,rfl,hB,setRow_heap W1 g _ _ _ _ hg1,by omega,by unfold maxLen;omega,?_,?_⟩⟩,?_⟩
   ·rw [hy,List.length_append,List.length_take,List.length_drop,hxl];omega
   ·rw [List.size_toArray,over_len (by rw [hzl,hl1,hcs];omega),hl1,hcs]
   ·rw [List.toList_toArray,over_take (Nat.le_refl _) (by rw [hl1,hcs];omega),hL1,show (n - 1) * 7=k * 7+news.length by rw [hlen];omega,over_take_through (by rw [hcs];omega),hy,hnews]
    congr 1
    apply List.ext_getElem?
    intro j
    rw [List.getElem?_take,List.getElem?_take]
    split
    ·exact hL _ (by omega)
    ·rfl
   ·rw [hW1]
    exact grownBy_trans' (w':=w.drew) ⟨rfl,rfl,rfl,Nat.le_refl _,fun _ _ _=>rfl⟩ (grownBy_trans' (grownBy_setRow _ _ _) (grownBy_setRow _ _ _))
  have hW:Hid (w.drew.setCells g (0+k * 7) news=W1):=by rw [e1,hW1];exact LH rfl
  have k0:(0:Int)≤(k:Int):=by omega
  have k1:(k:Int)+1≤(n:Int):=by omega
  have k2:((k:Int)+1).toNat=k+1:=by omega
  have k4:(0:Int)≤(k:Int)+1:=by omega
  have k5:k+(n - (k+1))=n - 1:=by omega
  have k3:(k:Int)≤(k:Int)+1:=by omega
  have hic:k≤cap:=by omega
  have hjc:k+1≤cap:=by omega
  have hne:¬ (k:Int)=(k:Int)+1:=by omega
  clear hL hcell hnews hlen e1 hW1 hg1 hzl hcl hL1 hl1 hcs hct hg hy h1 hxl
  go_enter Tryz.func88,Tryz.ntmps88
  go_wp2_with fail
  go_region_law (refine step_append_room rfl (.tmp 22) (.tmp 25) 29 rfl 65 i0 7 Tryz.underlying29 hi hz1 g 0 k cap (by simp [Act.eval,Act.put]) A (n - (k+1)) (cap - (k+1)) news (by simp [Act.eval,Act.put]) s1.out hsrc.out s2.out (by omega) s3.out ?_;rw [hW.out,k5])
  obtain ⟨m,hm⟩:∃ m,n=m+1:=⟨n - 1,by omega⟩
  subst hm
  rw [Nat.add_sub_cancel] at hcl2 hfin ⊢
  have m1:(m:Int)≤(m:Int)+1:=by omega
  have m2:((m:Int)+1)≤(cap:Int):=by omega
  have m3:¬ cap=m:=by omega
  have m4:m+1 - m=1:=by omega
  have m5:(0:Int)≤(m:Int)+1:=by omega
  have m6:((m:Int)+1).toNat=m+1:=by omega
  clear k5
  go_wp2
  obtain ⟨f1,f2⟩:=hfin.out _ rfl
  go_ret
  exact ⟨rfl,f1,f2⟩
def InsEnd (B n:Nat) (v:Value) (ys:List Value) (w:World) (e:Ending) (w':World):Prop :=
 ∃ v',e=.returned v'∧w'.ownsRow B 65 7 v' (n+1) ys∧w.grownBy w' v.ownBlock
theorem size_wait:∀ w,(Go.sizeOf 65).run Tryz.prog w=.ok 7 w:=fun w=>by
 obtain ⟨i0,hi,hz0,hz1,hz2⟩:=info_parts info_wait
 simp [Go.sizeOf,typeInfo,hi,hz1]
set_option maxHeartbeats 8000000 in
set_option maxRecDepth 100000 in
theorem ins_shift {B g n cap i vb:Nat} {tv:TypeId} {xs vs ys:List Value} {w:World} (h:w.ownsRow B 65 7 (.slice (some ⟨g,0,none⟩) n cap) n xs) (h1:∀ v∈xs,v.oneCell'=true)
  (hb:Blk w vb tv vs) (hvl:vs.length=7) (h1v:∀ v∈vs,v.oneCell'=true) (hne:vb≠g) (hi:i < n) (hroom:n+1≤cap) (hy:ys=putIn xs (i * 7) vs) :
  Calls Tryz.prog 87 #[.slice (some ⟨g,0,none⟩) n cap,.int .i64 (i:Int),.slice (some ⟨vb,0,none⟩) 1 1] w (InsEnd B n (.slice (some ⟨g,0,none⟩) n cap) ys w):=by
 obtain ⟨i0,hi0,hz0,hz1,hz2⟩:=info_parts info_wait
 obtain ⟨hxl,h|⟨g',cap',cur,hv,hB,hg,hnc,hcm,hcs,hct⟩⟩:=h
 ·cases h.1
 ·obtain ⟨rfl,rfl⟩:g=g'∧cap=cap':=by simpa using hv
  clear hv
  obtain ⟨L,rfl⟩:∃ L:List Value,cur=L.toArray:=⟨cur.toList,by simp⟩
  simp only [List.size_toArray] at hcs hct
  unfold maxLen at hcm
  have hL:∀ j,j < n * 7→L[j]?=xs[j]?:=fun j hj=>by rw [← hct,List.getElem?_take,if_pos hj]
  have hcell:∀ j,w.cell? ⟨g,j,none⟩=L[j]?:=fun j=>by simp [World.cell?,hg]
  have hsz:(Tryz.prog.info? 65).map (·.size)=some 7:=by rw [hi0];simp [hz1]
  have hsa:w.shape? vb=some (tv,7):=by
   unfold Blk at hb
   simp [World.shape?,hb,hvl]
  have hsb:w.shape? g=some (65,cap * 7):=by simp [World.shape?,hg,hcs]
  have hov:∀ lb cb,(callFunc 113 #[.slice (some ⟨vb,0,none⟩) 1 1,.slice (some ⟨g,(i+1) * 7,none⟩) lb cb]).run Tryz.prog w=.ok (.value (.bool false)) w:=fun lb cb=>by
   rw [run_callFunc_extern Tryz.func113 (by kernel_rfl) (by kernel_rfl) (by kernel_rfl) (e:=Extern.SlicesOverlaps.overlaps #[29,29] #[4]) (by kernel_rfl),
    Lib.run_overlaps_apart w 29 4 65 Tryz.underlying29 7 size_wait ⟨vb,0,none⟩ ⟨g,(i+1) * 7,none⟩ 1 1 lb cb hne tv 65 7 (cap * 7) hsa hsb (by omega) (hb.free _) (hb.free _)]
   rfl
  have hdl:(xs.drop (i * 7)).length=(n - i) * 7:=by rw [List.length_drop,hxl];omega
  obtain ⟨L1,hL1⟩:∃ L1,L1=over L ((i+1) * 7) (xs.drop (i * 7)):=⟨_,rfl⟩
  have hl1:L1.length=cap * 7:=by rw [hL1,over_len (by rw [hdl,hcs];omega),hcs]
  obtain ⟨W1,hW1⟩:∃ W1,W1=w.drew.setRow g L1.toArray:=⟨_,rfl⟩
  have hcp1:Hid (∀ ty dc sc,(Builtin.copy_ #[29,29] ty #[.slice (some ⟨g,(i+1) * 7,none⟩) (n - i) dc,.slice (some ⟨g,i * 7,none⟩) (n+1 - i) sc]).run Tryz.prog w.drew=.ok (goInt (n - i:Nat)) W1):=fun ty dc sc=>by
   have hmin:Nat.min (n+1 - i) (n - i)=n - i:=by simp only [Nat.min_def];split <;> omega
   have:=run_copy_rowS (P:=Tryz.prog) w.drew 29 29 ty 65 7 g ((i+1) * 7) (n - i) dc ⟨g,i * 7,none⟩ (n+1 - i) sc L 65 (xs.drop (i * 7)) Tryz.underlying29 hsz hg (by rw [hdl,hmin])
    (fun j v hj=>by
     have hjl:j < (n - i) * 7:=by rw [← hdl];exact (List.getElem?_eq_some_iff.1 hj).1
     rw [Addr.add_lit]
     show w.cell? _=_
     rw [hcell,hL _ (by omega),← hj,List.getElem?_drop])
    (by rw [hdl,hcs];omega) (fun v hv=>h1 v (List.mem_of_mem_drop hv))
   rw [hmin,← hL1,← hW1] at this
   exact this
  have hg1:W1.heap[g]?=some (.cells L1.toArray 65 (0,0)):=by rw [hW1];exact setRow_heap w.drew g _ _ _ _ hg
  obtain ⟨W2,hW2⟩:∃ W2,W2=W1.setRow g (over L1 (i * 7) vs).toArray:=⟨_,rfl⟩
  have hb1:Blk W1 vb tv vs:=by rw [hW1];exact (setRow_other w.drew g vb _ hne).trans hb
  have hcp2:∀ ty dc,(Builtin.copy_ #[29,29] ty #[.slice (some ⟨g,i * 7,none⟩) (n+1 - i) dc,.slice (some ⟨vb,0,none⟩) 1 1]).run Tryz.prog W1=.ok (goInt (1:Nat)) W2:=fun ty dc=>by
   have hmin:Nat.min 1 (n+1 - i)=1:=by simp only [Nat.min_def];split <;> omega
   have:=run_copy_rowS (P:=Tryz.prog) W1 29 29 ty 65 7 g (i * 7) (n+1 - i) dc ⟨vb,0,none⟩ 1 1 L1 65 vs Tryz.underlying29 hsz hg1 (by rw [hvl,hmin])
    (fun j v hj=>by rw [Addr.add_lit,hb1.cell,Nat.zero_add];exact hj)
    (by rw [hvl,hl1];omega) h1v
   rw [hmin,← hW2] at this
   exact this
  have hfin:Hid (W2.ownsRow B 65 7 (.slice (some ⟨g,0,none⟩) (n+1) cap) (n+1) ys∧w.grownBy W2 (some g)):=by
   refine ⟨⟨?_,Or.inr ⟨g,cap,_,rfl,hB,(by rw [hW2];exact setRow_heap W1 g _ _ _ _ hg1),by omega,by unfold maxLen;omega,?_,?_⟩⟩,?_⟩
   ·rw [hy,putIn_len (by rw [hxl];omega),hxl,hvl];omega
   ·rw [List.size_toArray,over_len (by rw [hvl,hl1];omega),hl1]
   ·rw [List.toList_toArray,hL1,show (n+1) * 7=xs.length+7 by rw [hxl];omega,show (i+1) * 7=i * 7+7 by omega,hy]
    exact shift_take (by rw [hxl];omega) hvl (by rw [hxl,hcs];omega) (fun j hj=>hL j (by rw [hxl] at hj;exact hj))
   ·rw [hW2,hW1]
    exact grownBy_trans' (w':=w.drew) ⟨rfl,rfl,rfl,Nat.le_refl _,fun _ _ _=>rfl⟩ (grownBy_trans' (grownBy_setRow _ _ _) (grownBy_setRow _ _ _))
  have k1:(i:Int)≤(n:Int):=by omega
  have k2:(0:Int)≤(i:Int)+1:=by omega
  have k3:((i:Int)+1).toNat=i+1:=by omega
  have k4:¬ cap=i+1:=by omega
  have k5:¬ cap=i:=by omega
  have k6:(i:Int)+1≤(n:Int)+1:=by omega
  have k7:¬ (i:Int)=(n:Int):=by omega
  have k8:(n:Int)+1≤(cap:Int):=by omega
  have k9:(i:Int)≤(n:Int)+1:=by omega
  have k10:(0:Int)≤(n:Int)+1:=by omega
  have k11:((n:Int)+1).toNat=n+1:=by omega
  have hw1:IntKind.i64.wrap ((i:Int)+1)=(i:Int)+1:=by rw [IntKind.wrap_i64];omega
  clear hL hcell hsz hsa hsb hdl hL1 hl1 hW1 hg1 hW2 hb1 hb hvl h1v hcs hct hg hy h1 hxl
  go_enter Tryz.func87,Tryz.ntmps87
  go_wp2_with (simp only [hov])
  go_region_law (refine step_copy_runS rfl _ _ 29 29 rfl (.slice (some ⟨g,(i+1) * 7,none⟩) (n - i) (cap - (i+1))) (.slice (some ⟨g,i * 7,none⟩) (n+1 - i) (cap - i)) (by simp [Act.eval,Act.put]) (by simp [Act.eval,Act.put]) (hcp1.out _ _ _) ?_)
  go_wp2_with (at_builtin;refine wpList_copy_runS _ rfl _ _ 29 29 rfl _ _ rfl rfl (hcp2 _ _) ?_)
  obtain ⟨f1,f2⟩:=hfin.out
  go_ret
  exact ⟨_,rfl,f1,f2⟩
set_option maxHeartbeats 8000000 in
set_option maxRecDepth 100000 in
theorem ins_grow {B g n cap i vb:Nat} {tv:TypeId} {xs vs ys:List Value} {w:World} (h:w.ownsRow B 65 7 (.slice (some ⟨g,0,none⟩) n cap) n xs) (h1:∀ v∈xs,v.oneCell'=true)
  (hb:Blk w vb tv vs) (hvl:vs.length=7) (h1v:∀ v∈vs,v.oneCell'=true) (hi:i < n) (hroom:cap < n+1) (hsm:n≤1000000) (hBw:B≤w.heap.size) (hy:ys=putIn xs (i * 7) vs) :
  Calls Tryz.prog 87 #[.slice (some ⟨g,0,none⟩) n cap,.int .i64 (i:Int),.slice (some ⟨vb,0,none⟩) 1 1] w (InsEnd B n (.slice (some ⟨g,0,none⟩) n cap) ys w):=by
 obtain ⟨i0,hi0,hz0,hz1,hz2⟩:=info_parts info_wait
 obtain ⟨hxl,h|⟨g',cap',cur,hv,hB,hg,hnc,hcm,hcs,hct⟩⟩:=h
 ·cases h.1
 ·obtain ⟨rfl,rfl⟩:g=g'∧cap=cap':=by simpa using hv
  clear hv
  obtain ⟨L,rfl⟩:∃ L:List Value,cur=L.toArray:=⟨cur.toList,by simp⟩
  simp only [List.size_toArray] at hcs hct
  unfold maxLen at hcm
  have hL:∀ j,j < n * 7→L[j]?=xs[j]?:=fun j hj=>by rw [← hct,List.getElem?_take,if_pos hj]
  have hcell:∀ j,w.cell? ⟨g,j,none⟩=L[j]?:=fun j=>by simp [World.cell?,hg]
  have hlt:g < w.heap.size:=(Array.getElem?_eq_some_iff.1 hg).1
  have hblt:vb < w.heap.size:=hb.lt
  have hsz:(Tryz.prog.info? 65).map (·.size)=some 7:=by rw [hi0];simp [hz1]
  have hkk:(n:Int)+1 - (i:Int)=((n+1 - i:Nat):Int):=by omega
  have hik:i+(n+1 - i)=n+1:=by omega
  obtain ⟨G,hG⟩:∃ G,G=grownCap w (n+1) cap 65:=⟨_,rfl⟩
  have hGn:n+1≤G:=by rw [hG];exact grownCap_ge w _ _ _
  have hG63:G≤9223372036854775807:=by
   have:=grownCap_le_maxLen w (n+1) cap 65 (by unfold maxLen;omega)
   rw [← hG] at this
   unfold maxLen at this
   omega
  have htl:(xs.take (i * 7)).length=i * 7:=by rw [List.length_take,hxl];omega
  have hold:(Builtin.firstCells i0.size i (.slice (some ⟨g,0,none⟩) i cap)).run Tryz.prog w.drew=.ok (xs.take (i * 7)).toArray w.drew:=by
   rw [hz1]
   exact run_firstCells_some w.drew 7 i ⟨g,0,none⟩ i cap (xs.take (i * 7)) htl (fun j v hj=>by
    have hjl:j < i * 7:=by rw [← htl];exact (List.getElem?_eq_some_iff.1 hj).1
    rw [Addr.add_lit]
    show w.cell? _=_
    rw [hcell,Nat.zero_add,hL _ (by omega),← hj,List.getElem?_take,if_pos hjl])
  obtain ⟨z,hzz⟩:∃ z:Value,z=.agg #[.int .i64 0,.slice none 0 0,.int .i64 0,.string ByteArray.empty,.string ByteArray.empty,.int .i64 0,.bool false]:=⟨_,rfl⟩
  rw [← hzz] at hz0
  have hzs:z.cells.size=7:=by rw [hzz];rfl
  obtain ⟨R,hR⟩:∃ R:List Value,R.toArray=(xs.take (i * 7)).toArray++Builtin.zeroCells z.cells (n+1 - i)++Builtin.zeroCells z.cells (G - (n+1)):=⟨_,Array.toArray_toList⟩
  have hrz:Hid (∀ ty,(Builtin.append_ #[29,3] ty #[.slice (some ⟨g,0,none⟩) i cap,.int .i64 ((n:Int)+1 - (i:Int))]).run Tryz.prog w=.ok (.slice (some ⟨w.heap.size,0,none⟩) (n+1) G) (w.drew.alloc (.cells R.toArray 65))):=fun ty=>by
   have h:=Lib.run_append_grow_zeros w 29 3 ty 65 i0 _ .i64 .i64 Tryz.underlying29 Tryz.underlying3 hi0 hz0 (some ⟨g,0,none⟩) i cap (xs.take (i * 7)) hold (n+1 - i) (by omega) (by omega) (by omega) (by omega) (by rw [hz2];omega) (by rw [hz2,hik];exact growslice_fits hroom (by omega))
   rw [hik,← hG,← hR] at h
   rw [hkk]
   exact h
  have hRl:R.length=G * 7:=by
   have:=congrArg Array.size hR
   simp only [List.size_toArray,Array.size_append,Builtin.zeroCells,hzs,Array.size_map,Array.size_range,htl] at this
   omega
  have hRx:∀ j,j < i * 7→R[j]?=xs[j]?:=fun j hj=>by
   have:=congrArg (fun A:Array Value=>A[j]?) hR
   simp only [List.getElem?_toArray] at this
   rw [this,Array.append_assoc,Array.getElem?_append,if_pos (by simpa [htl] using hj),List.getElem?_toArray,List.getElem?_take,if_pos hj]
  clear hR hold hkk hik hG hi0 hz0 hz1 hz2 hzz hzs
  obtain ⟨N,hN⟩:∃ N,N=w.heap.size:=⟨_,rfl⟩
  obtain ⟨W1,hW1⟩:∃ W1,W1=w.drew.alloc (.cells R.toArray 65):=⟨_,rfl⟩
  rw [← hN,← hW1] at hrz
  have hN1:W1.heap[N]?=some (.cells R.toArray 65 (0,0)):=by rw [hW1,hN];show (w.heap.push _)[w.heap.size]?=_;simp
  have hOld:∀ k,k < N→W1.heap[k]?=w.heap[k]?:=fun k hk=>by rw [hW1];show (w.heap.push _)[k]?=_;rw [Array.getElem?_push_lt (by omega),Array.getElem?_eq_getElem (by omega)]
  have hb1:Blk W1 vb tv vs:=(hOld vb (by omega)).trans hb
  have hg1:W1.heap[g]?=some (.cells L.toArray 65 (0,0)):=(hOld g (by omega)).trans hg
  obtain ⟨W2,hW2⟩:∃ W2,W2=W1.setRow N (over R (i * 7) vs).toArray:=⟨_,rfl⟩
  have hcpA:∀ ty dc,(Builtin.copy_ #[29,29] ty #[.slice (some ⟨N,i * 7,none⟩) (n+1 - i) dc,.slice (some ⟨vb,0,none⟩) 1 1]).run Tryz.prog W1=.ok (goInt (1:Nat)) W2:=fun ty dc=>by
   have hmin:Nat.min 1 (n+1 - i)=1:=by simp only [Nat.min_def];split <;> omega
   have:=run_copy_rowS (P:=Tryz.prog) W1 29 29 ty 65 7 N (i * 7) (n+1 - i) dc ⟨vb,0,none⟩ 1 1 R 65 vs Tryz.underlying29 hsz hN1 (by rw [hvl,hmin])
    (fun j v hj=>by rw [Addr.add_lit,hb1.cell,Nat.zero_add];exact hj)
    (by rw [hvl,hRl];omega) h1v
   rw [hmin,← hW2] at this
   exact this
  have hl2:(over R (i * 7) vs).length=G * 7:=by rw [over_len (by rw [hvl,hRl];omega),hRl]
  have hN2:W2.heap[N]?=some (.cells (over R (i * 7) vs).toArray 65 (0,0)):=by rw [hW2];exact setRow_heap W1 N _ _ _ _ hN1
  have hg2:W2.heap[g]?=some (.cells L.toArray 65 (0,0)):=by rw [hW2];exact (setRow_other W1 N g _ (by omega)).trans hg1
  obtain ⟨L2,hL2⟩:∃ L2,L2=over (over R (i * 7) vs) ((i+1) * 7) (xs.drop (i * 7)):=⟨_,rfl⟩
  have hdl:(xs.drop (i * 7)).length=(n - i) * 7:=by rw [List.length_drop,hxl];omega
  have hcpB:Hid (∀ ty dc sc,(Builtin.copy_ #[29,29] ty #[.slice (some ⟨N,(i+1) * 7,none⟩) (n - i) dc,.slice (some ⟨g,i * 7,none⟩) (n - i) sc]).run Tryz.prog W2.drew=.ok (goInt (n - i:Nat)) (W2.drew.setRow N L2.toArray)):=fun ty dc sc=>by
   have hmin:Nat.min (n - i) (n - i)=n - i:=by simp only [Nat.min_def];split <;> omega
   have:=run_copy_rowS (P:=Tryz.prog) W2.drew 29 29 ty 65 7 N ((i+1) * 7) (n - i) dc ⟨g,i * 7,none⟩ (n - i) sc (over R (i * 7) vs) 65 (xs.drop (i * 7)) Tryz.underlying29 hsz hN2 (by rw [hdl,hmin])
    (fun j v hj=>by
     have hjl:j < (n - i) * 7:=by rw [← hdl];exact (List.getElem?_eq_some_iff.1 hj).1
     rw [Addr.add_lit]
     show W2.cell? _=_
     have hc2:∀ j,W2.cell? ⟨g,j,none⟩=L[j]?:=fun j=>by simp [World.cell?,hg2]
     rw [hc2,hL _ (by omega),← hj,List.getElem?_drop])
    (by rw [hdl,hl2];omega) (fun v hv=>h1 v (List.mem_of_mem_drop hv))
   rw [hmin,← hL2] at this
   exact this
  have hfin:Hid (∀ W3,W3=W2.drew.setRow N L2.toArray→W3.ownsRow B 65 7 (.slice (some ⟨N,0,none⟩) (n+1) G) (n+1) ys∧w.grownBy W3 (some g)):=by
   rintro W3 rfl
   refine ⟨⟨?_,Or.inr ⟨N,G,_,rfl,by omega,setRow_heap W2.drew N _ _ _ _ hN2,by omega,by unfold maxLen;omega,?_,?_⟩⟩,?_⟩
   ·rw [hy,putIn_len (by rw [hxl];omega),hxl,hvl];omega
   ·rw [List.size_toArray,hL2,over_len (by rw [hdl,hl2];omega),hl2]
   ·rw [List.toList_toArray,hL2,show (n+1) * 7=xs.length+7 by rw [hxl];omega,show (i+1) * 7=i * 7+7 by omega,hy]
    exact grow_take (by rw [hxl];omega) hvl (by rw [hxl,hRl];omega) hRx
   ·refine ⟨by rw [hW2,hW1];rfl,by rw [hW2,hW1];rfl,by rw [hW2,hW1];rfl,?_,fun k hk _=>?_⟩
    ·rw [size_setRow]
     show w.heap.size≤W2.heap.size
     rw [hW2,size_setRow,hW1]
     show w.heap.size≤(w.heap.push _).size
     simp
    ·rw [setRow_other W2.drew N k _ (by omega)]
     show W2.heap[k]?=_
     rw [hW2,setRow_other W1 N k _ (by omega)]
     exact hOld k (by omega)
  have hE1:Hid ((w.drew.alloc (.cells R.toArray 65))=W1):=LH hW1.symm
  have k1:(i:Int)≤(n:Int):=by omega
  have k2:(0:Int)≤(i:Int)+1:=by omega
  have k3:((i:Int)+1).toNat=i+1:=by omega
  have k4:¬ cap=i:=by omega
  have k5:¬ G=i+1:=by omega
  have k5':¬ G=i:=by omega
  have k6:(i:Int)+1≤(n:Int)+1:=by omega
  have k7:¬ (i:Int)=(n:Int):=by omega
  have k8:(cap:Int) < (n:Int)+1:=by omega
  have k9:(i:Int)≤(n:Int)+1:=by omega
  have k12:(i:Int)≤(cap:Int):=by omega
  have hw1:IntKind.i64.wrap ((i:Int)+1)=(i:Int)+1:=by rw [IntKind.wrap_i64];omega
  have hw2:IntKind.i64.wrap ((n:Int)+1)=(n:Int)+1:=by rw [IntKind.wrap_i64];omega
  have hw3:IntKind.i64.wrap ((n:Int)+1 - (i:Int))=(n:Int)+1 - (i:Int):=by rw [IntKind.wrap_i64];omega
  clear hL hcell hsz htl hRl hRx hN1 hOld hb1 hg1 hW2 hl2 hN2 hg2 hL2 hdl hb hvl h1v hcs hct hg hy h1 hxl hW1 hN hE1
  go_enter Tryz.func87,Tryz.ntmps87
  go_wp2_with (first
   |(at_builtin;refine Lib.wpList_append_run _ rfl _ _ _ _ rfl _ _ rfl rfl _ _ (hrz.out _) ?_)
   |(at_builtin;refine wpList_copy_runS _ rfl _ _ 29 29 rfl _ _ rfl rfl (hcpA _ _) ?_))
  go_region_law (refine step_copy_runS rfl _ _ 29 29 rfl (.slice (some ⟨N,(i+1) * 7,none⟩) (n - i) (G - (i+1))) (.slice (some ⟨g,i * 7,none⟩) (n - i) (cap - i)) (by simp [Act.eval,Act.put]) (by simp [Act.eval,Act.put]) (hcpB.out _ _ _) ?_)
  go_wp2
  obtain ⟨f1,f2⟩:=hfin.out _ rfl
  go_ret
  exact ⟨_,rfl,f1,f2⟩
set_option maxHeartbeats 8000000 in
set_option maxRecDepth 100000 in
theorem ins_end {B n vb:Nat} {tv:TypeId} {v:Value} {xs vs:List Value} {w:World} (h:w.ownsRow B 65 7 v n xs)
  (hb:Blk w vb tv vs) (hvl:vs.length=7) (h1v:∀ v∈vs,v.oneCell'=true) (hsm:n≤1000000) (hBw:B≤w.heap.size) :
  Calls Tryz.prog 87 #[v,.int .i64 (n:Int),.slice (some ⟨vb,0,none⟩) 1 1] w (InsEnd B n v (xs++vs) w):=by
 obtain ⟨i0,hi0,hz0,hz1,hz2⟩:=info_parts info_wait
 have hnews:∀ j u,vs[j]?=some u→w.cell? ((⟨vb,0,none⟩:Addr).add j)=some u:=fun j u hj=>by rw [Addr.add_lit,hb.cell,Nat.zero_add];exact hj
 have hn63:n+1≤maxLen:=by unfold maxLen;omega
 have hshape:∃ a cap,v=.slice a n cap∧(a=none∨∃ g,a=some ⟨g,0,none⟩)∧n≤cap∧cap≤maxLen:=by
  rcases h.2 with ⟨rfl,h0⟩|⟨g,cp,cur,rfl,_,_,h3,h4,_⟩
  ·exact ⟨none,0,by rw [h0],Or.inl rfl,by omega,by unfold maxLen;omega⟩
  ·exact ⟨_,cp,rfl,Or.inr ⟨g,rfl⟩,h3,h4⟩
 obtain ⟨a,cap,rfl,ha,hnc,hcm⟩:=hshape
 unfold maxLen at hcm
 rcases ha with rfl|⟨g,rfl⟩
 ·go_enter Tryz.func87,Tryz.ntmps87
  go_wp2_with (at_builtin;refine wpList_append_own w rfl _ _ _ rfl B 65 i0 _ 7 88 Tryz.underlying29 hi0 hz0 hz1 hz2 rfl (by decide) _ n xs rfl h ⟨vb,0,none⟩ 1 1 vs rfl (by rw [hvl]) hnews h1v hn63 (by omega) hBw fun v' w' h2 h3 h4=>?_)
  all_goals (go_ret;exact ⟨_,rfl,h2,h3⟩)
 ·go_enter Tryz.func87,Tryz.ntmps87
  go_wp2_with (at_builtin;refine wpList_append_own w rfl _ _ _ rfl B 65 i0 _ 7 88 Tryz.underlying29 hi0 hz0 hz1 hz2 rfl (by decide) _ n xs rfl h ⟨vb,0,none⟩ 1 1 vs rfl (by rw [hvl]) hnews h1v hn63 (by omega) hBw fun v' w' h2 h3 h4=>?_)
  all_goals (go_ret;exact ⟨_,rfl,h2,h3⟩)
theorem ins_any {B n i vb:Nat} {tv:TypeId} {v:Value} {xs vs ys:List Value} {w:World} (h:w.ownsRow B 65 7 v n xs) (h1:∀ v∈xs,v.oneCell'=true)
  (hb:Blk w vb tv vs) (hvl:vs.length=7) (h1v:∀ v∈vs,v.oneCell'=true) (hne:v.ownBlock≠some vb) (hi:i≤n) (hsm:n≤1000000) (hBw:B≤w.heap.size) (hy:ys=putIn xs (i * 7) vs) :
  Calls Tryz.prog 87 #[v,.int .i64 (i:Int),.slice (some ⟨vb,0,none⟩) 1 1] w (InsEnd B n v ys w):=by
 rcases Nat.eq_or_lt_of_le hi with rfl|hlt
 ·rw [putIn_end' (by rw [h.1])] at hy
  subst hy
  exact ins_end h hb hvl h1v hsm hBw
 ·rcases h.2 with ⟨_,h0⟩|⟨g,cap,cur,rfl,_⟩
  ·omega
  ·have hne':vb≠g:=fun e=>hne (by rw [e];rfl)
   by_cases hr:n+1≤cap
   ·exact ins_shift h h1 hb hvl h1v hne' hlt hr hy
   ·exact ins_grow h h1 hb hvl h1v hlt (by omega) hsm hBw hy
end Go.Proofs.YtkkohllhebdlcaaGreatDoor
set_option maxRecDepth 100000
namespace Go.Proofs.YtkkohllhebdlcaaGreatDoor
open Go.RowKit
def inTW (t k:Int):Bool:=decide (0≤t∧t < 4∧0≤k∧k < 8)
def askC (m:List (List Int)) (t k:Int):Int:=if okC m then (if inTW t k then 0 else 2) else 8
def getC (m:List (List Int)) (t k:Int):Int:=(m.getD t.toNat []).getD k.toNat 0
def setC (m:List (List Int)) (t k n:Int):List (List Int):=m.set t.toNat ((m.getD t.toNat []).set k.toNat (max (getC m t k) n))
theorem okC_spec {m:List (List Int)} (h:okC m=true):m.length=4∧∀ r∈m,r.length=8∧∀ x∈r,0≤x∧x≤1073741824:=by
 simp only [okC,Bool.and_eq_true,decide_eq_true_eq,Bool.not_eq_true'] at h
 refine ⟨h.1,fun r hr=>?_⟩
 have h2:=List.any_eq_false.1 h.2 r hr
 simp only [rowBad,Bool.or_eq_true,decide_eq_true_eq,not_or,Bool.not_eq_true] at h2
 refine ⟨by omega,fun x hx=>?_⟩
 have h3:=List.any_eq_false.1 h2.2 x hx
 simp only [badI,Bool.or_eq_true,decide_eq_true_eq,not_or] at h3
 omega
theorem okC_few {m:List (List Int)} (h:okC m=true):few m:=by
 obtain ⟨h1,h2⟩:=okC_spec h
 exact ⟨by omega,fun r hr=>by have:=(h2 r hr).1;omega⟩
theorem asked_any {v:Value} {m:List (List Int)} (t k:Int) {w:World} (h:RowsR w v m) :
  Calls Tryz.prog 134 #[v,.int .i64 t,.int .i64 k] w fun e w'=>e=.returned (.int .i64 (askC m t k))∧Below w.heap.size w w':=by
 have K:=comCheck_any h
 obtain ⟨a,na,cap,rfl⟩:=h.shape
 cases hok:okC m
 ·simp only [hok,Bool.false_eq_true,if_false] at K
  have e:askC m t k=8:=by simp [askC,hok]
  rw [e]
  have HK:=LH K
  clear K hok e h
  go_enter Tryz.func134,Tryz.ntmps134
  go_wp2_with fail
  refine HK.out.mono ?_
  rintro e w1 ⟨rfl,hb⟩
  go_wp2_with fail
  go_ret
  exact ⟨rfl,hb⟩
 ·simp only [hok,if_true] at K
  have HK:=LH K
  by_cases hin:0≤t∧t < 4∧0≤k∧k < 8
  ·have e:askC m t k=0:=by simp [askC,hok,inTW,hin]
   rw [e]
   obtain ⟨h1,h2,h3,h4⟩:=hin
   clear K hok e h
   go_enter Tryz.func134,Tryz.ntmps134
   go_wp2_with fail
   refine HK.out.mono ?_
   rintro e w1 ⟨rfl,hb⟩
   go_wp2_with fail
   go_ret
   exact ⟨rfl,hb⟩
  ·have e:askC m t k=2:=by simp only [askC,hok,if_true,inTW,decide_eq_true_eq];rw [if_neg hin]
   rw [e]
   clear K hok e h
   by_cases h1:t < 0
   ·go_enter Tryz.func134,Tryz.ntmps134
    go_wp2_with fail
    refine HK.out.mono ?_
    rintro e w1 ⟨rfl,hb⟩
    go_wp2_with fail
    go_ret
    exact ⟨rfl,hb⟩
   ·by_cases h2:4≤t
    ·go_enter Tryz.func134,Tryz.ntmps134
     go_wp2_with fail
     refine HK.out.mono ?_
     rintro e w1 ⟨rfl,hb⟩
     go_wp2_with fail
     go_ret
     exact ⟨rfl,hb⟩
    ·by_cases h3:k < 0
     ·go_enter Tryz.func134,Tryz.ntmps134
      go_wp2_with fail
      refine HK.out.mono ?_
      rintro e w1 ⟨rfl,hb⟩
      go_wp2_with fail
      go_ret
      exact ⟨rfl,hb⟩
     ·have h4:8≤k:=by omega
      clear hin
      go_enter Tryz.func134,Tryz.ntmps134
      go_wp2_with fail
      refine HK.out.mono ?_
      rintro e w1 ⟨rfl,hb⟩
      go_wp2_with fail
      go_ret
      exact ⟨rfl,hb⟩
theorem getD_set_same {α:Type} {l:List α} {i:Nat} {x d:α} (h:i < l.length):(l.set i x).getD i d=x:=by simp [List.getD,h]
theorem getD_set_other {α:Type} {l:List α} {i j:Nat} {x d:α} (h:i≠j):(l.set i x).getD j d=l.getD j d:=by simp [List.getD,List.getElem?_set_ne h]
theorem rowVals_set (r:List Int) (i:Nat) (x:Int):rowVals (r.set i x)=(rowVals r).set i (.int .i64 x):=by simp [rowVals,List.map_set]
theorem own_cells {w:World} {base:Nat} {v:Value} {m:List (List Int)} (h:OwnC w base v m) (hok:okC m=true) {t k:Int} (h1:0≤t) (h2:t < 4) (h3:0≤k) (h4:k < 8) :
  ∃ g cap gt rcap,v=.slice (some ⟨g,0,none⟩) 4 cap∧w.cell? ⟨g,t.toNat,none⟩=some (.slice (some ⟨gt,0,none⟩) 8 rcap)∧w.cell? ⟨gt,k.toNat,none⟩=some (.int .i64 (getC m t k))∧w.frozen? ⟨gt,k.toNat,none⟩=false∧base≤gt ∧
   ∀ x,OwnC (w.setCell ⟨gt,k.toNat,none⟩ (.int .i64 x)) base v (m.set t.toNat ((m.getD t.toNat []).set k.toNat x)):=by
 obtain ⟨hl,hr⟩:=okC_spec hok
 obtain ⟨us,e1,e2,e3,e4⟩:=h
 have htl:t.toNat < m.length:=by omega
 have h8:(m.getD t.toNat []).length=8:=by
  have e:m.getD t.toNat []=m[t.toNat]:=by simp [List.getD,htl]
  rw [e]
  exact (hr _ (List.getElem_mem _)).1
 have hrow:=e3 t.toNat htl
 rw [h8] at hrow
 obtain ⟨g,cap,hv⟩:∃ g cap,v=.slice (some ⟨g,0,none⟩) us.length cap:=by
  rcases e1.2 with ⟨_,h0⟩|⟨g,cap,_,hv,_⟩
  ·omega
  ·exact ⟨g,cap,hv⟩
 obtain ⟨gt,rcap,hu⟩:∃ gt rcap,us.getD t.toNat .nilIface=.slice (some ⟨gt,0,none⟩) 8 rcap:=by
  rcases hrow.2 with ⟨_,h0⟩|⟨g,cap,_,hv,_⟩
  ·omega
  ·exact ⟨g,cap,hv⟩
 subst hv
 have c1:=e1.cellAt t.toNat (by omega)
 have c1':w.cell? ⟨g,t.toNat,none⟩=some (.slice (some ⟨gt,0,none⟩) 8 rcap):=by
  rw [c1,← hu]
  simp [List.getD,show t.toNat < us.length by omega]
 have hrow':=hrow
 rw [hu] at hrow'
 have c2:=hrow'.cellAt k.toNat (by omega)
 have c2':w.cell? ⟨gt,k.toNat,none⟩=some (.int .i64 (getC m t k)):=by
  rw [c2]
  exact rowVals_get (by omega)
 refine ⟨g,cap,gt,rcap,by rw [e2,hl],c1',c2',hrow'.frozenAt _,(hrow'.lt gt rfl).1,fun x=>?_⟩
 obtain ⟨st,_⟩:=hrow'.stored k.toNat (.int .i64 x)
 have hne:(Value.slice (some ⟨g,0,none⟩) us.length cap).ownBlock≠some gt:=by
  rcases rows_apart hrow' e1 (by decide) with h0|h0
  ·simp [Value.ownBlock] at h0
  ·simpa [Value.ownBlock] using fun e=>h0 (by simp [Value.ownBlock,e])
 refine ⟨us,ownsRow_setCell_other e1 hne _,by simpa using e2,fun i hi=>?_,fun i j hi hj hij=>e4 i j (by simpa using hi) (by simpa using hj) hij⟩
 have hi':i < m.length:=by simpa using hi
 by_cases hit:i=t.toNat
 ·subst hit
  rw [getD_set_same htl,rowVals_set,List.length_set,h8,hu]
  exact st
 ·rw [getD_set_other (fun e=>hit e.symm)]
  refine ownsRow_setCell_other (e3 i hi') ?_ _
  rcases e4 i t.toNat hi' htl hit with h0|h0
  ·rw [h0];simp
  ·rw [hu] at h0
   exact h0
def SetYes (m:List (List Int)) (t k n:Int) (w:World) (e:Ending) (w':World):Prop:=∃ v',e=.returned (.tuple #[v',.int .i64 0])∧OwnC w' w.heap.size v' (setC m t k n)∧Below w.heap.size w w'
set_option maxHeartbeats 1000000 in
theorem set_yes {v:Value} {m:List (List Int)} (t k n:Int) {w:World} (h:RowsR w v m) (hok:okC m=true) (h1:0≤t) (h2:t < 4) (h3:0≤k) (h4:k < 8) (h5:0≤n) (h6:n≤1073741824) :
  Calls Tryz.prog 120 #[v,.int .i64 t,.int .i64 k,.int .i64 n] w (SetYes m t k n w):=by
 have K:=asked_any t k h
 have e:askC m t k=0:=by simp [askC,hok,inTW,h1,h2,h3,h4]
 rw [e] at K
 have HK:=LH K
 have H0:=LH h
 have HOK:=LH hok
 obtain ⟨a,na,cap,rfl⟩:=h.shape
 clear K e hok h
 go_enter Tryz.func120,Tryz.ntmps120
 go_wp2_with fail
 refine HK.out.mono ?_
 rintro e w1 ⟨rfl,hb⟩
 go_wp2_with fail
 refine (twin_any (H0.out.below hb) (okC_few HOK.out)).mono ?_
 rintro e w2 ⟨v',rfl,hown,hb2⟩
 obtain ⟨g,cap',gt,rcap,rfl,c1,c2,c3,hbg,hst⟩:=own_cells hown HOK.out h1 h2 h3 h4
 obtain ⟨x,hx⟩:∃ x,x=getC m t k:=⟨_,rfl⟩
 rw [← hx] at c2
 have HX:=LH hx
 have HST:=LH hst
 have hbb:Below w.heap.size w w2:=hb.trans (hb2.mono hb.size)
 have hz:w.heap.size≤gt:=Nat.le_trans hb.size hbg
 clear hx hst hown
 have t1:(t:Int) < ((4:Nat):Int):=by omega
 have k1:(k:Int) < ((8:Nat):Int):=by omega
 by_cases hxn:x < n
 all_goals
  go_wp2_with fail
  refine wp_region_still_tail 15 (by kernel_rfl) (by kernel_rfl) ?_
  simp only [List.take_succ_cons,List.take_zero,List.drop_succ_cons,List.drop_zero]
  change wpStill _ _ (World.drew _) _ _ _
  repeat still_step
  refine wpStill_nil ?_
  change wpList _ _ _ _ _ (World.drew _)
  go_wp2_with fail
  go_ret2
  refine ⟨_,rfl,?_,(hbb.setCell (p:=⟨gt,k.toNat,none⟩) hz _).drew⟩
  have e:setC m t k n=m.set t.toNat ((m.getD t.toNat []).set k.toNat (max x n)):=by rw [HX.out];rfl
  rw [e]
  first
   |(rw [show max x n=n by omega];exact (HST.out n).drew.le hb.size)
   |(rw [show max x n=x by omega];exact (HST.out x).drew.le hb.size)
def newC:List (List Int):=List.replicate 4 (List.replicate 8 0)
theorem rowVals_zero:(madeCells #[Value.int .i64 0] 8).toList=rowVals (List.replicate 8 0):=by
 simp [madeCells,rowVals,List.range_succ,Array.toList_range]
def NewEnd (w:World) (e:Ending) (w':World):Prop:=∃ v',e=.returned v'∧OwnC w' w.heap.size v' newC∧Below w.heap.size w w'
set_option maxHeartbeats 1000000 in
theorem comNew_any (w:World):Calls Tryz.prog 63 #[] w (NewEnd w):=by
 obtain ⟨i0,hi,hz0,hz1,hz2⟩:=info_parts info_row
 obtain ⟨i1,gi,gz0,gz1,gz2⟩:=info_parts info_intC
 obtain ⟨B,hB⟩:∃ B,B=w.heap.size:=⟨_,rfl⟩
 have HB:=LH hB
 clear hB
 go_enter Tryz.func63,Tryz.ntmps63
 go_wp2_with fail
 go_loopw [1,2] (fun o i wr=>∃ k:Nat,k≤4∧i=.int .i64 (k:Int)∧Hid (OwnC wr B o (List.replicate k (List.replicate 8 0)))∧Hid (Below B w wr)) (fun _ i _=>4 - (intOf i).toNat)
 case atStart=>exact ⟨0,Nat.zero_le _,rfl,OwnRows.nil _ _ _ _,Below.refl _ _⟩
 case round =>
  obtain ⟨k,hk,rfl,hown,hb⟩:=hrel
  by_cases hlt:k < 4
  ·have hk0:(0:Int)≤(k:Int):=by omega
   have hk1:(k:Int) < 4:=by omega
   have hbw:Below w.heap.size w wr:=by rw [← HB.out];exact hb.out
   have hBr:B≤wr.heap.size:=by rw [HB.out];exact hbw.size
   obtain ⟨us',h1,h2,h3,h4⟩:=hown.out
   have HO1:=LH h1
   have HO2:=LH h2
   have HO3:=LH h3
   have HO4:=LH h4
   have hul:us'.length≤4:=by
    rw [h2,List.length_replicate]
    omega
   clear hown h1 h2 h3 h4 hbw
   go_wp2_with (at_make;go_must (refine wpList_make_full _ rfl _ _ 37 rfl B 3 i1 (.int .i64 0) 1 Tryz.underlying37 gi gz0 gz1 .i64 .i64 _ _ 8 rfl rfl rfl rfl (by rw [gz2];omega) (by unfold maxLen;omega) hBr ?_))
   intro w1 hx hg1
   rw [rowVals_zero] at hx
   have hbr:=belowGrown hg1
   have HX2:=LH hx
   have HQ1:=LH (ownsRow_keep HO1.out hbr)
   have HQ3:=LH (fun i hi=>ownsRow_keep (HO3.out i hi) hbr)
   have HBR:=LH hbr
   clear hx hg1 hbr
   go_wp2_with (at_builtin;go_must (refine wpList_append_own _ rfl _ _ 34 rfl B 37 i0 (.slice none 0 0) 1 24 Tryz.underlying34 hi hz0 hz1 hz2 rfl (by decide) _ us'.length us' rfl (HQ1.out.alloc _) ⟨w1.heap.size,0,none⟩ 1 1 [.slice (some ⟨wr.heap.size,0,none⟩) 8 8] rfl rfl ?_ (by intro v hv;simp at hv;subst hv;rfl) (by unfold maxLen;omega) (by omega) (by have:=HBR.out.size;simp;omega) ?_))
   ·intro j v hv
    match j,hv with
    |0,hv=>simp at hv;subst hv;simp [Addr.add]
   ·intro v' w3 hown3 hgrow3 _
    have R:=OwnRows.snoc (te:=37) (ti:=3) (r:=List.replicate 8 0) (by decide) (HQ1.out.alloc (.cells #[.slice (some ⟨wr.heap.size,0,none⟩) 8 8] 37)) HO2.out (fun i hi=>(HQ3.out i hi).alloc _) HO4.out (HX2.out.alloc _) (fun i hi j hj=>by have:=((HO3.out i hi).lt j hj).2;simp only [Value.ownBlock,ne_eq,Option.some.injEq];omega) hown3 hgrow3
    have hb3:Below B w w3:=by
     refine Below.grown (hb.out.trans ((HBR.out.mono hBr).trans ((Below.refl _ _).alloc (by have:=HBR.out.size;omega) _))) hgrow3 (by have:=HBR.out.size;simp;omega) (fun j hj=>?_)
     exact (HQ1.out.lt j hj).1
    have HR3:=LH R
    have HB3:=LH hb3
    clear hown3 hgrow3 R hb3
    go_wp2_with fail
    go_roundw
    case rel =>
     refine ⟨k+1,by omega,by go_num,?_,HB3⟩
     show OwnC w3 B v' (List.replicate (k+1) (List.replicate 8 0))
     rw [List.replicate_succ']
     exact HR3.out
    case measure=>simp [intOf];omega
  ·obtain rfl:k=4:=by omega
   go_wp2_with fail
   go_ret
   refine ⟨_,rfl,?_,?_⟩
   ·have h1:=hown.out
    rw [HB.out] at h1
    exact h1
   ·rw [← HB.out];exact hb.out
theorem okC_new:okC newC=true:=by decide
end Go.Proofs.YtkkohllhebdlcaaGreatDoor
set_option maxRecDepth 100000
namespace Go.Proofs.YtkkohllhebdlcaaGreatDoor
open Go.RowKit
theorem okC_mk {m:List (List Int)} (h:m.length=4) (hr:∀ r∈m,r.length=8∧∀ x∈r,0≤x∧x≤1073741824):okC m=true:=by
 simp only [okC,Bool.and_eq_true,decide_eq_true_eq,Bool.not_eq_true']
 refine ⟨h,List.any_eq_false.2 fun r hr'=>?_⟩
 obtain ⟨h8,hx⟩:=hr r hr'
 simp only [rowBad,Bool.or_eq_true,decide_eq_true_eq,not_or,Bool.not_eq_true]
 refine ⟨by omega,List.any_eq_false.2 fun x hx'=>?_⟩
 have:=hx x hx'
 simp only [badI,Bool.or_eq_true,decide_eq_true_eq,not_or]
 omega
theorem row_mem {m:List (List Int)} {t:Nat} (h:t < m.length):m.getD t []∈m:=by
 have e:m.getD t []=m[t]:=by simp [List.getD,h]
 rw [e];exact List.getElem_mem _
theorem num_mem {r:List Int} {k:Nat} (h:k < r.length):r.getD k 0∈r:=by
 have e:r.getD k 0=r[k]:=by simp [List.getD,h]
 rw [e];exact List.getElem_mem _
theorem getC_bd {m:List (List Int)} (hok:okC m=true) {t k:Int} (h1:0≤t) (h2:t < 4) (h3:0≤k) (h4:k < 8):0≤getC m t k∧getC m t k≤1073741824:=by
 obtain ⟨hl,hr⟩:=okC_spec hok
 have h5:=hr _ (row_mem (t:=t.toNat) (by omega))
 exact h5.2 _ (num_mem (by omega))
theorem okC_set {m:List (List Int)} (hok:okC m=true) {t k n:Int} (h1:0≤t) (h2:t < 4) (h3:0≤k) (h4:k < 8) (h5:0≤n) (h6:n≤1073741824):okC (setC m t k n)=true:=by
 have hb:=getC_bd hok h1 h2 h3 h4
 obtain ⟨hl,hr⟩:=okC_spec hok
 have h8:=hr _ (row_mem (t:=t.toNat) (by omega))
 refine okC_mk (by simp [setC,hl]) (fun r hr'=>?_)
 rcases List.mem_or_eq_of_mem_set hr' with h|h
 ·exact hr r h
 ·subst h
  refine ⟨by rw [List.length_set];exact h8.1,fun x hx=>?_⟩
  rcases List.mem_or_eq_of_mem_set hx with h|h
  ·exact h8.2 x h
  ·omega
theorem getC_set {m:List (List Int)} (hok:okC m=true) {t k n t' k':Int} (h1:0≤t) (h2:t < 4) (h3:0≤k) (h4:k < 8) (h1':0≤t') (h3':0≤k') :
  getC (setC m t k n) t' k'=if t'=t∧k'=k then max (getC m t k) n else getC m t' k':=by
 obtain ⟨hl,hr⟩:=okC_spec hok
 have h8:=(hr _ (row_mem (t:=t.toNat) (by omega))).1
 unfold setC
 by_cases ht:t'=t
 ·subst ht
  by_cases hk:k'=k
  ·subst hk
   rw [if_pos ⟨rfl,rfl⟩]
   generalize hx:max (getC m t' k') n=x
   unfold getC
   rw [getD_set_same (by omega),getD_set_same (by omega)]
  ·rw [if_neg (fun h=>hk h.2)]
   generalize hx:max (getC m t' k) n=x
   unfold getC
   rw [getD_set_same (by omega),getD_set_other (by omega)]
 ·rw [if_neg (fun h=>ht h.1)]
  generalize hx:max (getC m t k) n=x
  unfold getC
  rw [getD_set_other (by omega)]
def hasC (l:List ByteArray) (k:ByteArray):Bool:=l.any fun y=>decide (y=k)
theorem hasC_iff {l:List ByteArray} {k:ByteArray}:hasC l k=true↔k∈l:=by simp [hasC]
def stepC (m:Int) (s:List ByteArray × List Ent) (x:Ent):List ByteArray × List Ent :=
 if x.off < m then (if hasC s.1 x.key=true then (s.1.filter fun k=>decide (k≠x.key),s.2++[x]) else s) else (s.1,s.2++[x])
def keysC (m:Int) (l:List Ent):List ByteArray:=l.foldl (fun s x=>if x.off < m then x.key :: s else s) []
def runC (m:Int) (l pre:List Ent):List ByteArray × List Ent:=pre.foldl (stepC m) (keysC m l,[])
def leftC (m:Int) (l:List Ent):List Ent:=(runC m l l.reverse).2.reverse
def markC (t:Top) (tq:Int):Int:=max t.mark (min tq t.next)
def compactP (t:Top) (tq:Int):Top × Int :=
 if t.may then (if tq < 0∨1073741824 < tq then (Top.zero,2) else (⟨t.base,t.next,markC t tq,leftC (markC t tq) t.ents⟩,0)) else (Top.zero,8)
theorem compactP_bad {t:Top} {tq:Int} (h:¬ t.may):compactP t tq=(Top.zero,8):=by simp [compactP,h]
theorem compactP_arg {t:Top} {tq:Int} (h:t.may) (h':tq < 0∨1073741824 < tq):compactP t tq=(Top.zero,2):=by simp [compactP,h,h']
theorem compactP_yes {t:Top} {tq:Int} (h:t.may) (h':¬ (tq < 0∨1073741824 < tq)):compactP t tq=(⟨t.base,t.next,markC t tq,leftC (markC t tq) t.ents⟩,0):=by simp [compactP,h,h']
theorem keysC_snoc (m:Int) (l:List Ent) (x:Ent):keysC m (l++[x])=if x.off < m then x.key :: keysC m l else keysC m l:=by simp [keysC]
theorem runC_snoc (m:Int) (l pre:List Ent) (x:Ent):runC m l (pre++[x])=stepC m (runC m l pre) x:=by simp [runC]
theorem stepC_out {m:Int} {s:List ByteArray × List Ent} {x:Ent} (h:¬ x.off < m):stepC m s x=(s.1,s.2++[x]):=by simp [stepC,h]
theorem stepC_no {m:Int} {s:List ByteArray × List Ent} {x:Ent} (h:x.off < m) (hk:x.key ∉ s.1):stepC m s x=s:=by
 have:¬ hasC s.1 x.key=true:=fun e=>hk (hasC_iff.1 e)
 rw [stepC,if_pos h,if_neg this]
theorem stepC_yes {m:Int} {s:List ByteArray × List Ent} {x:Ent} (h:x.off < m) (hk:x.key∈s.1):stepC m s x=(s.1.filter fun k=>decide (k≠x.key),s.2++[x]):=by rw [stepC,if_pos h,if_pos (hasC_iff.2 hk)]
theorem runC_len (m:Int) (l pre:List Ent):(runC m l pre).2.length≤pre.length:=by
 have:∀ (pre:List Ent) (s:List ByteArray × List Ent),(pre.foldl (stepC m) s).2.length≤s.2.length+pre.length:=by
  intro pre
  induction pre with
  |nil=>intro s;simp
  |cons x pre ih =>
   intro s
   refine Nat.le_trans (ih _) ?_
   have:(stepC m s x).2.length≤s.2.length+1:=by
    unfold stepC
    repeat' split
    all_goals simp
   simp only [List.length_cons];omega
 simpa [runC] using this pre (keysC m l,[])
end Go.Proofs.YtkkohllhebdlcaaGreatDoor
