/-
  Proved here: Plain: what a call on one topic leaves as it is. No program in sight. Plain: topics as they are to be, and the topics that they stand for. N compact.Compact. No condition but that the topic reads.
-/
import Derived.Test.YtkkohllhebdlcaaGreatDoorY15
import Derived.Test.YtkkohllhebdlcaaGreatDoorY17
import Derived.Outline
set_option maxRecDepth 100000
set_option maxRecDepth 100000
namespace Go.Proofs.YtkkohllhebdlcaaGreatDoor
open Go.RowKit
theorem may_set {s:Str} {i:Nat} {t:Top} (hm:mayS s) (ht:t.may) (hn:(s.tops.getD i default).next≤t.next):mayS ⟨s.tops.set i t,s.coms⟩:=by
 obtain ⟨⟨h1,h2⟩,h3,h4⟩:=hm
 refine ⟨⟨by simpa using h1,fun x hx=>?_⟩,h3,fun j hj k hk=>?_⟩
 ·rcases List.mem_or_eq_of_mem_set hx with h|rfl
  ·exact h2 x h
  ·exact ht
 ·have h5:=h4 j hj k hk
  show (s.coms.getD j []).getD k 0≤((s.tops.set i t).getD j default).next
  by_cases hij:i=j
  ·subst hij
   rw [getD_set_same (by omega)]
   omega
  ·rw [getD_set_other hij]
   exact h5
theorem may_com {s:Str} {i:Nat} {who n:Int} (hm:mayS s) (hi:i < 4) (e0:0≤who) (e1:who < 8) (e2:0≤n) (e3:n≤1073741824) (hn:n≤(s.tops.getD i default).next):mayS ⟨s.tops,setC s.coms (i:Int) who n⟩:=by
 obtain ⟨⟨h1,h2⟩,h3,h4⟩:=hm
 refine ⟨⟨h1,h2⟩,okC_set h3 (by omega) (by omega) e0 e1 e2 e3,fun j hj k hk=>?_⟩
 have h5:=h4 j hj k hk
 have h6:=getC_set h3 (t:=(i:Int)) (k:=who) (n:=n) (t':=(j:Int)) (k':=(k:Int)) (by omega) (by omega) e0 e1 (by omega) (by omega)
 simp only [getC,Int.toNat_natCast] at h6
 show ((setC s.coms (i:Int) who n).getD j []).getD k 0≤(s.tops.getD j default).next
 rw [h6]
 split
 ·rename_i hh
  obtain ⟨ha,hb⟩:=hh
  have:j=i:=by omega
  subst this
  have hwk:who.toNat=k:=by omega
  rw [hwk] at *
  omega
 ·exact h5
end Go.Proofs.YtkkohllhebdlcaaGreatDoor
set_option maxRecDepth 100000
namespace Go.Proofs.YtkkohllhebdlcaaGreatDoor
open Go.RowKit
structure Pl where
 all:List Ent
 base:Int
 mark:Int
structure Mdl where
 tops:List Pl
 coms:List (List Int)
instance:Inhabited Pl:=⟨⟨[],0,0⟩⟩
def entP (p:Pl):List Ent:=fromE p.base (keepF p.mark p.all)
def topM (p:Pl):Top:=⟨p.base,p.all.length,p.mark,entP p⟩
def streamM (m:Mdl):Str:=⟨m.tops.map topM,m.coms⟩
def entAt (p:Pl) (i:Nat):Prop:=(p.all.getD i default).off=(i:Int)∧Top.okEnt (p.all.getD i default)
instance (p:Pl) (i:Nat):Decidable (entAt p i):=by unfold entAt;infer_instance
def shapedP (p:Pl):Prop:=(∀ i,i < p.all.length→entAt p i)∧p.all.length≤600∧(0≤p.base∧p.base≤(p.all.length:Int))∧0≤p.mark∧p.mark≤(p.all.length:Int)
instance (p:Pl):Decidable (shapedP p):=by unfold shapedP;infer_instance
def mayM (m:Mdl):Prop:=(m.tops.length=4∧∀ p∈m.tops,shapedP p∧(entP p).length≤200)∧okC m.coms=true∧∀ i,i < 4→∀ k,k < 8→((m.coms.getD i []).getD k 0)≤((m.tops.getD i default).all.length:Int)
instance (m:Mdl):Decidable (mayM m):=by unfold mayM;infer_instance
theorem drop_cons {l:List Ent} {k:Nat} (h:k < l.length):l.drop k=l.getD k default :: l.drop (k+1):=by
 rw [List.drop_eq_getElem_cons h,getD_at h]
theorem chk_all {p:Pl} (h:∀ i,i < p.all.length→entAt p i):∀ (n k:Nat),k+n=p.all.length→Top.chk ⟨0,p.all.length,0,p.all⟩ ((k:Int) - 1) [] (p.all.drop k)
 |0,k,hk=>by
  rw [List.drop_eq_nil_of_le (by omega)]
  show max ((k:Int) - 1+1) 0=(p.all.length:Int)
  omega
 |n+1,k,hk=>by
  have hlt:k < p.all.length:=by omega
  obtain ⟨h1,h2⟩:=h k hlt
  rw [drop_cons hlt]
  refine ⟨⟨h2,by rw [h1];omega,by rw [h1];show (k:Int) < (p.all.length:Int);omega,by rw [h1];show (k:Int)≤max ((k:Int) - 1+1) 0;omega,fun h0=>by rw [h1] at h0;exact absurd h0 (by show ¬ (k:Int) < 0;omega)⟩,?_⟩
  rw [if_neg (by rw [h1];show ¬ (k:Int) < 0;omega),h1]
  have:=chk_all h n (k+1) (by omega)
  rwa [show ((k+1:Nat):Int) - 1=(k:Int) by omega] at this
theorem topM_chk {p:Pl} (h:shapedP p):Top.chk (topM p) (p.base - 1) [] (entP p):=by
 obtain ⟨h1,h2,⟨h3,h4⟩,h5,h6⟩:=h
 have c0:=chk_all h1 p.all.length 0 (by omega)
 rw [List.drop_zero] at c0
 have c1:=chk_keep (t:=⟨0,p.all.length,0,p.all⟩) (t':=⟨0,p.all.length,p.mark,keepF p.mark p.all⟩) (m:=p.mark) rfl rfl h5 h6 p.all _ (-1) [] [] (by simp) (Or.inl (by simp)) (fun _ hk=>by cases hk) c0
 exact chk_from (t:=⟨0,p.all.length,p.mark,keepF p.mark p.all⟩) (t':=topM p) rfl rfl h4 _ (-1) [] [] (by omega) (fun _ h=>h) c1
theorem topM_may {p:Pl} (h:shapedP p):(topM p).may↔(entP p).length≤200:=by
 rw [Top.may_iff]
 constructor
 ·exact fun hh=>hh.1.2.2.2.2.2.2
 ·intro hl
  obtain ⟨h1,h2,⟨h3,h4⟩,h5,h6⟩:=id h
  exact ⟨⟨by show (0:Int)≤(p.all.length:Int);omega,by show (p.all.length:Int)≤1073741824;omega,h3,h4,h5,h6,hl⟩,topM_chk h⟩
theorem getD_map_top {l:List Pl} {i:Nat} (h:i < l.length):(l.map topM).getD i default=topM (l.getD i default):=by simp [List.getD,h]
theorem mayM_iff {m:Mdl} (h:∀ p∈m.tops,shapedP p):mayS (streamM m)↔mayM m:=by
 constructor
 ·rintro ⟨⟨h1,h2⟩,h3,h4⟩
  have hl:m.tops.length=4:=by simpa [streamM] using h1
  refine ⟨⟨hl,fun p hp=>⟨h p hp,(topM_may (h p hp)).1 (h2 _ (List.mem_map.2 ⟨p,hp,rfl⟩))⟩⟩,h3,fun i hi k hk=>?_⟩
  have:=h4 i hi k hk
  rw [show (streamM m).tops.getD i default=topM (m.tops.getD i default) from getD_map_top (by omega)] at this
  exact this
 ·rintro ⟨⟨h1,h2⟩,h3,h4⟩
  refine ⟨⟨by simpa [streamM] using h1,fun t ht=>?_⟩,h3,fun i hi k hk=>?_⟩
  ·obtain ⟨p,hp,rfl⟩:=List.mem_map.1 ht
   exact (topM_may (h p hp)).2 (h2 p hp).2
  ·rw [show (streamM m).tops.getD i default=topM (m.tops.getD i default) from getD_map_top (by omega)]
   exact h4 i hi k hk
theorem mayM_shaped {m:Mdl} (h:mayM m):∀ p∈m.tops,shapedP p:=fun p hp=>(h.1.2 p hp).1
theorem mayM_str {m:Mdl} (h:mayM m):mayS (streamM m):=(mayM_iff (mayM_shaped h)).2 h
def askM (m:Mdl) (n:Int):Int:=if mayM m then (if 0≤n∧n < 4 then 0 else 2) else 8
def plN (m:Mdl) (n:Int):Pl:=m.tops.getD n.toNat default
theorem askM_zero {m:Mdl} {n:Int}:askM m n=0↔mayM m∧0≤n∧n < 4:=by
 unfold askM
 by_cases h:mayM m
 ·by_cases h2:0≤n∧n < 4
  ·simp [h,h2]
  ·rw [if_pos h,if_neg h2];simp [h];omega
 ·rw [if_neg h];simp [h]
theorem plN_mem {m:Mdl} {n:Int} (h:mayM m) (h0:0≤n) (h1:n < 4):plN m n∈m.tops:=by
 have:=h.1.1
 rw [plN,getD_lt (show n.toNat < m.tops.length by omega)]
 exact List.getElem_mem _
def Mdl.zero:Mdl:=⟨[],[]⟩
def putM (m:Mdl) (id topic:Int) (k b:ByteArray):Mdl × Int × Int :=
 if askM m topic=0 then
  (if id < 0∨6291456≤id then (Mdl.zero,0,2) else if 16 < k.size∨64 < b.size then (Mdl.zero,0,3) else if (plN m topic).all.length=600∨(entP (plN m topic)).length=200 then (Mdl.zero,0,9)
   else (⟨m.tops.set topic.toNat ⟨(plN m topic).all++[⟨((plN m topic).all.length:Int),id,k,b⟩],(plN m topic).base,(plN m topic).mark⟩,m.coms⟩,((plN m topic).all.length:Int),0))
 else (Mdl.zero,0,askM m topic)
def doM (m:Mdl) (kind topic who n:Int):Mdl × Int :=
 if mayM m then
  (if ¬ rightD kind topic who n then (Mdl.zero,2)
   else if kind=4 then (if ((plN m topic).all.length:Int) < n then (Mdl.zero,170) else (⟨m.tops,setC m.coms topic who n⟩,0))
   else if kind=5 then (⟨m.tops.set topic.toNat ⟨(plN m topic).all,max (plN m topic).base (min n ((plN m topic).all.length:Int)),(plN m topic).mark⟩,m.coms⟩,0)
   else (⟨m.tops.set topic.toNat ⟨(plN m topic).all,(plN m topic).base,max (plN m topic).mark (min n ((plN m topic).all.length:Int))⟩,m.coms⟩,0))
 else (Mdl.zero,8)
end Go.Proofs.YtkkohllhebdlcaaGreatDoor
namespace Go.Proofs.YtkkohllhebdlcaaGreatDoor
open Go.RowKit Go.Shelf
attribute [local go_sem] Oper.semAt_some
theorem at_codeIn {F:Fence} {n:Nat} {P:Program} {c:Code} {Q:Exit→Act→World→Prop} {a:Act} {w:World} (C:World→Prop) (h:C w) (k:∀ W,C W→Code.wpIn F n P c Q a W):Code.wpIn F n P c Q a w:=k w h
theorem slots_ax {C D:Prop} {l:List Value} {df:List Deferred} (g:(Nat→Value)→Act) (h1:C) (h2:D) (h:({ tmps:=l.toArray,defers:=df }:Act)=g (fun i=>l.getD i undef)):∃ f,C∧D∧({ tmps:=l.toArray,defers:=df }:Act)=g f:=⟨_,h1,h2,h⟩
def CmpL (w w2 w3:World) (t:Top) (m:Int) (a:Option Addr) (n cap k:Nat) (W:World):Prop :=
 (Blk W w.heap.size 156 [.int .i64 t.base,.int .i64 t.next,.int .i64 m,.slice a n cap]∧Blk W (w.heap.size+1) 156 [.int .i64 0,.int .i64 0,.int .i64 0,.slice none 0 0]) ∧
 Blk W (w3.heap.size+1) 240 [.map (some w3.heap.size)]∧Seen Tryz.prog 9 3 W w3.heap.size k (keysC m (t.ents.take k))∧OwnE W w2.heap.size (.slice a n cap) t.ents∧Below w.heap.size w W
theorem seen_far {P:Program} {ts ti:TypeId} {W:World} {b n:Nat} {l:List ByteArray} (h:Seen P ts ti W b n l) {g o:Nat} (hp:b≠g) (u:Value):Seen P ts ti (W.setCell ⟨g,o,none⟩ u) b n l:=h.same (Below.heap_setCell W ⟨g,o,none⟩ u b hp)
theorem seen_alloc {P:Program} {ts ti:TypeId} {W:World} {b n:Nat} {l:List ByteArray} (h:Seen P ts ti W b n l) (o:Obj):Seen P ts ti (W.alloc o) b n l:=h.same (Below.heap_alloc W o b h.lt)
theorem own_other {W W':World} {B:Nat} {v:Value} {l:List Ent} {row:Option Nat} (h:OwnE W B v l) (hg:W.grownBy W' row) (hr:∀ r,row=some r→∃ o:Obj,W.heap[r]?=some o∧o.isCells=false):OwnE W' B v l :=
 ⟨h.1,h.2.elim Or.inl (fun ⟨g,cp,cur,hv,hB,hh,r⟩=>Or.inr ⟨g,cp,cur,hv,hB,(hg.block g (Array.getElem?_eq_some_iff.1 hh).1 (fun e=>by
  obtain ⟨o,ho,hc⟩:=hr g e.symm
  rw [hh] at ho
  cases ho
  cases hc)).trans hh,r⟩)⟩
theorem own_grown {W W':World} {B r:Nat} {v:Value} {l:List Ent} (h:OwnE W B v l) (hg:W.grownBy W' (some r)) (hr:v.ownBlock≠some r):OwnE W' B v l :=
 ⟨h.1,h.2.elim Or.inl (fun ⟨g,cp,cur,hv,hB,hh,q⟩=>Or.inr ⟨g,cp,cur,hv,hB,(hg.block g (Array.getElem?_eq_some_iff.1 hh).1 (fun e=>hr (by rw [hv,← e];rfl))).trans hh,q⟩)⟩
def CmpJ (w w3:World) (t:Top) (m:Int) (a:Option Addr) (n cap lb:Nat) (K:List ByteArray) (E:List Ent) (al:Option Addr) (capl:Nat) (W:World):Prop :=
 (Blk W w.heap.size 156 [.int .i64 t.base,.int .i64 t.next,.int .i64 m,.slice a n cap]∧Blk W (w.heap.size+1) 156 [.int .i64 0,.int .i64 0,.int .i64 0,.slice none 0 0]) ∧
 Blk W (w3.heap.size+1) 240 [.map (some w3.heap.size)]∧(∃ k,Seen Tryz.prog 9 3 W w3.heap.size k K) ∧
 (Blk W lb 154 [.slice al E.length capl]∧OwnE W (lb+2) (.slice al E.length capl) E) ∧
 Blk W (lb+1) 154 [.slice a n cap]∧Below w.heap.size w W
def CmpI (w w3:World) (t:Top) (m:Int) (a:Option Addr) (n cap lb:Nat) (pre:List Nat) (W:World):Prop :=
 ∃ al capl,CmpJ w w3 t m a n cap lb (runC m t.ents (pre.map fun i=>t.ents.getD i default)).1 (runC m t.ents (pre.map fun i=>t.ents.getD i default)).2 al capl W
theorem cmpI_own {w w3:World} {t:Top} {m:Int} {a:Option Addr} {n cap lb C:Nat} (hw:w.heap.size≤C) (hC:w3.heap.size < C):OwnFrom C (CmpI w w3 t m a n cap lb):=fun s W W' row hs hg hr=>by
 have hr':∀ r,row=some r→∃ o:Obj,W.heap[r]?=some o∧o.isCells=false:=fun r e=>(hr r e).2
 obtain ⟨al,capl,⟨h1,h2⟩,h3,⟨k,h4⟩,⟨h5,h6⟩,h7,h8⟩:=hs
 exact ⟨al,capl,⟨blk_row h1 hg hr',blk_row h2 hg hr'⟩,blk_row h3 hg hr',⟨k,h4.same (hg.block _ h4.lt (fun e=>by have:=(hr _ e.symm).1;omega))⟩,⟨blk_row h5 hg hr',own_other h6 hg hr'⟩,blk_row h7 hg hr',h8.grown hg h8.size (fun k e=>Nat.le_trans hw (hr k e).1)⟩
theorem own_keeps {W W':World} {B:Nat} {v:Value} {l:List Ent} (h:OwnE W B v l) (hg:W.grownBy W' v.ownBlock):KeepsOthers W W':=KeepsOthers.of_grownBy hg (fun j o e ho=>by
 rcases h.2 with ⟨e',_⟩|⟨g,cp,cur,hv,_,hh,_⟩
 ·rw [e'] at e;cases e
 ·rw [hv] at e;cases e;rw [hh] at ho;cases ho;rfl)
theorem cmpJ_push {w w3 W w6:World} {t:Top} {m:Int} {a al a6:Option Addr} {n cap lb capl cap6:Nat} {K:List ByteArray} {E E6:List Ent} {o:Obj} (h:CmpJ w w3 t m a n cap lb K E al capl W) (b1:w.heap.size+1 < lb) (b2:w3.heap.size+1 < lb) {q:Nat} (hq:E6.length=q)
  (hg:(W.alloc o).grownBy w6 (Value.slice al E.length capl).ownBlock) (ho:OwnE w6 (lb+2) (.slice a6 E6.length cap6) E6) :
  CmpJ w w3 t m a n cap lb K E6 a6 cap6 (w6.setCell ⟨lb,0,none⟩ (.slice a6 q cap6))∧KeepsOthers W (w6.setCell ⟨lb,0,none⟩ (.slice a6 q cap6))∧BackK w3.heap.size (lb+1) W (w6.setCell ⟨lb,0,none⟩ (.slice a6 q cap6)):=by
 subst hq
 obtain ⟨⟨h1,h2⟩,h3,⟨k,h4⟩,⟨h5,h6⟩,h7,h8⟩:=h
 have ne:∀ g,g < lb+2→(Value.slice al E.length capl).ownBlock≠some g:=fun g hg e=>by have:=(h6.lt _ e).1;omega
 have hlb:=h7.lt
 have g7:=((h7.alloc o).grown hg (ne _ (by omega))).far (b:=lb) (o:=0) (by omega) (.slice a6 E6.length cap6)
 refine ⟨⟨⟨?_,?_⟩,?_,⟨k,?_⟩,⟨?_,?_⟩,g7,?_⟩,?_,?_,g7.trans h7.symm⟩
 ·exact ((h1.alloc o).grown hg (ne _ (by omega))).far (by omega) _
 ·exact ((h2.alloc o).grown hg (ne _ (by omega))).far (by omega) _
 ·exact ((h3.alloc o).grown hg (ne _ (by omega))).far (by omega) _
 ·exact seen_far ((seen_alloc h4 o).same (hg.block _ (seen_alloc h4 o).lt (fun e=>ne _ (by omega) e.symm))) (by omega) _
 ·have:=((h5.alloc o).grown hg (ne _ (by omega))).set_ 0 (.slice a6 E6.length cap6)
  simpa only [List.set_cons_zero] using this
 ·exact own_set ho (by omega)
 ·exact Below.setCell (p:=⟨lb,0,none⟩) ((below_alloc h8).grown hg (by have:=h8.size;simp;omega) (fun j e=>by have:=(h6.lt j e).1;omega)) (by simp;omega) _
 ·exact ((KeepsOthers.alloc _ _).trans (own_keeps (own_alloc h6) hg)).trans (KeepsOthers.setCell _ _ _)
 ·exact Below.setCell (p:=⟨lb,0,none⟩) (((Below.refl _ _).alloc (by omega) o).grown hg (by simp;omega) (fun j e=>by have:=(h6.lt j e).1;omega)) (by simp;omega) _
theorem cmp_end {n:Nat} {w W:World} {a:Act} {D:Nat} {u:Top} {al:Option Addr} {capl:Nat} (hD:w.heap.size≤D) (hf:a.defers=[{ target:=.collected D,args:=#[] }]) (h4:a.tmps[4]?.getD undef=.pointer (some ⟨w.heap.size+1,0,none⟩)) (h5:a.tmps[5]?.getD undef=.int .i64 0)
  (hR:Blk W (w.heap.size+1) 156 [.int .i64 u.base,.int .i64 u.next,.int .i64 u.mark,.slice al u.ents.length capl]) (hO:OwnE W w.heap.size (.slice al u.ents.length capl) u.ents) (hB:Below w.heap.size w W) (hKD:W.heap[D]?=some (.deferred (some []))) :
  bodyPostM Fence.wide n Tryz.prog Tryz.f97 (TopEnd1 u 0 w) Exit.ret a W:=by
 obtain ⟨tm,df⟩:=a
 simp only at hf h4 h5
 subst hf
 have pr:∀ r,some D=some r→∃ o:Obj,W.heap[r]?=some o∧o.isCells=false:=fun r e=>by cases e;exact ⟨_,hKD,rfl⟩
 obtain ⟨x0,x1,x2,x3,xz⟩:=cells4 (blk_row hR (grownBy_putObj' W D (.deferred none)) pr)
 refine ⟨by simp,.inl ⟨_,_,rfl,run_takeDeferred hKD,?_⟩⟩
 refine ⟨.tuple #[.agg #[.int .i64 u.base,.int .i64 u.next,.int .i64 u.mark,.slice al u.ents.length capl],.int .i64 0],?_,al,capl,rfl,own_other hO (grownBy_putObj' W D (.deferred none)) pr,hB.trans (belowK_b (w:=w) (Nat.le_refl _) W D _ _ hD hKD rfl rfl)⟩
 simp [results,Tryz.results97,go_sem,x0,x1,x2,x3,h4,h5]
set_option maxHeartbeats 4000000 in
set_option maxRecDepth 100000 in
theorem compact_yes {v:Value} {t:Top} {w:World} (tq:Int) (h:TopR w v t) (hk:∀ x∈t.ents,x.key.size≤maxLen) (hm:t.may) (h1:0≤tq) (h2:tq≤1073741824) :
  Calls Tryz.prog 97 #[v,.int .i64 tq] w (TopEnd1 ⟨t.base,t.next,markC t tq,leftC (markC t tq) t.ents⟩ 0 w):=by
 obtain ⟨i0,hi,hz0,hz1,hz2⟩:=info_parts info_ent
 have T:=LH h
 have HKK:=LH hk
 have HM:=LH hm
 have HLE:=LH (show t.ents.length≤1000000 by have:=hm.1.2.2.2.2.2.2;omega)
 obtain ⟨a,cap,rfl,_⟩:=h
 clear hk hm
 have hmm:=@run_makeMap Tryz.prog
 refine (callsIn_wide (n:=4)).1 ?_
 refine callsIn_of_wp_marks Tryz.func97 rfl trivial ?_ rfl
 simp only [Tryz.ntmps97,List.size_toArray,List.length_cons,List.length_nil,Nat.reduceAdd,Nat.reduceSub,Array.replicate_succ,Array.replicate_zero,List.push_toArray,List.append_toArray,List.nil_append,List.cons_append]
 gi_wp2_with fail
 refine ⟨trivial,?_⟩
 refine CallsIn.mono (callsIn_wide.2 (check_yes (t:=t) ?_ HKK.out HM.out)) ?_
 ·exact T.out.below (by repeat (first|with_reducible (first|exact Below.refl _ _|apply Below.drew|apply below_alloc)|((first|with_reducible refine Below.alloc ?_ ?_ _|with_reducible refine Below.setCell ?_ ?_ _);rotate_left;focus (first|(simp <;> omega)|omega))))
 rintro e w2 ⟨rfl,hb⟩
 have HB:Hid (Below w.heap.size w _):=below_step (by repeat (first|with_reducible (first|exact Below.refl _ _|apply Below.drew|apply below_alloc)|((first|with_reducible refine Below.alloc ?_ ?_ _|with_reducible refine Below.setCell ?_ ?_ _);rotate_left;focus (first|(simp <;> omega)|omega)))) hb
 have P:Blk _ (w.heap.size) _ _:=Blk.step (by repeat (first|((with_reducible apply Blk.new);focus (first|rfl|(simp <;> omega)))|with_reducible (first|apply Blk.drew|apply Blk.alloc|apply Blk.set_)|((with_reducible apply Blk.far);rotate_left;focus (first|(simp <;> omega)|omega)))) hb
 obtain ⟨p0,p1,p2,p3,pz⟩:=cells4 P
 have pl:=Blk.lt P
 have HP:=LH P
 clear P
 have R:Blk _ (w.heap.size+1) _ _:=Blk.step (by repeat (first|((with_reducible apply Blk.new);focus (first|rfl|(simp <;> omega)))|with_reducible (first|apply Blk.drew|apply Blk.alloc|apply Blk.set_)|((with_reducible apply Blk.far);rotate_left;focus (first|(simp <;> omega)|omega)))) hb
 obtain ⟨r0,r1,r2,r3,rz⟩:=cells4 R
 have rl:=Blk.lt R
 have HR:=LH R
 clear R
 have T2:=LH (T.out.below HB.out)
 clear hb
 gi_wp2_with fail
 refine ⟨trivial,?_⟩
 refine CallsIn.mono (callsIn_wide.2 (topTwin_any T2.out HLE.out)) ?_
 rintro e w3 ⟨a3,cap3,rfl,o3,hb⟩
 have s2:w.heap.size+2≤w2.heap.size:=by omega
 replace HB:Hid (Below w.heap.size w _):=below_step (by repeat (first|with_reducible (first|exact HB.out|exact Below.refl _ _|apply Below.drew|apply below_alloc)|((first|with_reducible refine Below.alloc ?_ ?_ _|with_reducible refine Below.setCell ?_ ?_ _);rotate_left;focus (first|(simp <;> omega)|omega)))) hb
 clear p0 p1 p2 p3 pz pl
 replace HP:Hid (Blk _ (w.heap.size) _ _):=Blk.step (by repeat (first|with_reducible exact HP.out|((with_reducible apply Blk.new);focus (first|rfl|(simp <;> omega)))|with_reducible (first|apply Blk.drew|apply Blk.alloc|apply Blk.set_)|((with_reducible apply Blk.far);rotate_left;focus (first|(simp <;> omega)|omega)))) hb
 obtain ⟨p0,p1,p2,p3,pz⟩:=cells4 HP.out
 have pl:=Blk.lt HP.out
 clear r0 r1 r2 r3 rz rl
 replace HR:Hid (Blk _ (w.heap.size+1) _ _):=Blk.step (by repeat (first|with_reducible exact HR.out|((with_reducible apply Blk.new);focus (first|rfl|(simp <;> omega)))|with_reducible (first|apply Blk.drew|apply Blk.alloc|apply Blk.set_)|((with_reducible apply Blk.far);rotate_left;focus (first|(simp <;> omega)|omega)))) hb
 obtain ⟨r0,r1,r2,r3,rz⟩:=cells4 HR.out
 have rl:=Blk.lt HR.out
 have s3:w2.heap.size≤w3.heap.size:=hb.size
 have O3:=LH o3
 clear hb o3
 gi_wp2_with fail
 have hmc:max t.mark (min tq t.next)=markC t tq:=rfl
 rw [hmc]
 obtain ⟨m,hmk⟩:∃ m,markC t tq=m:=⟨_,rfl⟩
 rw [hmk]
 have HMK:=LH hmk
 clear hmc hmk
 obtain ⟨n,hn⟩:∃ n,n=t.ents.length:=⟨_,rfl⟩
 rw [← hn] at O3 HLE ⊢
 have HN:=LH hn
 clear hn
 refine at_codeIn (fun W=>CmpL w w2 w3 t m a3 n cap3 0 W) ⟨⟨?_,?_⟩,?_,?_,?_,?_⟩ ?_
 ·have g0:=((((HP.out.set_ 0 (.int .i64 t.base)).set_ 1 (.int .i64 t.next)).set_ 2 (.int .i64 t.mark)).set_ 3 (.slice a3 n cap3)).set_ 2 (.int .i64 m)
  simp only [List.set_cons_zero,List.set_cons_succ] at g0
  exact Blk.alloc (Blk.alloc g0 _) _
 ·repeat (first|with_reducible exact HR.out|((with_reducible apply Blk.new);focus (first|rfl|(simp <;> omega)))|with_reducible (first|apply Blk.drew|apply Blk.alloc|apply Blk.set_)|((with_reducible apply Blk.far);rotate_left;focus (first|(simp <;> omega)|omega)))
 ·exact Blk.new (by simp)
 ·refine seen_alloc ?_ _
  have g0:=Seen.made Tryz.prog 9 3 (((((w3.setCell ⟨w.heap.size,0,none⟩ (.int .i64 t.base)).setCell ⟨w.heap.size,1,none⟩ (.int .i64 t.next)).setCell ⟨w.heap.size,2,none⟩ (.int .i64 t.mark)).setCell ⟨w.heap.size,3,none⟩ (.slice a3 n cap3)).setCell ⟨w.heap.size,2,none⟩ (.int .i64 m))
  simpa [keysC] using g0
 ·repeat (first|with_reducible (first|exact O3.out|apply own_drew|apply own_alloc)|((with_reducible apply own_set);rotate_left;focus (first|(simp <;> omega)|omega)))
 ·repeat (first|with_reducible (first|exact HB.out|exact Below.refl _ _|apply Below.drew|apply below_alloc)|((first|with_reducible refine Below.alloc ?_ ?_ _|with_reducible refine Below.setCell ?_ ?_ _);rotate_left;focus (first|(simp <;> omega)|omega)))
 clear HP HR p0 p1 p2 p3 pz r0 r1 r2 r3 rz pl rl
 rintro W0 hL
 have HL0:=LH hL
 obtain ⟨⟨hP0,_⟩,_⟩:=hL
 obtain ⟨p0,p1,p2,p3,pz⟩:=cells4 hP0
 clear hP0
 have hn':(n:Int)≤1000000:=by have:=HLE.out;omega
 have hbl:∀ g,(Value.slice a3 n cap3).ownBlock=some g→g < w3.heap.size:=fun g e=>(O3.out.lt g e).2
 have HBL:=LH hbl
 clear hbl
 gi_wp2
 gi_loopw [40] (fun i wr=>∃ k:Nat,k≤n∧i=.int .i64 (k:Int)∧Hid (CmpL w w2 w3 t m a3 n cap3 k wr)) (fun i _=>((n:Int) - intOf i).toNat)
 case atStart=>exact ⟨0,Nat.zero_le _,rfl,HL0.out⟩
 case round =>
  obtain ⟨k,hk,rfl,hL⟩:=hrel
  clear p0 p1 p2 p3 pz HL0
  by_cases hlt:k < n
  ·have hk0:(0:Int)≤(k:Int):=by omega
   have hk1:(k:Int) < (n:Int):=by omega
   obtain ⟨⟨hP,hR⟩,hM,hS,hO,hB⟩:=hL.out
   have HPx:=LH hP
   have HRx:=LH hR
   have HMx:=LH hM
   have HOx:=LH hO
   have HBx:=LH hB
   have hws:w.heap.size < wr.heap.size:=hP.lt
   obtain ⟨p0,p1,p2,p3,pz⟩:=cells4 hP
   obtain ⟨m0,mz⟩:=cells1 hM
   have hmb:=hM.lt
   obtain ⟨⟨-,hcap⟩,-,hd⟩:=hO.reads.ents
   obtain ⟨bb,off,ha,hcc⟩:=hd (by omega)
   subst ha
   have cc:=hcc k (by rw [← HN.out];exact hlt)
   obtain ⟨x,hx⟩:∃ x,x=t.ents.getD k default:=⟨_,rfl⟩
   rw [← hx] at cc
   obtain ⟨⟨⟨c0,c1⟩,c2⟩,c3⟩:=cc
   have hbs:bb < wr.heap.size:=World.block_lt_of_cell? wr _ c0
   have HKX:=LH (show x.key.size≤maxLen by
    have hkl:k < t.ents.length:=by rw [← HN.out];exact hlt
    refine HKK.out x ?_
    have e:t.ents.getD k default=t.ents[k]:=by simp [List.getD,hkl]
    rw [hx,e];exact List.getElem_mem hkl)
   have HT:=LH (show keysC m (t.ents.take (k+1))=if x.off < m then x.key :: keysC m (t.ents.take k) else keysC m (t.ents.take k) by
    rw [take_succ_ent (by rw [← HN.out];exact hlt),← hx,keysC_snoc])
   have HS2:=LH (seen_alloc hS (.cells #[.int .i64 x.off,.int .i64 x.id,.string x.key,.string x.body] 215))
   clear hP hR hM hS hO hB hd hcc hx
   by_cases hxm:x.off < m
   ·have hdm:decide (x.off < m)=true:=by simpa using hxm
    have HXM:=LH hxm
    obtain ⟨w5,hst,hs5,hg5⟩:=HS2.out.store (tm:=240) Tryz.underlying9 Tryz.underlying240 Tryz.underlying3 (by have:=HLE.out;unfold maxLen;omega) HKX.out
    have HS5:=LH hs5
    have HG5:=LH hg5
    clear hs5 hg5
    gi_wp2
    go_roundw
    case rel =>
     refine ⟨k+1,by omega,by go_num,⟨?_,?_⟩,?_,?_,?_,?_⟩
     ·exact (HPx.out.alloc _).grown HG5.out (fun e=>by injection e with e';omega)
     ·exact (HRx.out.alloc _).grown HG5.out (fun e=>by injection e with e';omega)
     ·exact (HMx.out.alloc _).grown HG5.out (fun e=>by injection e with e';omega)
     ·rw [HT.out,if_pos HXM.out]
      exact HS5.out
     ·exact own_grown (own_alloc HOx.out) HG5.out (fun e=>by have:=HBL.out _ e;omega)
     ·exact (below_alloc HBx.out).grown HG5.out (by simp;omega) (fun j e=>by injection e with e';omega)
    case measure=>simp [intOf];omega
   ·have hdm:decide (x.off < m)=false:=by simpa using hxm
    have HXM:=LH hxm
    gi_wp2
    go_roundw
    case rel =>
     refine ⟨k+1,by omega,by go_num,⟨HPx.out.alloc _,HRx.out.alloc _⟩,HMx.out.alloc _,?_,own_alloc HOx.out,below_alloc HBx.out⟩
     rw [HT.out,if_neg HXM.out]
     exact HS2.out.mono (by omega)
    case measure=>simp [intOf];omega
  ·obtain rfl:k=n:=by omega
   have hlt':¬ (k:Int) < (k:Int):=by omega
   obtain ⟨⟨hP,hR⟩,hM,hS,hO,hB⟩:=hL.out
   have HPx:=LH hP
   have HRx:=LH hR
   have HMx:=LH hM
   have HSx:=LH hS
   have HOx:=LH hO
   have HBx:=LH hB
   have hws:w.heap.size < wr.heap.size:=hP.lt
   have hmb:=hM.lt
   obtain ⟨p0,p1,p2,p3,pz⟩:=cells4 hP
   clear hP hR hM hS hO hB
   gi_wp2
   refine ⟨trivial,?_⟩
   refine CallsIn.mono (callsIn_wide.2 (back_any _ a3 _ cap3 _ rfl)) ?_
   rintro e w6 ⟨rfl,rfl⟩
   gi_wp2
   have hln:=HN.out
   subst hln
   have hcap3:=HOx.out.reads.ents.1.2
   have hdd:0 < t.ents.length→∃ b off,a3=some ⟨b,off,none⟩∧b < w3.heap.size∧EntsAt ((wr.alloc (.cells #[.slice none 0 0] 154)).alloc (.cells #[.slice a3 t.ents.length cap3] 154)) b off t.ents:=fun hp=>by
    obtain ⟨b,off,ha,he⟩:=(own_alloc (o:=.cells #[.slice a3 t.ents.length cap3] 154) (own_alloc (o:=.cells #[.slice none 0 0] 154) HOx.out)).reads.ents.2.2 hp
    have ho:(Value.slice a3 t.ents.length cap3).ownBlock=some b:=by
     rcases HOx.out.2 with ⟨e,h0⟩|⟨g,cp,cur,e,_⟩
     ·omega
     ·rw [ha] at e
      cases e
      rw [ha]
      rfl
    exact ⟨b,off,ha,HBL.out _ ho,he⟩
   have HDD:=LH hdd
   have HCAP:=LH hcap3
   have hB6:w.heap.size≤wr.heap.size:=by omega
   have HBk:=LH (Blk.new (w:=wr.alloc (.cells #[.slice none 0 0] 154)) (g:=wr.heap.size+1) (t:=154) (cs:=[.slice a3 t.ents.length cap3]) (by simp))
   have HLb:=LH (Blk.alloc (Blk.new (w:=wr) (t:=154) (cs:=[.slice none 0 0]) rfl) (.cells #[.slice a3 t.ents.length cap3] 154))
   clear hdd hcap3 p0 p1 p2 p3 pz
   have st:=back_places Fence.wide 3 trivial rfl (by omega) (wr.heap.size+1) w3.heap.size a3 cap3 t.ents HLE.out _ (by simp) (by simp;omega) (HBk.out.cell 0) HCAP.out HDD.out
   refine wpIn_rangeFunc_ownH rfl (by omega) (gf:=135) (lb:=#[.pointer (some ⟨wr.heap.size+1,0,none⟩)]) rfl trivial (enters_of Tryz.func135 (by kernel_rfl) rfl)
    st (fun h k=>h.trans k) (backK_b (by simp;omega) (by simp)) (Below.refl _ _) (fun _=>rfl)
    (CmpI w w3 t m a3 t.ents.length cap3 wr.heap.size) (fun _ _ _=>False) (cmpI_own (by simp;omega) (by simp;omega)) (fun _ _ _ _ _ h _ _=>h)
    ?init
    (fun x a' W=>∃ (Bx:Nat) (f:Nat→Value),(wr.heap.size+1 < Bx∧Bx < W.heap.size)∧Blk W Bx 215 (entCells (t.ents.getD x default))∧a'={ tmps:=#[f 0,f 1,.pointer (some ⟨w.heap.size,0,none⟩),f 3,.pointer (some ⟨w.heap.size+1,0,none⟩),f 5,f 6,.pointer (some ⟨w3.heap.size+1,0,none⟩),f 8,f 9,.pointer (some ⟨wr.heap.size,0,none⟩),f 11,.pointer (some ⟨Bx,0,none⟩),f 13,f 14,f 15,f 16,f 17,f 18,f 19,f 20,f 21,f 22,f 23,f 24,f 25,f 26,f 27,f 28,f 29,f 30,f 31,f 32,f 33,f 34,f 35,f 36,f 37,f 38,f 39,f 40,f 41,f 42,f 43,f 44,f 45,f 46,f 47,f 48,f 49,f 50,f 51,f 52,f 53,f 54,f 55,f 56,f 57,f 58,f 59,f 60,f 61,f 62,f 63,f 64,f 65,f 66,f 67,f 68,f 69,f 70,f 71,f 72,f 73,f 74,f 75,f 76,f 77,f 78,f 79,f 80,f 81,f 82,f 83,f 84,f 85,f 86],defers:=[] })
    (fun x a' _ X' Y' row hs hg hr=>by
     obtain ⟨Bx,f,⟨h1,h2⟩,h3,h4⟩:=hs
     exact ⟨Bx,f,⟨h1,Nat.lt_of_lt_of_le h2 hg.size⟩,blk_row h3 hg (fun r e=>(hr r e).2),h4⟩)
    ?assign ?body ?done ?stop
   case init =>
    have g0:=HSx.out
    rw [List.take_length] at g0
    refine ⟨none,0,⟨(HPx.out.alloc _).alloc _,(HRx.out.alloc _).alloc _⟩,(HMx.out.alloc _).alloc _,⟨_,seen_alloc (seen_alloc g0 _) _⟩,⟨HLb.out,?_⟩,HBk.out,below_alloc (below_alloc HBx.out)⟩
    exact World.ownsRow_nil _ _ _ _
   case assign =>
    rintro l pre x W K hI hKK
    obtain ⟨al,capl,⟨hP,hR⟩,hM,⟨ks,hS⟩,⟨hL,hO⟩,hBk,hB⟩:=hI
    have hlb:=hBk.lt
    gi_wp2
    refine hKK _ _ ((KeepsOthers.alloc _ _).from _) ⟨(Below.refl _ W).alloc (by omega) _,Below.heap_alloc W _ _ hBk.lt⟩ ⟨al,capl,⟨hP.alloc _,hR.alloc _⟩,hM.alloc _,⟨ks,seen_alloc hS _⟩,⟨hL.alloc _,own_alloc hO⟩,hBk.alloc _,hB.alloc hB.size _⟩ ⟨W.heap.size,slots_ax _ ⟨by omega,by simp⟩ (Blk.new rfl) rfl⟩
   case body =>
    rintro l pre x a' W hl ⟨r,hr⟩ ⟨al,capl,hJ⟩ ⟨Bx,f,⟨hx1,hx2⟩,hE,rfl⟩ hlt
    obtain ⟨K,E,hKE⟩:∃ K E,runC m t.ents (pre.map fun i=>t.ents.getD i default)=(K,E):=⟨_,_,rfl⟩
    have hst:runC m t.ents ((pre++[x]).map fun i=>t.ents.getD i default)=stepC m (K,E) (t.ents.getD x default):=by rw [List.map_append,List.map_singleton,runC_snoc,hKE]
    rw [hKE] at hJ
    simp only at hJ
    have HJ:=LH hJ
    obtain ⟨⟨hP,hR⟩,hM,⟨ks,hS⟩,⟨hL,hO⟩,hBk,hB⟩:=hJ
    have hEl:E.length≤999999:=by
     have h0:=runC_len m t.ents (pre.map fun i=>t.ents.getD i default)
     rw [hKE,List.length_map] at h0
     have:=HLE.out
     simp only at h0
     omega
    have hxk:(t.ents.getD x default).key.size≤maxLen:=by
     by_cases hx:x < t.ents.length
     ·have e:t.ents.getD x default=t.ents[x]:=by simp [List.getD,hx]
      rw [e]
      exact HKK.out _ (List.getElem_mem hx)
     ·have e:t.ents.getD x default=default:=by simp [List.getD,hx]
      rw [e]
      exact Nat.zero_le _
    obtain ⟨y,hy⟩:∃ y,y=t.ents.getD x default:=⟨_,rfl⟩
    rw [← hy] at hE hst hxk
    have HST:=LH hst
    have HEL:=LH hEl
    have HXK:=LH hxk
    have HPb:=LH hP
    have HRb:=LH hR
    have HMb:=LH hM
    have HSb:=LH hS
    have HLb2:=LH hL
    have HOb:=LH hO
    have HBb:=LH hBk
    have HB2:=LH hB
    have HEb:=LH hE
    obtain ⟨p0,p1,p2,p3,pz⟩:=cells4 hP
    obtain ⟨m0,mz⟩:=cells1 hM
    obtain ⟨l0,lz⟩:=cells1 hL
    obtain ⟨e0,e1,e2,e3,ez⟩:=cells4 hE
    have hs0:w.heap.size < W.heap.size:=hP.lt
    have hs1:=hBk.lt
    have ZI:=LH (@zero_int W)
    clear hP hR hM hS hL hO hBk hB hE hr hst hEl hxk hy hKE
    by_cases hxm:y.off < m
    ·have hdm:decide (y.off < m)=true:=by simpa using hxm
     by_cases hin:y.key∈K
     ·have HIN:=LH hin
      have look:=HSb.out.look Tryz.underlying9 Tryz.underlying240 Tryz.underlying3 ZI.out HXK.out 1 (Or.inl ⟨hin,rfl⟩)
      obtain ⟨w5,hdel,hs5,hg5⟩:=HSb.out.delete (tm:=240) Tryz.underlying9 Tryz.underlying240 HXK.out 0
      have HG5:=LH hg5
      have nb:∀ g,g≠w3.heap.size→some w3.heap.size≠some g:=fun g hg e=>hg (by injection e with e;exact e.symm)
      have HJ5:=LH (show CmpJ w w3 t m a3 t.ents.length cap3 wr.heap.size (K.filter fun k=>decide (k≠y.key)) E al capl w5 from
       ⟨⟨HPb.out.grown hg5 (nb _ (by omega)),HRb.out.grown hg5 (nb _ (by omega))⟩,HMb.out.grown hg5 (nb _ (by omega)),⟨_,hs5⟩,⟨HLb2.out.grown hg5 (nb _ (by omega)),own_grown HOb.out hg5 (fun e=>by have:=(HOb.out.lt _ e).1;omega)⟩,HBb.out.grown hg5 (nb _ (by omega)),HB2.out.grown hg5 HB2.out.size (fun j e=>by injection e with e;omega)⟩)
      obtain ⟨l5,lz5⟩:=cells1 (HLb2.out.grown hg5 (nb _ (by omega)))
      obtain ⟨f0,f1,f2,f3,fz⟩:=cells4 (HEb.out.grown hg5 (nb _ (by omega)))
      have hz5:wr.heap.size+2≤w5.heap.size:=by have:=hg5.size;omega
      clear hs5 hg5 hin nb
      gi_wp2_with (gi_at_builtin;go_must (refine wpListIn_append_own _ rfl _ _ 154 rfl (wr.heap.size+2) 215 i0 _ 4 48 Tryz.underlying154 hi hz0 hz1 hz2 rfl (by decide) _ _ _ rfl (own_alloc HJ5.out.2.2.2.1.2) ⟨w5.heap.size,0,none⟩ 1 1 (entCells y) rfl rfl ?_ (by intro v hv;simp [entCells] at hv;rcases hv with rfl|rfl|rfl|rfl <;> rfl) (by have:=HEL.out;unfold maxLen;omega) (by have:=HEL.out;omega) (by simp;omega) ?_))
      ·intro j v hv
       match j,hv with
       |0,hv=>simp [entCells] at hv;subst hv;simp
       |1,hv=>simp [entCells] at hv;subst hv;simp
       |2,hv=>simp [entCells] at hv;subst hv;simp
       |3,hv=>simp [entCells] at hv;subst hv;simp
      ·intro v' w6 hown6 hgrow _
       have HO6:=LH (show OwnE w6 (wr.heap.size+2) v' (E++[y]) by
        show w6.ownsRow _ _ _ _ _ _
        simpa [List.flatMap_append] using hown6)
       obtain ⟨a6,cap6,hv6⟩:=own_shape HO6.out
       subst hv6
       obtain ⟨g0,gz⟩:=cells1 ((HJ5.out.2.2.2.1.1.alloc _).grown hgrow (fun e=>by have:=(HJ5.out.2.2.2.1.2.lt _ e).1;omega))
       have PU:=LH (cmpJ_push HJ5.out (by omega) (by omega) (q:=E.length+1) (by simp) hgrow HO6.out)
       clear hown6 hgrow
       gi_wp2
       refine ⟨((KeepsFrom.of_grownBy HG5.out (fun j e=>by injection e with e;subst e;simp;omega)).trans (PU.out.2.1.from _)),BackK.trans ⟨(Below.refl _ _).grown HG5.out (by omega) (fun j e=>by injection e with e;omega),HG5.out.block _ (by omega) (fun e=>by injection e with e;omega)⟩ PU.out.2.2,⟨a6,cap6,?_⟩⟩
       rw [HST.out,stepC_yes hxm HIN.out]
       exact PU.out.1
     ·have HIN:=LH hin
      have look:=HSb.out.look Tryz.underlying9 Tryz.underlying240 Tryz.underlying3 ZI.out HXK.out 0 (Or.inr ⟨hin,rfl⟩)
      clear hin
      gi_wp2
      refine ⟨KeepsFrom.refl _ _,⟨Below.refl _ _,rfl⟩,⟨al,capl,?_⟩⟩
      rw [HST.out,stepC_no hxm HIN.out]
      exact HJ.out
    ·have hdm:decide (y.off < m)=false:=by simpa using hxm
     have HXM:=LH hxm
     have hz5:wr.heap.size+2≤W.heap.size:=by omega
     gi_wp2_with (gi_at_builtin;go_must (refine wpListIn_append_own _ rfl _ _ 154 rfl (wr.heap.size+2) 215 i0 _ 4 48 Tryz.underlying154 hi hz0 hz1 hz2 rfl (by decide) _ _ _ rfl (own_alloc HJ.out.2.2.2.1.2) ⟨W.heap.size,0,none⟩ 1 1 (entCells y) rfl rfl ?_ (by intro v hv;simp [entCells] at hv;rcases hv with rfl|rfl|rfl|rfl <;> rfl) (by have:=HEL.out;unfold maxLen;omega) (by have:=HEL.out;omega) (by simp;omega) ?_))
     ·intro j v hv
      match j,hv with
      |0,hv=>simp [entCells] at hv;subst hv;simp
      |1,hv=>simp [entCells] at hv;subst hv;simp
      |2,hv=>simp [entCells] at hv;subst hv;simp
      |3,hv=>simp [entCells] at hv;subst hv;simp
     ·intro v' w6 hown6 hgrow _
      have HO6:=LH (show OwnE w6 (wr.heap.size+2) v' (E++[y]) by
       show w6.ownsRow _ _ _ _ _ _
       simpa [List.flatMap_append] using hown6)
      obtain ⟨a6,cap6,hv6⟩:=own_shape HO6.out
      subst hv6
      obtain ⟨g0,gz⟩:=cells1 ((HJ.out.2.2.2.1.1.alloc _).grown hgrow (fun e=>by have:=(HJ.out.2.2.2.1.2.lt _ e).1;omega))
      have PU:=LH (cmpJ_push HJ.out (by omega) (by omega) (q:=E.length+1) (by simp) hgrow HO6.out)
      clear hown6 hgrow
      gi_wp2
      refine ⟨PU.out.2.1.from _,PU.out.2.2,⟨a6,cap6,?_⟩⟩
      rw [HST.out,stepC_out (show ¬ y.off < m by have:=HXM.out;omega)]
      exact PU.out.1
   case done =>
    rintro D ys W hD rfl ⟨al,capl,hJ⟩ hKD
    rw [idxD_ents] at hJ
    obtain ⟨E,hE⟩:∃ E,E=(runC m t.ents t.ents.reverse).2:=⟨_,rfl⟩
    obtain ⟨K,hK⟩:∃ K,K=(runC m t.ents t.ents.reverse).1:=⟨_,rfl⟩
    rw [← hE,← hK] at hJ
    have HJ:=LH hJ
    have HE:=LH hE
    have HD:=LH hKD
    have HEL:=LH (show E.length≤1000000 by
     have h0:=runC_len m t.ents t.ents.reverse
     rw [← hE,List.length_reverse] at h0
     have:=HLE.out
     omega)
    obtain ⟨⟨hP,hR⟩,hM,hS,⟨hL,hO⟩,hBk,hB⟩:=hJ
    obtain ⟨l0,lz⟩:=cells1 hL
    have hs0:w.heap.size+1 < W.heap.size:=hR.lt
    clear hE hK hKD hP hR hM hS hL hO hBk hB
    gi_wp2
    refine ⟨trivial,?_⟩
    refine CallsIn.mono (callsIn_wide.2 (rev_any HJ.out.2.2.2.1.2 HEL.out)) ?_
    rintro e w7 ⟨⟨u,rfl⟩,o7,z7,f7,b7⟩
    have ne:∀ g,g < wr.heap.size+2→(Value.slice al E.length capl).ownBlock≠some g:=fun g hg e=>by have:=(HJ.out.2.2.2.1.2.lt _ e).1;omega
    have neD:(Value.slice al E.length capl).ownBlock≠some D:=fun e=>by
     have hk:=HD.out
     rcases HJ.out.2.2.2.1.2.2 with ⟨e',_⟩|⟨g,cp,cur,hv,_,hh,_⟩
     ·rw [e'] at e;cases e
     ·rw [hv] at e;cases e;rw [hh] at hk;cases hk
    have HP7:=LH (show Blk w7 w.heap.size 156 _ from (f7 _ (ne _ (by omega))).trans HJ.out.1.1)
    have HR7:=LH (show Blk w7 (w.heap.size+1) 156 _ from (f7 _ (ne _ (by omega))).trans HJ.out.1.2)
    have HL7:=LH (show Blk w7 wr.heap.size 154 _ from (f7 _ (ne _ (by omega))).trans HJ.out.2.2.2.1.1)
    have HD7:=LH ((f7 _ neD).trans HD.out)
    have HO7:=LH o7
    have HB7:=LH (HJ.out.2.2.2.2.2.trans ((b7 (by have:=HJ.out.2.2.2.2.1.lt;omega)).mono (B':=w.heap.size) (by omega)))
    obtain ⟨p0,p1,p2,p3,pz⟩:=cells4 HP7.out
    obtain ⟨r0,r1,r2,r3,rz⟩:=cells4 HR7.out
    obtain ⟨k0,kz⟩:=cells1 HL7.out
    have hs7:w.heap.size+1 < w7.heap.size:=HR7.out.lt
    clear ne neD o7 f7 b7 l0 lz
    gi_wp2
    have key:TopEnd1 ⟨t.base,t.next,markC t tq,leftC (markC t tq) t.ents⟩ 0 w=TopEnd1 ⟨t.base,t.next,m,E.reverse⟩ 0 w:=by rw [leftC,HMK.out,HE.out]
    rw [key]
    refine cmp_end (al:=al) (capl:=capl) (D:=D) (by simp at hD;omega) rfl rfl rfl ?_ ?_ ?_ ?_
    ·have g0:=((((HR7.out.far (b:=w.heap.size) (o:=3) (by omega) (.slice al E.length capl)).set_ 0 (.int .i64 t.base)).set_ 1 (.int .i64 t.next)).set_ 2 (.int .i64 m)).set_ 3 (.slice al E.length capl)
     simp only [List.set_cons_zero,List.set_cons_succ] at g0
     rw [List.length_reverse]
     exact g0
    ·rw [List.length_reverse]
     have g0:=HO7.out
     exact own_base (own_set (own_set (own_set (own_set (own_set g0 (by omega)) (by omega)) (by omega)) (by omega)) (by omega)) (by omega)
    ·repeat (first|with_reducible (first|exact HB7.out|exact Below.refl _ _|apply Below.drew|apply below_alloc)|((first|with_reducible refine Below.alloc ?_ ?_ _|with_reducible refine Below.setCell ?_ ?_ _);rotate_left;focus (first|(simp <;> omega)|omega)))
    ·exact KeepsOthers.same (((((KeepsOthers.setCell _ _ _).trans (KeepsOthers.setCell _ _ _)).trans (KeepsOthers.setCell _ _ _)).trans (KeepsOthers.setCell _ _ _)).trans (KeepsOthers.setCell _ _ _)) D _ HD7.out rfl
   case stop =>
    rintro D c pre W hD _ hf hKD
    exact hf.elim
theorem compact_any {v:Value} {t u:Top} {w:World} {x:Int} (tq:Int) (h:TopR w v t) (hk:∀ x∈t.ents,x.key.size≤maxLen) (hu:compactP t tq=(u,x)) :
  Calls Tryz.prog 97 #[v,.int .i64 tq] w (TopEnd1 u x w):=by
 by_cases hm:t.may
 ·by_cases ht:tq < 0∨1073741824 < tq
  ·rw [compactP_arg hm ht] at hu
   cases hu
   exact compact_arg tq h hk hm ht
  ·rw [compactP_yes hm ht] at hu
   cases hu
   exact compact_yes tq h hk hm (by omega) (by omega)
 ·rw [compactP_bad hm] at hu
  cases hu
  exact compact_bad tq h hk hm
end Go.Proofs.YtkkohllhebdlcaaGreatDoor
