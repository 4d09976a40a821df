/-
  Proved here: Lists of commands: own ones, and how they read. No program in sight bu Plain law of what is kept: a topic of which something was let go may b
-/
import Derived.Test.YtkkohllhebdlcaaGreatDoorY07
import Derived.Test.YtkkohllhebdlcaaGreatDoorY09
set_option maxRecDepth 100000
namespace Go.Proofs.YtkkohllhebdlcaaGreatDoor
open Go.RowKit
abbrev PCV:=(Value × Value) × PC
def comCs (p:PCV):List Value:=[.int .u8 p.2.kind,.int .i64 p.2.msg.id,p.1.1,.int .i64 p.2.msg.topic,.string p.2.msg.key,.string p.2.msg.body,.int .i64 p.2.id,.int .i64 p.2.time,p.1.2,.int .i64 p.2.topic,.int .i64 p.2.who,.int .i64 p.2.n]
theorem comCs_len (p:PCV):(comCs p).length=12:=rfl
def OwnL (w:World) (B:Nat) (p:PCV):Prop:=OwnI w B p.1.1 p.2.msg.groups∧OwnI w B p.1.2 p.2.members
def OwnK (w:World) (B:Nat) (v:Value) (l:List PC):Prop:=∃ pl:List PCV,pl.map (·.2)=l∧w.ownsRow B 58 12 v l.length (pl.flatMap comCs)∧∀ p∈pl,OwnL w B p
def CmdsR (w:World) (v:Value) (l:List PC):Prop:=∃ pl:List PCV,pl.map (·.2)=l∧SliceR w v 12 comCs pl∧∀ p∈pl,IntsR w p.1.1 p.2.msg.groups∧IntsR w p.1.2 p.2.members
theorem OwnL.keep {w w':World} {B:Nat} {p:PCV} (h:OwnL w B p) (hb:Below w.heap.size w w'):OwnL w' B p:=⟨h.1.keep hb,h.2.keep hb⟩
theorem OwnK.keep {w w':World} {B:Nat} {v:Value} {l:List PC} (h:OwnK w B v l) (hb:Below w.heap.size w w'):OwnK w' B v l:=by
 obtain ⟨pl,h1,h2,h3⟩:=h
 exact ⟨pl,h1,ownsRow_keep h2 hb,fun p hp=>(h3 p hp).keep hb⟩
theorem OwnK.nil (w:World) (B:Nat):OwnK w B (.slice none 0 0) []:=⟨[],rfl,World.ownsRow_nil _ _ _ _,fun _ h=>by cases h⟩
theorem OwnK.reads {w:World} {B:Nat} {v:Value} {l:List PC} (h:OwnK w B v l):CmdsR w v l:=by
 obtain ⟨pl,rfl,h2,h3⟩:=h
 rw [List.length_map] at h2
 exact ⟨pl,rfl,sliceR_of_owns comCs_len h2,fun p hp=>⟨(h3 p hp).1.reads,(h3 p hp).2.reads⟩⟩
theorem CmdsR.below {w w':World} {v:Value} {l:List PC} (h:CmdsR w v l) (hb:Below w.heap.size w w'):CmdsR w' v l:=by
 obtain ⟨pl,h1,h2,h3⟩:=h
 exact ⟨pl,h1,h2.below comCs_len hb,fun p hp=>⟨(h3 p hp).1.below hb,(h3 p hp).2.below hb⟩⟩
theorem OwnK.shape {w:World} {B:Nat} {v:Value} {l:List PC} (h:OwnK w B v l):∃ a cap,v=.slice a l.length cap:=by
 obtain ⟨pl,_,h2,_⟩:=h
 rcases h2.2 with ⟨rfl,h0⟩|⟨g,cp,cur,rfl,_⟩
 ·exact ⟨none,0,by rw [h0]⟩
 ·exact ⟨_,cp,rfl⟩
theorem OwnK.snoc {w w':World} {B n:Nat} {v v':Value} {l:List PC} {c:PCV} {pl:List PCV} (h1:pl.map (·.2)=l) (h2:w.ownsRow B 58 12 v n (pl.flatMap comCs)) (h3:∀ p∈pl,OwnL w B p)
  (hu:OwnL w B c) (hg:w.grownBy w' v.ownBlock) (hv:w'.ownsRow B 58 12 v' (n+1) (pl.flatMap comCs++comCs c)) (hn:n=l.length):OwnK w' B v' (l++[c.2]):=by
 have hne:∀ q:PCV,OwnL w B q→OwnL w' B q:=fun q hq=>⟨ownsRow_grown' hq.1 hg (fun k hk=>rows_ne hq.1 h2 (by decide) hk),ownsRow_grown' hq.2 hg (fun k hk=>rows_ne hq.2 h2 (by decide) hk)⟩
 refine ⟨pl++[c],by simp [h1],?_,fun p hp=>?_⟩
 ·rw [List.length_append,← hn]
  simpa [List.flatMap_append] using hv
 ·rcases List.mem_append.1 hp with hp|hp
  ·exact hne p (h3 p hp)
  ·rw [List.mem_singleton.1 hp]
   exact hne c hu
theorem info_com:(Tryz.prog.info? 58).map (fun i=>(i.zero,i.size,i.bytes))=some (some (.agg #[.int .u8 0,.int .i64 0,.slice none 0 0,.int .i64 0,.string ByteArray.empty,.string ByteArray.empty,.int .i64 0,.int .i64 0,.slice none 0 0,.int .i64 0,.int .i64 0,.int .i64 0]),12,144):=by kernel_rfl
end Go.Proofs.YtkkohllhebdlcaaGreatDoor
namespace Go.Proofs.YtkkohllhebdlcaaGreatDoor
theorem chk_mono {t t':Top} (h1:t'.mark=t.mark) (h2:t'.next=t.next):∀ (l:List Ent) (last:Int) (seen seen':List ByteArray),(∀ k,k∈seen'→k∈seen)→Top.chk t last seen l→Top.chk t' last seen' l
 |[],last,_,_,_,h=>by
  have h':max (last+1) t.mark=t.next:=h
  show max (last+1) t'.mark=t'.next
  rw [h1,h2];exact h'
 |x :: l,last,seen,seen',hs,⟨⟨a1,a2,a3,a4,a5⟩,hr⟩=>by
  refine ⟨⟨a1,a2,by rw [h2];exact a3,by rw [h1];exact a4,fun hm hk=>a5 (by rw [← h1];exact hm) (hs _ hk)⟩,?_⟩
  refine chk_mono h1 h2 l x.off _ _ ?_ hr
  rw [h1]
  intro k hk
  by_cases hm:x.off < t.mark
  ·rw [if_pos hm] at hk ⊢
   rcases List.mem_cons.1 hk with rfl|hk
   ·exact List.mem_cons_self
   ·exact List.mem_cons_of_mem _ (hs _ hk)
  ·rw [if_neg hm] at hk ⊢
   exact hs _ hk
theorem chk_above (t:Top):∀ (l:List Ent) (last:Int) (seen:List ByteArray),Top.chk t last seen l→∀ y∈l,last < y.off
 |[],_,_,_,_,hy=>by cases hy
 |x :: l,last,seen,⟨⟨_,a2,_⟩,hr⟩,y,hy=>by
  rcases List.mem_cons.1 hy with rfl|hy
  ·exact a2
  ·have:=chk_above t l x.off _ hr y hy
   omega
theorem chk_from {t t':Top} (h1:t'.mark=t.mark) (h2:t'.next=t.next) {b:Int} (hbn:b≤t.next):∀ (l:List Ent) (last:Int) (seen seen':List ByteArray),last+1≤b→(∀ k,k∈seen'→k∈seen)→Top.chk t last seen l→Top.chk t' (b - 1) seen' (fromE b l)
 |[],last,_,_,hb,_,h=>by
  have h':max (last+1) t.mark=t.next:=h
  show max (b - 1+1) t'.mark=t'.next
  rw [h1,h2];omega
 |x :: l,last,seen,seen',hb,hs,⟨⟨a1,a2,a3,a4,a5⟩,hr⟩=>by
  by_cases hx:b≤x.off
  ·have e:fromE b (x :: l)=x :: l:=by
    have:fromE b l=l:=fromE_all (fun y hy=>by have:=chk_above t l x.off _ hr y hy;omega)
    show List.filter _ _=_
    rw [List.filter_cons_of_pos (by simpa using hx)]
    exact congrArg _ this
   rw [e]
   refine ⟨⟨a1,by omega,by rw [h2];exact a3,by rw [h1];omega,fun hm hk=>a5 (by rw [← h1];exact hm) (hs _ hk)⟩,?_⟩
   refine chk_mono h1 h2 l x.off _ _ ?_ hr
   rw [h1]
   intro k hk
   by_cases hm:x.off < t.mark
   ·rw [if_pos hm] at hk ⊢
    rcases List.mem_cons.1 hk with rfl|hk
    ·exact List.mem_cons_self
    ·exact List.mem_cons_of_mem _ (hs _ hk)
   ·rw [if_neg hm] at hk ⊢
    exact hs _ hk
  ·have e:fromE b (x :: l)=fromE b l:=by
    show List.filter _ _=_
    rw [List.filter_cons_of_neg (by simpa using hx)]
    rfl
   rw [e]
   refine chk_from h1 h2 hbn l x.off _ _ (by omega) ?_ hr
   intro k hk
   by_cases hm:x.off < t.mark
   ·rw [if_pos hm];exact List.mem_cons_of_mem _ (hs _ hk)
   ·rw [if_neg hm];exact hs _ hk
def trimT (t:Top) (tq:Int):Top:=⟨trimTo t tq,t.next,t.mark,fromE (trimTo t tq) t.ents⟩
theorem trim_may {t:Top} {tq:Int} (h:t.may) (_:0≤tq):(trimT t tq).may:=by
 have hh:=h.1
 obtain ⟨a1,a2,a3,a4,a5,a6,a7⟩:=hh
 have hb:trimTo t tq≤t.next:=by unfold trimTo;omega
 have hb0:t.base≤trimTo t tq:=by unfold trimTo;omega
 refine (Top.may_iff _).2 ⟨⟨a1,a2,by show 0≤trimTo t tq;omega,hb,a5,a6,Nat.le_trans (fromE_len _ _) a7⟩,?_⟩
 exact chk_from (t:=t) (t':=trimT t tq) rfl rfl hb t.ents (t.base - 1) [] [] (by omega) (fun _ h=>h) ((Top.may_iff t).1 h).2
theorem from_from {b c:Int} (h:b≤c) (l:List Ent):fromE c (fromE b l)=fromE c l:=by
 show List.filter _ (List.filter _ l)=List.filter _ l
 rw [List.filter_filter]
 congr 1
 funext x
 by_cases e:c≤x.off
 ·have:b≤x.off:=by omega
  simp [e,this]
 ·simp [e]
end Go.Proofs.YtkkohllhebdlcaaGreatDoor
