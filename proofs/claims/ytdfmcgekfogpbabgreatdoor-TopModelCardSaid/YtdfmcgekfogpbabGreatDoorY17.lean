/-
  Proved here: How models read: from the form's reading to lists. No program in sight Models that a call itself made. No program in sight but its types. model.kept, model.entries: which entries are kept, where offsets are p model.entries; the document's Kept and Entries: where offsets are plac The document's Twin of models. model.topic, model.streamed: the topics that a model stands for. model.shaped; the docume
-/
import Derived.Test.YtdfmcgekfogpbabGreatDoorY08
import Derived.Test.YtdfmcgekfogpbabGreatDoorY15
import Derived.Deep.RegionHeld3
set_option maxRecDepth 100000
namespace Go.Proofs.YtdfmcgekfogpbabGreatDoor
open Go.RowKit Go.Deep Go.WideShapes Go.ChangeShapes
def plCells (p:Value × Pl):List Value:=[p.1,.int .i64 p.2.base,.int .i64 p.2.mark]
theorem plCells_len (p:Value × Pl):(plCells p).length=3:=rfl
def AllR (w:World) (u:Value) (p:Pl):Prop:=∃ a cap,u=.slice a p.all.length cap∧SliceR w u 4 entCells p.all
def PlsR (w:World) (v:Value) (l:List Pl):Prop:=∃ pl:List (Value × Pl),pl.map (·.2)=l∧SliceR w v 3 plCells pl∧∀ p∈pl,AllR w p.1 p.2
def MdlR (w:World) (v:Value) (m:Mdl):Prop:=∃ ta tc,v=.agg #[ta,tc]∧PlsR w ta m.tops∧RowsR w tc m.coms
def PlR (w:World) (v:Value) (p:Pl):Prop:=∃ a cap,v=.agg #[.slice a p.all.length cap,.int .i64 p.base,.int .i64 p.mark]∧SliceR w (.slice a p.all.length cap) 4 entCells p.all
theorem AllR.below {w w':World} {u:Value} {p:Pl} (h:AllR w u p) (hb:Below w.heap.size w w'):AllR w' u p:=by
 obtain ⟨a,cap,h1,h2⟩:=h
 exact ⟨a,cap,h1,h2.below entCells_len hb⟩
theorem PlR.below {w w':World} {u:Value} {p:Pl} (h:PlR w u p) (hb:Below w.heap.size w w'):PlR w' u p:=by
 obtain ⟨a,cap,h1,h2⟩:=h
 exact ⟨a,cap,h1,h2.below entCells_len hb⟩
theorem PlsR.below {w w':World} {v:Value} {l:List Pl} (h:PlsR w v l) (hb:Below w.heap.size w w'):PlsR w' v l:=by
 obtain ⟨pl,h1,h2,h3⟩:=h
 exact ⟨pl,h1,h2.below plCells_len hb,fun p hp=>(h3 p hp).below hb⟩
theorem MdlR.below {w w':World} {v:Value} {m:Mdl} (h:MdlR w v m) (hb:Below w.heap.size w w'):MdlR w' v m:=by
 obtain ⟨ta,tc,h1,h2,h3⟩:=h
 exact ⟨ta,tc,h1,h2.below hb,h3.below hb⟩
theorem mdlR_step {w w1 w2:World} {v:Value} {m:Mdl} (h:MdlR w v m) (hu:Below w.heap.size w w1) (hb:Below w1.heap.size w1 w2):Hid (MdlR w2 v m):=LH ((h.below hu).below hb)
theorem plR_of {w:World} {u:Value} {p:Pl} (h:AllR w u p):PlR w (.agg #[u,.int .i64 p.base,.int .i64 p.mark]) p:=by
 obtain ⟨a,cap,rfl,h2⟩:=h
 exact ⟨a,cap,rfl,h2⟩
def PlAt (w:World) (b o:Nat) (p:Pl):Prop:=∃ ea ecap,((w.cell? ⟨b,o,none⟩=some (.slice ea p.all.length ecap)∧w.cell? ⟨b,o+1,none⟩=some (.int .i64 p.base))∧w.cell? ⟨b,o+2,none⟩=some (.int .i64 p.mark))∧PlR w (.agg #[.slice ea p.all.length ecap,.int .i64 p.base,.int .i64 p.mark]) p
theorem PlsR.shape {w:World} {v:Value} {l:List Pl} (h:PlsR w v l):∃ a cap,v=.slice a l.length cap∧l.length≤cap∧cap≤maxLen∧(a=none→cap=0) ∧
  (0 < l.length→∃ b off,a=some ⟨b,off,none⟩∧∀ i,i < l.length→PlAt w b (off+i * 3) (l.getD i default)):=by
 obtain ⟨pl,rfl,⟨a,cap,h1,h2,h3,h4,h5⟩,h6⟩:=h
 refine ⟨a,cap,by rw [List.length_map];exact h1,by rw [List.length_map];exact h2,h3,h4,fun hp=>?_⟩
 rw [List.length_map] at hp
 obtain ⟨b,off,ha,hd⟩:=h5 hp
 refine ⟨b,off,ha,fun i hi=>?_⟩
 rw [List.length_map] at hi
 have e:(pl.map (·.2)).getD i default=pl[i].2:=by simp [List.getD,hi]
 rw [e]
 obtain ⟨ea,ecap,hu,hs⟩:=id (h6 _ (List.getElem_mem hi))
 have hT:=plR_of (h6 _ (List.getElem_mem hi))
 rw [hu] at hT
 have h0:=hd i hi 0 (by omega)
 refine ⟨ea,ecap,⟨⟨?_,by simpa [plCells,Nat.add_assoc] using hd i hi 1 (by omega)⟩,by simpa [plCells,Nat.add_assoc] using hd i hi 2 (by omega)⟩,hT⟩
 rw [Nat.add_zero] at h0
 rw [h0]
 simp [plCells,hu]
theorem MdlR.shape {w:World} {v:Value} {m:Mdl} (h:MdlR w v m):∃ a cap b n c,v=.agg #[.slice a m.tops.length cap,.slice b n c]∧PlsR w (.slice a m.tops.length cap) m.tops∧RowsR w (.slice b n c) m.coms:=by
 obtain ⟨ta,tc,rfl,h2,h3⟩:=h
 obtain ⟨a,cap,rfl,_⟩:=h2.shape
 obtain ⟨b,n,c,rfl⟩:=h3.shape
 exact ⟨a,cap,b,n,c,rfl,h2,h3⟩
theorem PlAt.keep {w w':World} {b o:Nat} {p:Pl} (h:PlAt w b o p) (hb:Below w.heap.size w w'):PlAt w' b o p:=by
 obtain ⟨ea,ecap,⟨⟨h0,h1⟩,h2⟩,h4⟩:=h
 exact ⟨ea,ecap,⟨⟨Go.Proofs.YtdfmcgekfogpbabGreatDoor.keep hb h0,Go.Proofs.YtdfmcgekfogpbabGreatDoor.keep hb h1⟩,Go.Proofs.YtdfmcgekfogpbabGreatDoor.keep hb h2⟩,h4.below hb⟩
theorem MdlR.pl {w:World} {a:Option Addr} {n cap:Nat} {l:List Pl} (h:PlsR w (.slice a n cap) l) {i:Int} (h0:0≤i) (h1:i < (l.length:Int)) :
  (n=l.length∧n≤cap∧cap≤maxLen)∧∃ b off,a=some ⟨b,off,none⟩∧PlAt w b (off+i.toNat * 3) (l.getD i.toNat default):=by
 obtain ⟨a',cap',hv,h2,h3,_,hd⟩:=h.shape
 cases hv
 obtain ⟨b,off,rfl,hd2⟩:=hd (by omega)
 exact ⟨⟨rfl,h2,h3⟩,b,off,rfl,hd2 _ (by omega)⟩
end Go.Proofs.YtdfmcgekfogpbabGreatDoor
namespace Go.Proofs.YtdfmcgekfogpbabGreatDoor
open Go.RowKit Go.Deep
def apartP (p q:Value × Pl):Prop:=∀ k,p.1.ownBlock=some k→q.1.ownBlock≠some k
def OwnP (w:World) (B:Nat) (v:Value) (l:List Pl):Prop :=
 ∃ pl:List (Value × Pl),pl.map (·.2)=l∧w.ownsRow B 105 3 v l.length (pl.flatMap plCells)∧(∀ p∈pl,OwnE w B p.1 p.2.all)∧pl.Pairwise apartP
def OwnM (w:World) (B:Nat) (v:Value) (m:Mdl):Prop:=∃ ta tc,v=.agg #[ta,tc]∧OwnP w B ta m.tops∧OwnC w B tc m.coms
theorem own_all {w:World} {B:Nat} {u:Value} {p:Pl} (h:OwnE w B u p.all):AllR w u p:=by
 obtain ⟨a,cap,rfl⟩:=own_shape h
 exact ⟨a,cap,rfl,h.reads⟩
theorem OwnP.reads {w:World} {B:Nat} {v:Value} {l:List Pl} (h:OwnP w B v l):PlsR w v l:=by
 obtain ⟨pl,rfl,h2,h3,_⟩:=h
 rw [List.length_map] at h2
 exact ⟨pl,rfl,sliceR_of_owns plCells_len h2,fun p hp=>own_all (h3 p hp)⟩
theorem OwnM.reads {w:World} {B:Nat} {v:Value} {m:Mdl} (h:OwnM w B v m):MdlR w v m:=by
 obtain ⟨ta,tc,rfl,h2,h3⟩:=h
 exact ⟨ta,tc,rfl,h2.reads,h3.reads⟩
theorem OwnP.keep {w w':World} {B:Nat} {v:Value} {l:List Pl} (h:OwnP w B v l) (hb:Below w.heap.size w w'):OwnP w' B v l:=by
 obtain ⟨pl,h1,h2,h3,h4⟩:=h
 exact ⟨pl,h1,ownsRow_keep h2 hb,fun p hp=>own_below (h3 p hp) hb,h4⟩
theorem OwnP.le {w:World} {B B':Nat} {v:Value} {l:List Pl} (h:OwnP w B v l) (hB:B'≤B):OwnP w B' v l:=by
 obtain ⟨pl,h1,h2,h3,h4⟩:=h
 exact ⟨pl,h1,ownsRow_le h2 hB,fun p hp=>own_base (h3 p hp) hB,h4⟩
theorem OwnP.nil (w:World) (B:Nat):OwnP w B (.slice none 0 0) []:=⟨[],rfl,World.ownsRow_nil _ _ _ _,(fun _ h=>by cases h),List.Pairwise.nil⟩
theorem OwnP.far {W:World} {B b o:Nat} {v u:Value} {l:List Pl} (h:OwnP W B v l) (hb:b < B):OwnP (W.setCell ⟨b,o,none⟩ u) B v l:=by
 obtain ⟨pl,h1,h2,h3,h4⟩:=h
 exact ⟨pl,h1,ownsRow_setCell_other h2 (fun e=>by have:=(h2.lt _ e).1;simp at this;omega) u,fun p hp=>own_set (h3 p hp) hb,h4⟩
theorem OwnP.snoc2 {w w':World} {B B2 n:Nat} {v v' u:Value} {l:List Pl} {t:Pl} {pl:List (Value × Pl)} (h1:pl.map (·.2)=l) (h2:w.ownsRow B 105 3 v n (pl.flatMap plCells)) (h3:∀ p∈pl,OwnE w B p.1 p.2.all) (h4:pl.Pairwise apartP) (h5:∀ p∈pl,∀ k,p.1.ownBlock=some k→k < B2)
  (hu:OwnE w B u t.all) (hu2:∀ k,u.ownBlock=some k→B2≤k) (hg:w.grownBy w' v.ownBlock) (hv:w'.ownsRow B 105 3 v' (n+1) (pl.flatMap plCells++plCells (u,t))) (hn:n=l.length):OwnP w' B v' (l++[t]):=by
 have hne:∀ q:Value × Pl,OwnE w B q.1 q.2.all→OwnE w' B q.1 q.2.all:=fun q hq=>ownsRow_grown' hq hg (fun k hk=>rows_ne hq h2 (by decide) hk)
 refine ⟨pl++[(u,t)],by simp [h1],?_,fun p hp=>?_,?_⟩
 ·rw [List.length_append,← hn]
  simpa [List.flatMap_append] using hv
 ·rcases List.mem_append.1 hp with hp|hp
  ·exact hne p (h3 p hp)
  ·rw [List.mem_singleton.1 hp]
   exact hne (u,t) hu
 ·rw [List.pairwise_append]
  refine ⟨h4,List.pairwise_singleton _ _,fun p hp q hq=>?_⟩
  rw [List.mem_singleton.1 hq]
  intro k hk hk2
  have a1:=h5 p hp k hk
  have a2:=hu2 k hk2
  omega
theorem OwnP.at_ {W:World} {B i n cap:Nat} {a:Option Addr} {l:List Pl} (h:OwnP W B (.slice a n cap) l) (hi:i < l.length):∃ g,a=some ⟨g,0,none⟩∧(B≤g∧g < W.heap.size)∧(n=l.length∧n≤cap∧cap≤maxLen)∧PlAt W g (i * 3) (l.getD i default)∧∀ o,W.frozen? ⟨g,o,none⟩=false:=by
 obtain ⟨a',cap',hv,hc,hm,_,hd⟩:=h.reads.shape
 cases hv
 obtain ⟨b,off,rfl,hd2⟩:=hd (by omega)
 have hat:=hd2 i hi
 clear hd hd2
 obtain ⟨pl,rfl,h2,h3,_⟩:=h
 rcases id h2.2 with ⟨e,h0⟩|⟨g,cp,cur,e,hB,hh,_⟩
 ·rw [List.length_map] at hi h0;omega
 ·cases e
  rw [Nat.zero_add] at hat
  rw [List.length_map] at h2
  exact ⟨b,rfl,⟨hB,(Array.getElem?_eq_some_iff.1 hh).1⟩,⟨rfl,hc,hm⟩,hat,fun o=>by rw [List.length_map] at *;exact h2.frozenAt o⟩
theorem news_pl (u:Value) (x:Pl) {W:World} {g:Nat} {t:TypeId} (hg:g=W.heap.size):∀ j y,(plCells (u,x))[j]?=some y→(W.alloc (.cells #[u,.int .i64 x.base,.int .i64 x.mark] t)).cell? ((⟨g,0,none⟩:Addr).add j)=some y:=by
 intro j y hy
 have hB:=Blk.new (w:=W) (t:=t) (cs:=plCells (u,x)) hg
 have h:=hB.cell j
 rw [show ((⟨g,0,none⟩:Addr).add j)=⟨g,j,none⟩ by unfold Addr.add;split <;> simp_all]
 rw [← hy]
 exact h
theorem plCells_one (a:Option Addr) (n c:Nat) (x:Pl):∀ v∈plCells (.slice a n c,x),v.oneCell'=true:=by
 intro v hv
 simp [plCells] at hv
 rcases hv with rfl|rfl|rfl <;> rfl
theorem info_pl:(Tryz.prog.info? 105).map (fun i=>(i.zero,i.size,i.bytes))=some (some (.agg #[.slice none 0 0,.int .i64 0,.int .i64 0]),3,40):=by kernel_rfl
def MdlEnd (m:Mdl) (w:World) (e:Ending) (w':World):Prop:=∃ ta tc,e=.returned (.agg #[ta,tc])∧OwnM w' w.heap.size (.agg #[ta,tc]) m∧Below w.heap.size w w'
end Go.Proofs.YtdfmcgekfogpbabGreatDoor
namespace Go.Proofs.YtdfmcgekfogpbabGreatDoor
open Go.RowKit
theorem kept1_any (y:Ent) (xb:Nat) (key:ByteArray) (w:World) (hc:w.cell? ⟨xb,2,none⟩=some (.string key)) :
  Calls Tryz.prog 66 #[.agg #[.int .i64 y.off,.int .i64 y.id,.string y.key,.string y.body],.pointer (some ⟨xb,0,none⟩)] w fun e w'=>e=.returned (.bool (decide (y.key=key)))∧Below w.heap.size w w':=by
 have hlt:xb < w.heap.size:=World.block_lt_of_cell? w _ hc
 obtain ⟨q,hq⟩:∃ q,q=decide (y.key=key):=⟨_,rfl⟩
 have hq2:(y.key.toList == key.toList)=q:=by
  rw [hq]
  by_cases e:y.key=key
  ·simp [e]
  ·have h2:y.key.toList≠key.toList:=fun h=>e (toList_eq h)
   simp [e,h2]
 rw [← hq]
 clear hq
 go_enter Tryz.func66,Tryz.ntmps66
 go_wp2_with fail
 go_ret
 exact ⟨by simp,(Below.refl _ _).alloc (Nat.le_refl _) _⟩
def hasK (key:ByteArray) (l:List Ent):Bool:=l.any fun y=>decide (y.key=key)
def SomeK (key:ByteArray) (l:List Ent) (w:World) (e:Ending) (w':World):Prop:=(∃ i:Int,e=.returned (.int .i64 i)∧(if hasK key l then 0≤i else i=-1))∧Below w.heap.size w w'
set_option maxHeartbeats 1000000 in
theorem idxKey_any {v:Value} {l:List Ent} {w:World} (h:SliceR w v 4 entCells l) (xb:Nat) (key:ByteArray) (hc:w.cell? ⟨xb,2,none⟩=some (.string key)) :
  Calls Tryz.prog 112 #[v,.func (.func 66) #[] #[.pointer (some ⟨xb,0,none⟩)]] w (SomeK key l w):=by
 obtain ⟨a,cap,hv,_⟩:=id h
 subst hv
 obtain ⟨⟨_,hcap⟩,⟨hmax,_⟩,hd⟩:=h.ents
 unfold maxLen at hmax
 have HT:=LH hc
 have HD:=LH hd
 obtain ⟨n,hn⟩:∃ n,n=l.length:=⟨_,rfl⟩
 rw [← hn] at HD hcap ⊢
 have HN:=LH hn
 clear hn hd h hc
 have hn':(n:Int)≤9223372036854775807:=by omega
 go_enter Tryz.func112,Tryz.ntmps112
 go_wp2_with fail
 go_loopg [5,8] n (fun g _ i wr=>∃ k:Nat,k≤n∧g=n - k∧i=.int .i64 (k:Int)∧Hid (∀ j,j < k→decide ((l.getD j default).key=key)=false)∧Hid (Below w.heap.size w wr))
 case atStart=>exact ⟨0,Nat.zero_le _,rfl,rfl,(fun j hj=>absurd hj (Nat.not_lt_zero _)),Below.refl _ _⟩
 case round =>
  obtain ⟨k,hk,rfl,rfl,hall,hb⟩:=hrel
  by_cases hlt:k < n
  ·have hk0:(0:Int)≤(k:Int):=by omega
   have hk1:(k:Int) < (n:Int):=by omega
   obtain ⟨bb,off,ha,h1⟩:=HD.out (by omega)
   subst ha
   have cc:=h1 k (by rw [← HN.out];exact hlt)
   clear h1
   obtain ⟨x,hx⟩:∃ x,x=l.getD k default:=⟨_,rfl⟩
   rw [← hx] at cc
   have HX:=LH hx
   have c0:=keep hb.out cc.1.1.1
   have c1:=keep hb.out cc.1.1.2
   have c2:=keep hb.out cc.1.2
   have c3:=keep hb.out cc.2
   clear hx cc
   obtain ⟨q,hq⟩:∃ q,q=decide (x.key=key):=⟨_,rfl⟩
   have L:=kept1_any x xb key wr (keep hb.out HT.out)
   rw [← hq] at L
   have HL:=LH L
   have HQ:=LH hq
   clear L hq
   cases q
   all_goals
    go_wp2_with fail
    refine HL.out.mono ?_
    rintro e w1 ⟨rfl,hb1⟩
    have HB2:=LH (hb.out.trans (hb1.mono hb.out.size))
    clear hb hb1 c0 c1 c2 c3
    go_wp2_with fail
   ·go_roundg (n - (k+1))
    case measure=>omega
    case rel =>
     refine ⟨k+1,by omega,rfl,by go_num,fun j hj=>?_,HB2⟩
     by_cases hjk:j < k
     ·exact hall.out j hjk
     ·obtain rfl:j=k:=by omega
      rw [← HX.out,← HQ.out]
   ·go_ret
    refine ⟨⟨k,rfl,?_⟩,HB2.out⟩
    have:hasK key l=true:=by
     rw [hasK,List.any_eq_true]
     have h1:=HN.out
     refine ⟨x,?_,HQ.out.symm⟩
     rw [HX.out,show l.getD k default=l[k]'(by omega) by simp [List.getD,show k < l.length by omega]]
     exact List.getElem_mem _
    rw [if_pos this]
    omega
  ·obtain rfl:k=n:=by omega
   have hlt':¬ (k:Int) < (k:Int):=by omega
   go_wp2_with fail
   go_ret
   refine ⟨⟨-1,rfl,?_⟩,hb.out⟩
   have:hasK key l=false:=by
    rw [hasK,List.any_eq_false]
    intro y hy
    obtain ⟨j,hj,rfl⟩:=List.getElem_of_mem hy
    have h1:=hall.out j (by rw [HN.out];exact hj)
    rw [getD_at hj] at h1
    simpa using h1
   rw [if_neg (by rw [this];decide)]
theorem contKey_any {v:Value} {l:List Ent} {w:World} (h:SliceR w v 4 entCells l) (xb:Nat) (key:ByteArray) (hc:w.cell? ⟨xb,2,none⟩=some (.string key)) :
  Calls Tryz.prog 65 #[v,.func (.func 66) #[] #[.pointer (some ⟨xb,0,none⟩)]] w fun e w'=>e=.returned (.bool (hasK key l))∧Below w.heap.size w w':=by
 have K:=LH (idxKey_any h xb key hc)
 obtain ⟨q,hq⟩:∃ q,q=hasK key l:=⟨_,rfl⟩
 have HQ:=LH hq
 rw [← hq]
 clear h hc hq
 go_enter Tryz.func65,Tryz.ntmps65
 go_wp2_with fail
 refine K.out.mono ?_
 rintro e w1 ⟨⟨i,rfl,hi⟩,hb⟩
 have HB:=LH hb
 rw [← HQ.out] at hi
 clear hb
 cases q
 ·rw [if_neg (by decide)] at hi
  subst hi
  go_wp2_with fail
  go_ret
  exact ⟨rfl,HB.out⟩
 ·rw [if_pos rfl] at hi
  go_wp2_with fail
  go_ret
  refine ⟨?_,HB.out⟩
  first
   |rfl
   |(simp;omega)
theorem sliceR_part {w:World} {b off n cap:Nat} {l:List Ent} (h:SliceR w (.slice (some ⟨b,off,none⟩) n cap) 4 entCells l) {lo hi:Nat} (h1:lo≤hi) (h2:hi≤n) :
  SliceR w (.slice (some ⟨b,off+lo * 4,none⟩) (hi - lo) (cap - lo)) 4 entCells ((l.drop lo).take (hi - lo)):=by
 obtain ⟨a',cap',e,k2,k3,k4,k5⟩:=h
 cases e
 have hl:((l.drop lo).take (hi - lo)).length=hi - lo:=by rw [List.length_take,List.length_drop];omega
 refine ⟨some ⟨b,off+lo * 4,none⟩,cap - lo,by rw [hl],by rw [hl];omega,by omega,fun hn=>by (cases hn),fun hp=>⟨b,off+lo * 4,rfl,fun i hi' j hj=>?_⟩⟩
 rw [hl] at hp hi'
 obtain ⟨b',off',ha,hd⟩:=k5 (by omega)
 cases ha
 have:=hd (lo+i) (by omega) j hj
 rw [List.getElem_take,List.getElem_drop,← this]
 congr 2
 omega
theorem hasK_part {p:Pl} (h:shapedP p) {i:Nat} (hi:(i:Int) < p.mark) (key:ByteArray):hasK key ((p.all.drop (i+1)).take (p.mark.toNat - (i+1)))=hasL p.mark key (p.all.drop (i+1)):=by
 obtain ⟨h1,h2,⟨h3,h4⟩,h5,h6⟩:=h
 have e:hasL p.mark key (p.all.drop (i+1))=true↔hasK key ((p.all.drop (i+1)).take (p.mark.toNat - (i+1)))=true:=by
  rw [hasL_iff,hasK,List.any_eq_true]
  constructor
  ·rintro ⟨y,hy,hm,hk⟩
   obtain ⟨j,hj,rfl⟩:=List.getElem_of_mem hy
   rw [List.length_drop] at hj
   rw [List.getElem_drop] at hm hk
   have ho:=(h1 (i+1+j) (by omega)).1
   rw [getD_at (by omega)] at ho
   refine ⟨p.all[i+1+j],?_,by simpa using hk⟩
   rw [List.mem_take_iff_getElem]
   refine ⟨j,by rw [List.length_drop];omega,?_⟩
   rw [List.getElem_drop]
  ·rintro ⟨y,hy,hk⟩
   obtain ⟨j,hj,rfl⟩:=List.mem_take_iff_getElem.1 hy
   rw [List.length_drop] at hj
   rw [List.getElem_drop] at hk
   have ho:=(h1 (i+1+j) (by omega)).1
   rw [getD_at (by omega)] at ho
   refine ⟨p.all[i+1+j],?_,by omega,by simpa using hk⟩
   rw [← List.getElem_drop (h:=by rw [List.length_drop];omega)]
   exact List.getElem_mem _
 exact (Bool.eq_iff_iff.2 e).symm
set_option maxHeartbeats 1000000 in
theorem kept_any {v:Value} {p:Pl} {w:World} (i:Nat) (h:PlR w v p) (hs:shapedP p) (hi:i < p.all.length) :
  Calls Tryz.prog 34 #[v,.agg #[.int .i64 (p.all.getD i default).off,.int .i64 (p.all.getD i default).id,.string (p.all.getD i default).key,.string (p.all.getD i default).body]] w fun e w'=>e=.returned (.bool (keptI p i))∧Below w.heap.size w w':=by
 have PP:=LH h
 have HS:=LH hs
 obtain ⟨a,cap,rfl,hsl⟩:=h
 obtain ⟨h1,h2,⟨h3,h4⟩,h5,h6⟩:=id hs
 have hk:=keptI_off (h1 i hi)
 have hoff:=(h1 i hi).1
 obtain ⟨x,hx⟩:∃ x,x=p.all.getD i default:=⟨_,rfl⟩
 rw [← hx] at hoff hk ⊢
 obtain ⟨xo,xi,xk,xbd⟩:=x
 simp only at hoff hk ⊢
 subst hoff
 have HX:=LH hx
 clear hs h1 hx
 by_cases c1:(i:Int) < p.base
 ·have e:keptI p i=false:=by rw [hk];simp;omega
  rw [e]
  clear hk e hsl
  go_enter Tryz.func34,Tryz.ntmps34
  go_wp2_with fail
  go_ret
  refine ⟨rfl,?_⟩
  repeat (first|with_reducible (first|exact Below.refl _ _|apply Below.drew|apply below_alloc)|((first|with_reducible refine Below.alloc ?_ ?_ _|with_reducible refine Below.setCell ?_ ?_ _);rotate_left;focus (first|(simp <;> omega)|omega)))
 ·by_cases c2:p.mark≤(i:Int)
  ·have e:keptI p i=true:=by rw [hk];simp;omega
   rw [e]
   clear hk e hsl
   go_enter Tryz.func34,Tryz.ntmps34
   go_wp2_with fail
   go_ret
   refine ⟨rfl,?_⟩
   repeat (first|with_reducible (first|exact Below.refl _ _|apply Below.drew|apply below_alloc)|((first|with_reducible refine Below.alloc ?_ ?_ _|with_reducible refine Below.setCell ?_ ?_ _);rotate_left;focus (first|(simp <;> omega)|omega)))
  ·have hp:=hasK_part HS.out (show (i:Int) < p.mark by omega) xk
   obtain ⟨q,hq⟩:∃ q,q=hasL p.mark xk (p.all.drop (i+1)):=⟨_,rfl⟩
   rw [← hq] at hp hk
   have e:keptI p i=!q:=by rw [hk,decide_eq_true (show p.base≤(i:Int) by omega),decide_eq_true (show (i:Int) < p.mark by omega)];simp
   rw [e]
   obtain ⟨mk,hmk⟩:∃ mk:Nat,p.mark=(mk:Int):=⟨p.mark.toNat,by omega⟩
   rw [hmk] at hp c2 h6
   rw [hmk]
   rw [Int.toNat_natCast] at hp
   obtain ⟨⟨_,hcap⟩,⟨hmx,_⟩,hd⟩:=hsl.ents
   obtain ⟨b,off,ha,_⟩:=hd (by omega)
   subst ha
   have HP:=LH hp
   have HSL:=LH (sliceR_part hsl (lo:=i+1) (hi:=mk) (by omega) (by omega))
   unfold maxLen at hmx
   have hw1:IntKind.i64.wrap ((i:Int)+1)=((i+1:Nat):Int):=by rw [IntWalk.i64_in _ (by omega)];omega
   clear hsl hd hk hq e hp hmk PP
   by_cases hcc:cap=i+1
   ·obtain rfl:mk=i+1:=by omega
    have e0:(p.all.drop (i+1)).take (i+1 - (i+1))=[]:=by rw [Nat.sub_self,List.take_zero]
    have hp0:=HP.out
    rw [e0] at hp0
    have HQ:=LH hp0
    have HSL0:Hid (SliceR w (.slice (some ⟨b,off,none⟩) 0 0) 4 entCells []):=LH ⟨some ⟨b,off,none⟩,0,rfl,Nat.le_refl _,Nat.zero_le _,fun hn=>by (cases hn),fun hp=>absurd hp (Nat.lt_irrefl _)⟩
    subst hcc
    clear hp0 HSL HP e0
    go_enter Tryz.func34,Tryz.ntmps34
    go_wp2_with fail
    refine Calls.mono (contKey_any (l:=[]) ?_ _ xk ?_) ?_
    ·first|exact HSL0.out.below entCells_len (by repeat (first|with_reducible (first|exact Below.refl _ _|apply Below.drew|apply below_alloc)|((first|with_reducible refine Below.alloc ?_ ?_ _|with_reducible refine Below.setCell ?_ ?_ _);rotate_left;focus (first|(simp <;> omega)|omega))))|(have h9:=HSL0.out.below entCells_len (show Below w.heap.size w _ by repeat (first|with_reducible (first|exact Below.refl _ _|apply Below.drew|apply below_alloc)|((first|with_reducible refine Below.alloc ?_ ?_ _|with_reducible refine Below.setCell ?_ ?_ _);rotate_left;focus (first|(simp <;> omega)|omega))));simpa using h9)
    ·simp
    rintro e w1 ⟨rfl,hb⟩
    have HB:Hid (Below w.heap.size w _):=below_step (by repeat (first|with_reducible (first|exact Below.refl _ _|apply Below.drew|apply below_alloc)|((first|with_reducible refine Below.alloc ?_ ?_ _|with_reducible refine Below.setCell ?_ ?_ _);rotate_left;focus (first|(simp <;> omega)|omega)))) hb
    rw [HQ.out]
    clear hb
    go_wp2_with fail
    go_ret
    exact ⟨rfl,HB.out⟩
   ·go_enter Tryz.func34,Tryz.ntmps34
    go_wp2_with fail
    refine Calls.mono (contKey_any (l:=(p.all.drop (i+1)).take (mk - (i+1))) ?_ _ xk ?_) ?_
    ·exact HSL.out.below entCells_len (by repeat (first|with_reducible (first|exact Below.refl _ _|apply Below.drew|apply below_alloc)|((first|with_reducible refine Below.alloc ?_ ?_ _|with_reducible refine Below.setCell ?_ ?_ _);rotate_left;focus (first|(simp <;> omega)|omega))))
    ·simp
    rintro e w1 ⟨rfl,hb⟩
    have HB:Hid (Below w.heap.size w _):=below_step (by repeat (first|with_reducible (first|exact Below.refl _ _|apply Below.drew|apply below_alloc)|((first|with_reducible refine Below.alloc ?_ ?_ _|with_reducible refine Below.setCell ?_ ?_ _);rotate_left;focus (first|(simp <;> omega)|omega)))) hb
    rw [HP.out]
    clear hb
    go_wp2_with fail
    go_ret
    exact ⟨rfl,HB.out⟩
end Go.Proofs.YtdfmcgekfogpbabGreatDoor
namespace Go.Proofs.YtdfmcgekfogpbabGreatDoor
open Go.RowKit
set_option maxHeartbeats 4000000 in
set_option maxRecDepth 100000 in
theorem entries_any {v:Value} {p:Pl} {w:World} (h:PlR w v p) (hs:shapedP p) :
  Calls Tryz.prog 60 #[v] w (CloneEnd (entP p) w):=by
 obtain ⟨i0,hi,hz0,hz1,hz2⟩:=info_parts info_ent
 have PP:=LH h
 have HS:=LH hs
 obtain ⟨a,cap,rfl,hsl⟩:=h
 have h2:=hs.2.1
 obtain ⟨⟨_,hcap⟩,⟨hmx,_⟩,hd⟩:=hsl.ents
 have HD:=LH hd
 obtain ⟨n,hn⟩:∃ n,n=p.all.length:=⟨_,rfl⟩
 rw [← hn] at HD PP hcap h2 ⊢
 have HN:=LH hn
 unfold maxLen at hmx
 have hl0:(n:Int)≤600:=by omega
 clear hs hsl hd hn
 go_enter Tryz.func60,Tryz.ntmps60
 go_wp2_with fail
 go_loopg [3,9] n (fun g o i wr=>∃ k:Nat,k≤n∧g=n - k∧i=.int .i64 (k:Int)∧Hid (OwnE wr (w.heap.size+1) o (preP p k))∧Hid (Below w.heap.size w wr)∧Hid (Blk wr w.heap.size 105 [.slice a n cap,.int .i64 p.base,.int .i64 p.mark]))
 case atStart=>exact ⟨0,Nat.zero_le _,rfl,rfl,World.ownsRow_nil _ _ _ _,below_alloc (Below.refl _ _),Blk.new rfl⟩
 case round =>
  obtain ⟨k,hk,rfl,rfl,HO,HB,HP⟩:=hrel
  obtain ⟨p0,p1,p2,pz⟩:=cells3 HP.out
  have pl:=HP.out.lt
  by_cases hlt:k < n
  ·have hk0:(0:Int)≤(k:Int):=by omega
   have hk1:(k:Int) < (n:Int):=by omega
   have hkl:k < p.all.length:=by rw [← HN.out];exact hlt
   obtain ⟨bb,off,ha,h1⟩:=HD.out (by omega)
   subst ha
   have cc:=h1 k hkl
   clear h1
   obtain ⟨x,hx⟩:∃ x,x=p.all.getD k default:=⟨_,rfl⟩
   rw [← hx] at cc
   have c0:=keep HB.out cc.1.1.1
   have c1:=keep HB.out cc.1.1.2
   have c2:=keep HB.out cc.1.2
   have c3:=keep HB.out cc.2
   have hgb:bb < wr.heap.size:=World.block_lt_of_cell? wr _ c0
   have HLEN:=LH (show (preP p k).length≤600 by have:=preP_len p k;omega)
   have KK:Hid (∀ (W:World) {v:Value},PlR W v p→Calls Tryz.prog 34 #[v,.agg #[.int .i64 x.off,.int .i64 x.id,.string x.key,.string x.body]] W fun e w'=>e=.returned (.bool (keptI p k))∧Below W.heap.size W w'):=LH (fun W v hW=>by rw [hx];exact kept_any k hW HS.out hkl)
   obtain ⟨q,hq⟩:∃ q,q=keptI p k:=⟨_,rfl⟩
   have HF:=LH (show preP p (k+1)=preP p k++(if q=true then [x] else []) by rw [preP,hq,hx])
   rw [← hq] at KK
   have HCC:=LH cc
   clear hx cc hkl hq
   go_wp2_with fail
   refine Calls.mono (KK.out _ ?_) ?_
   ·exact PP.out.below (by repeat (first|with_reducible (first|exact HB.out|exact Below.refl _ _|apply Below.drew|apply below_alloc)|((first|with_reducible refine Below.alloc ?_ ?_ _|with_reducible refine Below.setCell ?_ ?_ _);rotate_left;focus (first|(simp <;> omega)|omega))))
   rintro e w1 ⟨rfl,hb⟩
   have HB1:Hid (Below w.heap.size w w1):=below_step (by repeat (first|with_reducible (first|exact HB.out|exact Below.refl _ _|apply Below.drew|apply below_alloc)|((first|with_reducible refine Below.alloc ?_ ?_ _|with_reducible refine Below.setCell ?_ ?_ _);rotate_left;focus (first|(simp <;> omega)|omega)))) hb
   have HXB:Hid (Blk w1 wr.heap.size 50 [.int .i64 x.off,.int .i64 x.id,.string x.key,.string x.body]):=Blk.step (by repeat (first|with_reducible exact Blk.new rfl|((with_reducible apply Blk.new);focus (first|rfl|(simp <;> omega)))|with_reducible (first|apply Blk.drew|apply Blk.alloc|apply Blk.set_)|((with_reducible apply Blk.far);rotate_left;focus (first|(simp <;> omega)|omega)))) hb
   replace HP:Hid (Blk w1 w.heap.size 105 _):=Blk.step (by repeat (first|with_reducible exact HP.out|((with_reducible apply Blk.new);focus (first|rfl|(simp <;> omega)))|with_reducible (first|apply Blk.drew|apply Blk.alloc|apply Blk.set_)|((with_reducible apply Blk.far);rotate_left;focus (first|(simp <;> omega)|omega)))) hb
   have HO1:Hid (OwnE w1 (w.heap.size+1) _ (preP p k)):=own_step (by repeat (first|with_reducible (first|exact HO.out|apply own_drew|apply own_alloc)|((with_reducible apply own_set);rotate_left;focus (first|(simp <;> omega)|omega)))) hb
   clear hb p0 p1 p2 pz pl c0 c1 c2 c3
   obtain ⟨p0,p1,p2,pz⟩:=cells3 HP.out
   have pl:=HP.out.lt
   obtain ⟨x0,x1,x2,x3,xz⟩:=cells4 HXB.out
   have xl:=HXB.out.lt
   cases q
   ·have HF':Hid (preP p (k+1)=preP p k):=LH (by rw [HF.out];simp)
    clear HF
    go_wp2_with fail
    go_roundg (n - (k+1))
    case measure=>omega
    case rel =>
     refine ⟨k+1,by omega,rfl,by go_num,?_,HB1,HP⟩
     show OwnE _ _ _ (preP p (k+1))
     rw [HF'.out]
     exact HO1.out
   ·have HF':Hid (preP p (k+1)=preP p k++[x]):=LH (by rw [HF.out];simp)
    clear HF
    have HF:=HF'
    go_wp2_with (at_builtin;go_must (refine wpList_append_own _ rfl _ _ 101 rfl (w.heap.size+1) 50 i0 _ 4 48 Tryz.underlying101 hi hz0 hz1 hz2 rfl (by decide) _ _ _ rfl (HO1.out.alloc _) ⟨w1.heap.size,0,none⟩ 1 1 (entCells x) rfl rfl ?_ (by intro v hv;simp [entCells] at hv;rcases hv with rfl|rfl|rfl|rfl <;> rfl) (by have:=HLEN.out;unfold maxLen;omega) (by have:=HLEN.out;omega) (by have:=HB1.out.size;have:=pl;simp;omega) ?_))
    ·intro j v hv
     match j,hv with
     |0,hv=>simp [entCells] at hv;subst hv;simp [Addr.add]
     |1,hv=>simp [entCells] at hv;subst hv;simp [Addr.add]
     |2,hv=>simp [entCells] at hv;subst hv;simp [Addr.add]
     |3,hv=>simp [entCells] at hv;subst hv;simp [Addr.add]
    ·intro v' w2 hown2 hgrow _
     have HO2:=LH (show OwnE w2 (w.heap.size+1) v' (preP p (k+1)) by
      rw [HF.out]
      show w2.ownsRow _ _ _ _ _ _
      simpa [List.flatMap_append] using hown2)
     have HB2:=LH ((HB1.out.alloc HB1.out.size (.cells #[.int .i64 x.off,.int .i64 x.id,.string x.key,.string x.body] 50)).grown hgrow (by have:=HB1.out.size;simp;omega) (fun j hj=>by have:=(HO1.out.lt j hj).1;omega))
     have HP2:=LH (Blk.grown (HP.out.alloc _) hgrow (own_ne HO1.out (by omega)))
     clear hown2 hgrow
     go_wp2_with fail
     go_roundg (n - (k+1))
     case measure=>omega
     case rel=>exact ⟨k+1,by omega,rfl,by go_num,HO2,HB2,HP2⟩
  ·obtain rfl:k=n:=by omega
   have hlt':¬ (k:Int) < (k:Int):=by omega
   have ho:=HO.out
   rw [show preP p k=entP p by rw [HN.out];exact preP_all p] at ho
   obtain ⟨a',cap',hv'⟩:=own_shape ho
   have HO':=LH ho
   subst hv'
   clear ho
   go_wp2_with fail
   go_ret
   exact ⟨a',cap',rfl,own_base HO'.out (by omega),HB.out⟩
end Go.Proofs.YtdfmcgekfogpbabGreatDoor
namespace Go.Proofs.YtdfmcgekfogpbabGreatDoor
open Go.RowKit
def fitM (m:Mdl):Prop:=m.tops.length≤1000000∧few m.coms∧∀ p∈m.tops,p.all.length * 48≤140737488355328
end Go.Proofs.YtdfmcgekfogpbabGreatDoor
namespace Go.Proofs.YtdfmcgekfogpbabGreatDoor
open Go.RowKit
set_option maxHeartbeats 4000000 in
set_option maxRecDepth 100000 in
theorem mdlTopic_any {v:Value} {p:Pl} {w:World} (h:PlR w v p) (hs:shapedP p):Calls Tryz.prog 75 #[v] w (TwinEnd17 (topM p) w):=by
 have PP:=LH h
 have HS:=LH hs
 obtain ⟨a,cap,rfl,hsl⟩:=h
 obtain ⟨n,hn⟩:∃ n,n=p.all.length:=⟨_,rfl⟩
 have HN:=LH hn
 rw [← hn] at PP ⊢
 clear hs hsl hn
 go_enter Tryz.func75,Tryz.ntmps75
 go_wp2_with fail
 obtain ⟨wa,hwa⟩:∃ wa,wa=(w.alloc (.cells #[.slice a n cap,.int .i64 p.base,.int .i64 p.mark] 105)).alloc (.cells #[.int .i64 0,.int .i64 0,.int .i64 0,.slice none 0 0] 103):=⟨_,rfl⟩
 have HP0:Hid (Blk wa w.heap.size 105 [.slice a n cap,.int .i64 p.base,.int .i64 p.mark]):=LH (by rw [hwa];exact (Blk.new rfl).alloc _)
 have HR0:Hid (Blk wa (w.heap.size+1) 103 [.int .i64 0,.int .i64 0,.int .i64 0,.slice none 0 0]):=LH (by rw [hwa];exact Blk.new (by simp))
 have HB0:Hid (Below w.heap.size w wa):=LH (by rw [hwa];repeat (first|with_reducible (first|exact Below.refl _ _|apply Below.drew|apply below_alloc)|((first|with_reducible refine Below.alloc ?_ ?_ _|with_reducible refine Below.setCell ?_ ?_ _);rotate_left;focus (first|(simp <;> omega)|omega))))
 have hs0:w.heap.size+2=wa.heap.size:=by rw [hwa];simp
 rw [← hwa]
 have HS0:=LH hs0
 have pl:=HP0.out.lt
 have rl:=HR0.out.lt
 clear hwa hs0
 have KC:Hid (∀ W':World,Below (w.heap.size+1) wa W'→((W'.cell? ⟨w.heap.size,0,none⟩=some (.slice a n cap)∧W'.cell? ⟨w.heap.size,1,none⟩=some (.int .i64 p.base))∧W'.cell? ⟨w.heap.size,2,none⟩=some (.int .i64 p.mark))):=fun W' hb=>by
  have c:=fun (p:Addr) (hp:p.block < w.heap.size+1)=>hb.cell hp
  have pp:w.heap.size < w.heap.size+1:=Nat.lt_succ_self _
  obtain ⟨p0,p1,p2,-⟩:=cells3 HP0.out
  exact ⟨⟨(c _ pp).trans p0,(c _ pp).trans p1⟩,(c _ pp).trans p2⟩
 have KT:=KC.out wa (Below.refl _ _)
 obtain ⟨r0,r1,r2,r3,rz⟩:=cells4 HR0.out
 go_region_held3 (fun W'=>((W'.cell? ⟨w.heap.size,0,none⟩=some (.slice a n cap)∧W'.cell? ⟨w.heap.size,1,none⟩=some (.int .i64 p.base))∧W'.cell? ⟨w.heap.size,2,none⟩=some (.int .i64 p.mark)))
  (first|with_reducible exact KT|(exact KT4)|(refine KC.out _ ?_;(repeat (first|with_reducible (first|exact Below.refl _ _|apply Below.drew|apply below_alloc)|((first|with_reducible refine Below.alloc ?_ ?_ _|with_reducible refine Below.setCell ?_ ?_ _);rotate_left;focus (first|(simp <;> omega)|omega))));done)|(refine KC.out _ ?_;(repeat (first|with_reducible (first|exact HQ.out|exact Below.refl _ _|apply Below.drew|apply below_alloc)|((first|with_reducible refine Below.alloc ?_ ?_ _|with_reducible refine Below.setCell ?_ ?_ _);rotate_left;focus (first|(simp <;> omega)|omega))));done))
  (first|(go_at_call 60;refine Calls.mono (entries_any (p:=p) (PP.out.below (by repeat (first|with_reducible (first|exact HB0.out|exact Below.refl _ _|apply Below.drew|apply below_alloc)|((first|with_reducible refine Below.alloc ?_ ?_ _|with_reducible refine Below.setCell ?_ ?_ _);rotate_left;focus (first|(simp <;> omega)|omega))))) HS.out) ?_;rintro e w4 ⟨a4,c4,rfl,o4,hb⟩;have HQ2:Hid (Below wa.heap.size wa w4):=below_step (by repeat (first|with_reducible (first|exact Below.refl _ _|apply Below.drew|apply below_alloc)|((first|with_reducible refine Below.alloc ?_ ?_ _|with_reducible refine Below.setCell ?_ ?_ _);rotate_left;focus (first|(simp <;> omega)|omega)))) hb;have HQ:Hid (Below (w.heap.size+1) wa w4):=LH (HQ2.out.mono (by have:=HS0.out;omega));have O4:Hid (OwnE w4 (w.heap.size+2) _ (entP p)):=LH (own_base o4 (by have:=HS0.out;simp;omega));have HR:=LH (HR0.out.step HQ2.out);clear hb o4 r0 r1 r2 r3 rz;obtain ⟨r0,r1,r2,r3,rz⟩:=cells4 HR.out;have HB:Hid (Below w.heap.size w w4):=LH (HB0.out.trans (HQ2.out.mono HB0.out.size));have rl4:=HR.out.lt;have KT4:=KC.out _ HQ.out))
 all_goals
  go_wp2_with fail
  obtain ⟨t0,t1,t2,t3,-⟩:=cells4 ((((HR.out.set_ 0 (.int .i64 p.base)).set_ 1 (.int .i64 (n:Int))).set_ 2 (.int .i64 p.mark)).set_ 3 (.slice a4 (entP p).length c4))
  refine bodyPost_ret (v:=.agg #[.int .i64 p.base,.int .i64 (n:Int),.int .i64 p.mark,.slice a4 (entP p).length c4]) (by simp [results,Tryz.results75,go_sem,t0,t1,t2,t3]) rfl ⟨a4,c4,by rw [HN.out];rfl,?_,?_⟩
  ·show OwnE _ _ (.slice a4 (entP p).length c4) (entP p)
   refine own_base (B:=w.heap.size+2) ?_ (by omega)
   repeat (first|with_reducible (first|exact O4.out|apply own_drew|apply own_alloc)|((with_reducible apply own_set);rotate_left;focus (first|(simp <;> omega)|omega)))
  ·repeat (first|with_reducible (first|exact HB.out|exact Below.refl _ _|apply Below.drew|apply below_alloc)|((first|with_reducible refine Below.alloc ?_ ?_ _|with_reducible refine Below.setCell ?_ ?_ _);rotate_left;focus (first|(simp <;> omega)|omega)))
end Go.Proofs.YtdfmcgekfogpbabGreatDoor
namespace Go.Proofs.YtdfmcgekfogpbabGreatDoor
open Go.RowKit
set_option maxHeartbeats 4000000 in
set_option maxRecDepth 100000 in
theorem shaped_any {v:Value} {p:Pl} {w:World} (h:PlR w v p):Calls Tryz.prog 74 #[v] w fun e w'=>e=.returned (.bool (decide (shapedP p)))∧Below w.heap.size w w':=by
 obtain ⟨a,cap,rfl,hsl⟩:=h
 obtain ⟨⟨_,hcap⟩,⟨hmx,_⟩,hd⟩:=hsl.ents
 have HD:=LH hd
 obtain ⟨n,hn⟩:∃ n,n=p.all.length:=⟨_,rfl⟩
 rw [← hn] at HD hcap ⊢
 have HN:=LH hn
 unfold maxLen at hmx
 have hl0:(n:Int)≤9223372036854775807:=by omega
 obtain ⟨z,hz⟩:∃ z,z=decide (shapedP p):=⟨_,rfl⟩
 rw [← hz]
 have HZ:=LH hz
 clear hsl hd hn hz
 go_enter Tryz.func74,Tryz.ntmps74
 go_wp2_with fail
 go_loopg [8] n (fun g i wr=>∃ k:Nat,k≤n∧g=n - k∧i=.int .i64 (k:Int)∧Hid (∀ j,j < k→entAt p j)∧Hid (Below w.heap.size w wr)∧Hid (Blk wr w.heap.size 105 [.slice a n cap,.int .i64 p.base,.int .i64 p.mark]))
 case atStart=>exact ⟨0,Nat.zero_le _,rfl,rfl,(fun j hj=>absurd hj (Nat.not_lt_zero _)),below_alloc (Below.refl _ _),Blk.new rfl⟩
 case round =>
  obtain ⟨k,hk,rfl,rfl,HA,HB,HP⟩:=hrel
  obtain ⟨p0,p1,p2,pz⟩:=cells3 HP.out
  have pl:=HP.out.lt
  by_cases hlt:k < n
  ·have hk0:(0:Int)≤(k:Int):=by omega
   have hk1:(k:Int) < (n:Int):=by omega
   have hkl:k < p.all.length:=by rw [← HN.out];exact hlt
   obtain ⟨bb,off,ha,h1⟩:=HD.out (by omega)
   subst ha
   have cc:=h1 k hkl
   clear h1
   obtain ⟨x,hx⟩:∃ x,x=p.all.getD k default:=⟨_,rfl⟩
   rw [← hx] at cc
   have c0:=keep HB.out cc.1.1.1
   have c1:=keep HB.out cc.1.1.2
   have c2:=keep HB.out cc.1.2
   have c3:=keep HB.out cc.2
   have hgb:bb < wr.heap.size:=World.block_lt_of_cell? wr _ c0
   have HX:=LH hx
   have HKL:=LH hkl
   clear hx cc hkl
   by_cases hent:entAt p k
   ·have h9:=hent
    unfold entAt Top.okEnt at h9
    rw [← HX.out] at h9
    obtain ⟨e1,e2,e3,e4,e5⟩:=h9
    have b1:(x.off != (k:Int))=false:=by simp [e1]
    have b2:¬ x.id < 0:=by omega
    have b3:¬ 6291456≤x.id:=by omega
    have b4:¬ 16 < (x.key.size:Int):=by omega
    have b5:¬ 64 < (x.body.size:Int):=by omega
    have HE:=LH hent
    clear hent e1 e2 e3 e4 e5
    go_wp2_with fail
    go_roundg (n - (k+1))
    case measure=>omega
    case rel =>
     refine ⟨k+1,by omega,rfl,by go_num,fun j hj=>?_,below_alloc HB.out,HP.out.alloc _⟩
     by_cases hjk:j < k
     ·exact HA.out j hjk
     ·obtain rfl:j=k:=by omega
      exact HE.out
   ·have hz:z=false:=by
     rw [HZ.out]
     exact decide_eq_false (fun hs=>hent (hs.1 k HKL.out))
    subst hz
    have hbad:((x.off != (k:Int))=true)∨((x.off != (k:Int))=false∧x.id < 0)∨((x.off != (k:Int))=false∧¬ x.id < 0∧6291456≤x.id)∨((x.off != (k:Int))=false∧¬ x.id < 0∧¬ 6291456≤x.id∧16 < (x.key.size:Int))∨((x.off != (k:Int))=false∧¬ x.id < 0∧¬ 6291456≤x.id∧¬ 16 < (x.key.size:Int)∧64 < (x.body.size:Int)):=by
     unfold entAt Top.okEnt at hent
     rw [← HX.out] at hent
     by_cases e1:x.off=(k:Int)
     ·have b1:(x.off != (k:Int))=false:=by simp [e1]
      simp only [b1,true_and]
      omega
     ·exact Or.inl (by simpa using e1)
    clear hent
    rcases hbad with b1|⟨b1,b2⟩|⟨b1,b2,b3⟩|⟨b1,b2,b3,b4⟩|⟨b1,b2,b3,b4,b5⟩
    all_goals
     go_wp2_with fail
     go_ret
     refine ⟨rfl,?_⟩
     repeat (first|with_reducible (first|exact HB.out|exact Below.refl _ _|apply Below.drew|apply below_alloc)|((first|with_reducible refine Below.alloc ?_ ?_ _|with_reducible refine Below.setCell ?_ ?_ _);rotate_left;focus (first|(simp <;> omega)|omega)))
  ·obtain rfl:k=n:=by omega
   have hlt':¬ (k:Int) < (k:Int):=by omega
   have hfin:(600 < (k:Int)∧z=false)∨(¬ 600 < (k:Int)∧p.base < 0∧z=false)∨(¬ 600 < (k:Int)∧¬ p.base < 0∧(k:Int) < p.base∧z=false)∨(¬ 600 < (k:Int)∧¬ p.base < 0∧¬ (k:Int) < p.base∧p.mark < 0∧z=false)∨(¬ 600 < (k:Int)∧¬ p.base < 0∧¬ (k:Int) < p.base∧¬ p.mark < 0∧(k:Int) < p.mark∧z=false)∨(¬ 600 < (k:Int)∧¬ p.base < 0∧¬ (k:Int) < p.base∧¬ p.mark < 0∧¬ (k:Int) < p.mark∧z=true):=by
    have hN:=HN.out
    by_cases hs:shapedP p
    ·have:=hs.2
     rw [← hN] at this
     rw [HZ.out,decide_eq_true hs]
     simp
     omega
    ·have:¬ (p.all.length≤600∧(0≤p.base∧p.base≤(p.all.length:Int))∧0≤p.mark∧p.mark≤(p.all.length:Int)):=fun h9=>hs ⟨fun i hi=>HA.out i (by rw [hN];exact hi),h9⟩
     rw [← hN] at this
     rw [HZ.out,decide_eq_false hs]
     simp
     omega
   rcases hfin with ⟨b1,rfl⟩|⟨b1,b2,rfl⟩|⟨b1,b2,b3,rfl⟩|⟨b1,b2,b3,b4,rfl⟩|⟨b1,b2,b3,b4,b5,rfl⟩|⟨b1,b2,b3,b4,b5,rfl⟩
   all_goals
    clear HZ
    go_wp2_with fail
    go_ret
    exact ⟨by first|rfl|(simp;omega),HB.out⟩
end Go.Proofs.YtdfmcgekfogpbabGreatDoor
