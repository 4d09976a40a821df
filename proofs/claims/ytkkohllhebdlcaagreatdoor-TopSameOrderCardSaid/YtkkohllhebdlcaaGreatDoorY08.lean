/-
  Proved here: quorum.Check: may members be. No condition. slices.Equal at numbers, slices.EqualFunc at rows of numbers, commits. slices.Reverse at entries of the call's own. No condition but that the slices.Backward at entries: an iterator that hands out a slice's entri errors.As at what a group's step returns, its target a variable for th
-/
import Derived.Test.YtkkohllhebdlcaaGreatDoorProg
import Derived.Test.YtkkohllhebdlcaaGreatDoorY03
import Derived.Test.YtkkohllhebdlcaaGreatDoorY04
import Derived.BigRegion
import Derived.Laws.OwnMore
import Derived.RangeFuncNested
import Derived.RangeFuncBound
import Derived.RangeFuncCalls
import Derived.RangeFuncLeaves
import Derived.RangeFuncBox
import Derived.RangeFuncWrites
import Derived.Shelf.Abstract
import Derived.Shelf.RegionOpen
import Derived.OwnWalkIn
import Derived.TacticsInMore
import Derived.LoopNIn
import Derived.LoopIn
set_option maxRecDepth 100000
namespace Go.Proofs.YtkkohllhebdlcaaGreatDoor
open Go.RowKit
def quoL:Int→List Int→Int
 |last,[]=>if last < 0 then 60 else 0
 |last,n :: l=>if n≤last∨6≤n then 60 else quoL n l
def quoC (l:List Int):Int:=if 6 < l.length then 4 else quoL (-1) l
set_option maxHeartbeats 4000000 in
set_option maxRecDepth 100000 in
theorem quo_any {v:Value} {l:List Int} {w:World} {c:Int} (h:IntsR w v l) (hc:c=quoC l):Calls Tryz.prog 103 #[v] w fun e w'=>e=.returned (.int .i64 c)∧w'=w:=by
 obtain ⟨a,cap,rfl,hcap,hmx,_,hd⟩:=h.shape
 obtain ⟨n,hn⟩:∃ n,n=l.length:=⟨_,rfl⟩
 rw [quoC,← hn] at hc
 rw [← hn] at hcap hd ⊢
 have HN:=LH hn
 have HD:=LH hd
 unfold maxLen at hmx
 by_cases h6:6 < n
 ·rw [if_pos h6] at hc
  subst hc
  have h6':(6:Int) < (n:Int):=by omega
  clear hd hn h h6
  go_enter Tryz.func103,Tryz.ntmps103
  go_wp2_with fail
  go_ret
  exact ⟨rfl,rfl⟩
 ·rw [if_neg h6] at hc
  have HC:=LH (show c=quoL (-1) (l.drop 0) from hc)
  have h6':¬ (6:Int) < (n:Int):=by omega
  clear hd hn h h6 hc
  go_enter Tryz.func103,Tryz.ntmps103
  go_wp2_with fail
  go_loopg [3,5,11] n (fun g t3 _ i wr=>∃ (k:Nat) (x:Int),k≤n∧g=n - k∧i=.int .i64 (k:Int)∧t3=.int .i64 x∧Hid (c=quoL x (l.drop k))∧wr=w)
  case atStart=>exact ⟨0,-1,Nat.zero_le _,rfl,rfl,rfl,HC,rfl⟩
  case round =>
   clear HC
   obtain ⟨k,x,hk,rfl,rfl,rfl,HC,rfl⟩:=hrel
   by_cases hlt:k < n
   ·have hk0:(0:Int)≤(k:Int):=by omega
    have hk1:(k:Int) < (n:Int):=by omega
    obtain ⟨b,off,rfl,hat⟩:=HD.out (by omega)
    have c0:=hat k hlt
    have hdr:=drop_cons0 (l:=l) (k:=k) (by rw [← HN.out];exact hlt)
    obtain ⟨y,hy⟩:∃ y,y=l.getD k 0:=⟨_,rfl⟩
    rw [← hy] at c0 hdr
    have HE:=HC.out
    rw [hdr,quoL] at HE
    clear hat hy hdr HC
    by_cases h1:y≤x
    ·rw [if_pos (Or.inl h1)] at HE
     subst HE
     go_wp2_with fail
     go_ret
     exact ⟨rfl,rfl⟩
    ·by_cases h2:6≤y
     ·rw [if_pos (Or.inr h2)] at HE
      subst HE
      go_wp2_with fail
      go_ret
      exact ⟨rfl,rfl⟩
     ·rw [if_neg (by omega)] at HE
      have HE':=LH HE
      clear HE
      go_wp2_with fail
      go_roundg (n - (k+1))
      case measure=>omega
      case rel=>exact ⟨k+1,y,by omega,rfl,by go_num,rfl,HE',rfl⟩
   ·obtain rfl:k=n:=by omega
    have hlt':¬ (k:Int) < (k:Int):=by omega
    have HE:=HC.out
    rw [List.drop_eq_nil_of_le (by rw [← HN.out];exact Nat.le_refl _),quoL] at HE
    by_cases h0:x < 0
    ·rw [if_pos h0] at HE
     subst HE
     clear HC
     go_wp2_with fail
     go_ret
     exact ⟨rfl,rfl⟩
    ·rw [if_neg h0] at HE
     subst HE
     clear HC
     go_wp2_with fail
     go_ret
     exact ⟨rfl,rfl⟩
end Go.Proofs.YtkkohllhebdlcaaGreatDoor
namespace Go.Proofs.YtkkohllhebdlcaaGreatDoor
open Go.RowKit
theorem list_eq_of {α:Type} {l l':List α} (d:α) (hl:l.length=l'.length) (h:∀ j,j < l.length→l.getD j d=l'.getD j d):l=l':=by
 apply List.ext_getElem hl
 intro i h1 h2
 have:=h i h1
 simpa [List.getD,h1,h2] using this
theorem eqInt_len (a a':Option Addr) (n n' cap cap':Nat) (w:World) (h:n≠n') :
  Calls Tryz.prog 51 #[.slice a n cap,.slice a' n' cap'] w fun e w'=>e=.returned (.bool false)∧Below w.heap.size w w':=by
 have hd:((n:Int) != (n':Int))=true:=by simp;omega
 go_enter Tryz.func51,Tryz.ntmps51
 go_wp2_with fail
 go_ret
 exact ⟨rfl,Below.refl _ _⟩
theorem eqInt_none (a a':Option Addr) (cap cap':Nat) (w:World) :
  Calls Tryz.prog 51 #[.slice a 0 cap,.slice a' 0 cap'] w fun e w'=>e=.returned (.bool true)∧Below w.heap.size w w':=by
 go_enter Tryz.func51,Tryz.ntmps51
 go_wp2_with fail
 refine wp_loop_rounds 1 ?_
 rw [rounds_succ]
 go_wp2
 go_ret
 exact ⟨rfl,Below.refl _ _⟩
set_option maxHeartbeats 1000000 in
set_option maxRecDepth 100000 in
theorem eqInt_some (b off cap b' off' cap' n:Nat) (l l':List Int) (w:World) (hl:0 < n) (hn:n=l.length) (hn2:n=l'.length) (hcap:n≤cap) (hm:cap≤9223372036854775807) (hcap':n≤cap')
  (hc:∀ i,i < n→w.cell? ⟨b,off+i,none⟩=some (.int .i64 (l.getD i 0))) (hc':∀ i,i < n→w.cell? ⟨b',off'+i,none⟩=some (.int .i64 (l'.getD i 0))) :
  Calls Tryz.prog 51 #[.slice (some ⟨b,off,none⟩) n cap,.slice (some ⟨b',off',none⟩) n cap'] w fun e w'=>e=.returned (.bool (decide (l=l')))∧Below w.heap.size w w':=by
 have HC:=LH hc
 have HC':=LH hc'
 have HN:=LH hn
 have HN2:=LH hn2
 obtain ⟨r,hr⟩:∃ r,r=decide (l=l'):=⟨_,rfl⟩
 rw [← hr]
 have HR:=LH hr
 clear hn hn2 hc hc' hr
 have nn:((n:Int) != (n:Int))=false:=by simp
 have hn':(n:Int)≤9223372036854775807:=by omega
 go_enter Tryz.func51,Tryz.ntmps51
 go_wp2_with fail
 go_loopw [5,13] (fun _ i wr=>∃ k:Nat,k≤n∧i=.int .i64 (k:Int)∧Hid (∀ j,j < k→l.getD j 0=l'.getD j 0)∧Below w.heap.size w wr) (fun _ i _=>n - (intOf i).toNat)
 case atStart=>exact ⟨0,Nat.zero_le _,rfl,(fun j hj=>absurd hj (Nat.not_lt_zero _)),Below.refl _ _⟩
 case round =>
  obtain ⟨k,hk,rfl,hall,hb⟩:=hrel
  by_cases hlt:k < n
  ·have hk0:(0:Int)≤(k:Int):=by omega
   have hk1:(k:Int) < (n:Int):=by omega
   have c0:=keep hb (HC.out k hlt)
   have c1:=keep hb (HC'.out k hlt)
   obtain ⟨x,hx⟩:∃ x,x=l.getD k 0:=⟨_,rfl⟩
   obtain ⟨y,hy⟩:∃ y,y=l'.getD k 0:=⟨_,rfl⟩
   rw [← hx] at c0
   rw [← hy] at c1
   have HX:=LH hx
   have HY:=LH hy
   clear hx hy
   by_cases hxy:x=y
   ·have hd:(x != y)=false:=by simpa using hxy
    have HXY:=LH hxy
    clear hxy
    go_wp2_with fail
    go_region
    have hbq:=hb.drew
    go_wp2_with fail
    go_roundw
    case rel =>
     refine ⟨k+1,by omega,by go_num,fun j hj=>?_,hbq⟩
     by_cases hjk:j < k
     ·exact hall.out j hjk
     ·obtain rfl:j=k:=by omega
      rw [← HX.out,← HY.out];exact HXY.out
    case measure=>simp [intOf];omega
   ·have hd:(x != y)=true:=by simpa using hxy
    have HXY:=LH hxy
    clear hxy
    go_wp2_with fail
    go_region
    have hbq:=hb.drew
    go_wp2_with fail
    go_ret
    refine ⟨?_,hbq⟩
    have e:r=false:=by
     rw [HR.out]
     refine decide_eq_false (fun e=>HXY.out ?_)
     rw [HX.out,HY.out,e]
    rw [e]
    rfl
  ·obtain rfl:k=n:=by omega
   have hlt':¬ (k:Int) < (k:Int):=by omega
   go_wp2_with fail
   go_ret
   refine ⟨?_,hb⟩
   have e:r=true:=by
    rw [HR.out]
    refine decide_eq_true (list_eq_of 0 (by rw [← HN.out,HN2.out]) (fun j hj=>hall.out j (by rw [HN.out];exact hj)))
   rw [e]
   rfl
theorem eqInt_any {v v':Value} {l l':List Int} {w:World} (h:SliceR w v 1 intCell l) (h':SliceR w v' 1 intCell l') :
  Calls Tryz.prog 51 #[v,v'] w fun e w'=>e=.returned (.bool (decide (l=l')))∧Below w.heap.size w w':=by
 obtain ⟨a,cap,rfl,hcap,hm,_,hc⟩:=h.one (c:=fun n=>.int .i64 n) 0
 obtain ⟨a',cap',rfl,hcap',hm',_,hc'⟩:=h'.one (c:=fun n=>.int .i64 n) 0
 by_cases hl:l.length=l'.length
 ·by_cases h0:l.length=0
  ·have e1:l=[]:=List.length_eq_zero_iff.1 h0
   have e2:l'=[]:=List.length_eq_zero_iff.1 (by omega)
   subst e1 e2
   simpa using eqInt_none a a' cap cap' w
  ·obtain ⟨b,off,rfl,hd⟩:=hc (by omega)
   obtain ⟨b',off',rfl,hd'⟩:=hc' (by omega)
   unfold maxLen at hm
   rw [← hl]
   exact eqInt_some b off cap b' off' cap' _ l l' w (by omega) rfl hl hcap hm (by omega) hd (fun i hi=>hd' i (by omega))
 ·have e:decide (l=l')=false:=decide_eq_false (fun e=>hl (by rw [e]))
  rw [e]
  exact eqInt_len a a' _ _ cap cap' w hl
end Go.Proofs.YtkkohllhebdlcaaGreatDoor
namespace Go.Proofs.YtkkohllhebdlcaaGreatDoor
open Go.RowKit
theorem flat_set (l:List Ent) (i:Nat) (x:Ent) (hi:i < l.length) :
  ((((l.flatMap entCells).set (i * 4) (.int .i64 x.off)).set (i * 4+1) (.int .i64 x.id)).set (i * 4+2) (.string x.key)).set (i * 4+3) (.string x.body)=(l.set i x).flatMap entCells:=by
 induction l generalizing i with
 |nil=>simp at hi
 |cons y l ih =>
  cases i with
  |zero=>simp [entCells]
  |succ i =>
   have:=ih i (by simpa using hi)
   simp only [List.flatMap_cons,List.set_cons_succ,← this]
   have e:∀ (m:Nat) (v:Value) (r:List Value),(entCells y++r).set (4+m) v=entCells y++r.set m v:=fun m v r=>by
    rw [List.set_append_right (h:=by simp [entCells])]
    simp [entCells]
   have a0:(i+1) * 4=4+i * 4:=by omega
   rw [a0,e,Nat.add_assoc,e,Nat.add_assoc,e,Nat.add_assoc,e]
def Only (g:Nat) (w w':World):Prop:=w'.heap.size=w.heap.size∧(∀ b,b≠g→w'.heap[b]?=w.heap[b]?)∧∀ B,B≤g→B≤w.heap.size→Below B w w'
theorem Only.refl (g:Nat) (w:World):Only g w w:=⟨rfl,fun _ _=>rfl,fun _ _ _=>Below.refl _ _⟩
theorem Only.drew {g:Nat} {w w':World} (h:Only g w w'):Only g w w'.drew:=⟨h.1,h.2.1,fun B h1 h2=>(h.2.2 B h1 h2).drew⟩
theorem Only.set_ {g:Nat} {w w':World} (h:Only g w w') (o:Nat) (u:Value):Only g w (w'.setCell ⟨g,o,none⟩ u) :=
 ⟨by simpa using h.1,fun b hb=>(Below.heap_setCell w' ⟨g,o,none⟩ u b hb).trans (h.2.1 b hb),fun B h1 h2=>Below.setCell (p:=⟨g,o,none⟩) (h.2.2 B h1 h2) h1 u⟩
def put4 (W:World) (g i:Nat) (x:Ent):World:=(((W.setCell ⟨g,i * 4,none⟩ (.int .i64 x.off)).setCell ⟨g,i * 4+1,none⟩ (.int .i64 x.id)).setCell ⟨g,i * 4+2,none⟩ (.string x.key)).setCell ⟨g,i * 4+3,none⟩ (.string x.body)
theorem own_put4 {W:World} {B g n cap i:Nat} {l:List Ent} (hn:n=l.length) (h:OwnE W B (.slice (some ⟨g,0,none⟩) n cap) l) (hi:i < n) (x:Ent) :
  OwnE (put4 W g i x) B (.slice (some ⟨g,0,none⟩) n cap) (l.set i x):=by
 subst hn
 have h1:=(h.stored (i * 4) (.int .i64 x.off)).1
 have h2:=(h1.stored (i * 4+1) (.int .i64 x.id)).1
 have h3:=(h2.stored (i * 4+2) (.string x.key)).1
 have h4:=(h3.stored (i * 4+3) (.string x.body)).1
 rw [flat_set l i x hi] at h4
 unfold OwnE
 rw [List.length_set]
 exact h4
theorem only_put4 {w W:World} {g:Nat} (h:Only g w W) (i:Nat) (x:Ent):Only g w (put4 W g i x):=(((h.set_ _ _).set_ _ _).set_ _ _).set_ _ _
def swapE (l:List Ent) (i j:Nat):List Ent:=(l.set i (l.getD j default)).set j (l.getD i default)
def RevI (l:List Ent) (i:Nat) (c:List Ent):Prop:=c.length=l.length∧∀ k,k < l.length→c.getD k default=if k < i∨l.length - 1 - i < k then l.getD (l.length - 1 - k) default else l.getD k default
theorem revI_zero (l:List Ent):RevI l 0 l:=⟨rfl,fun k hk=>by rw [if_neg (by omega)]⟩
theorem revI_succ {l c:List Ent} {i j:Nat} (h:RevI l i c) (hij:i+j+1=l.length) (hlt:i < j):RevI l (i+1) (swapE c i j):=by
 obtain ⟨h1,h2⟩:=h
 refine ⟨by simp [swapE,h1],fun k hk=>?_⟩
 have e:(swapE c i j).getD k default=if k=j then c.getD i default else if k=i then c.getD j default else c.getD k default:=by
  unfold swapE
  simp only [List.getD_eq_getElem?_getD,List.getElem?_set,List.length_set]
  by_cases hj:j=k
  ·subst hj
   rw [if_pos rfl,if_pos (by omega),if_pos rfl]
   rfl
  ·rw [if_neg hj,if_neg (fun (e:k=j)=>hj e.symm)]
   by_cases hi:i=k
   ·subst hi
    rw [if_pos rfl,if_pos (by omega),if_pos rfl]
    rfl
   ·rw [if_neg hi,if_neg (fun (e:k=i)=>hi e.symm)]
 rw [e]
 by_cases hj:k=j
 ·subst hj
  rw [if_pos rfl,h2 i (by omega),if_neg (by omega),if_pos (by omega)]
  congr 1;omega
 ·rw [if_neg hj]
  by_cases hi:k=i
  ·subst hi
   rw [if_pos rfl,h2 j (by omega),if_neg (by omega),if_pos (by omega)]
   congr 1;omega
  ·rw [if_neg hi,h2 k hk]
   by_cases c1:k < i∨l.length - 1 - i < k
   ·rw [if_pos c1,if_pos (by omega)]
   ·rw [if_neg c1,if_neg (by omega)]
theorem revI_done {l c:List Ent} {i:Nat} (h:RevI l i c) (hi:l.length≤2 * i+1):c=l.reverse:=by
 obtain ⟨h1,h2⟩:=h
 apply List.ext_getElem (by simp [h1])
 intro k k1 k2
 have hk:k < l.length:=by omega
 have h:=h2 k hk
 have hk':l.length - 1 - k < l.length:=by omega
 rw [List.getElem_reverse]
 by_cases c1:k < i∨l.length - 1 - i < k
 ·rw [if_pos c1] at h
  simpa [List.getD_eq_getElem?_getD,k1,hk'] using h
 ·rw [if_neg c1] at h
  have e:l.length - 1 - k=k:=by omega
  simp only [e]
  simpa [List.getD_eq_getElem?_getD,k1,hk] using h
theorem own_at {W:World} {B g n cap k:Nat} {l:List Ent} (hn:n=l.length) (h:OwnE W B (.slice (some ⟨g,0,none⟩) n cap) l) (hk:k < n) :
  (W.cell? ⟨g,k * 4,none⟩=some (.int .i64 (l.getD k default).off)∧W.cell? ⟨g,k * 4+1,none⟩=some (.int .i64 (l.getD k default).id))∧W.cell? ⟨g,k * 4+2,none⟩=some (.string (l.getD k default).key)∧W.cell? ⟨g,k * 4+3,none⟩=some (.string (l.getD k default).body):=by
 obtain ⟨b,off,ha,he⟩:=h.reads.ents.2.2 (by omega)
 cases ha
 obtain ⟨⟨⟨e0,e1⟩,e2⟩,e3⟩:=he k (by omega)
 simp only [Nat.zero_add] at e0 e1 e2 e3
 exact ⟨⟨e0,e1⟩,e2,e3⟩
theorem own_free {W:World} {B g n cap:Nat} {l:List Ent} (hn:n=l.length) (h:OwnE W B (.slice (some ⟨g,0,none⟩) n cap) l) (o:Nat):W.frozen? ⟨g,o,none⟩=false:=by
 subst hn
 exact h.frozenAt o
def RevEnd (B:Nat) (v:Value) (l:List Ent) (w:World) (e:Ending) (w':World):Prop:=(∃ u,e=.returned u)∧OwnE w' B v l.reverse∧w'.heap.size=w.heap.size∧(∀ b,v.ownBlock≠some b→w'.heap[b]?=w.heap[b]?)∧(B≤w.heap.size→Below B w w')
set_option maxHeartbeats 2000000 in
set_option maxRecDepth 100000 in
theorem rev_any {v:Value} {B:Nat} {l:List Ent} {w:World} (h:OwnE w B v l) (hl:l.length≤1000000) :
  Calls Tryz.prog 125 #[v] w (RevEnd B v l w):=by
 obtain ⟨hlen,⟨e,h0⟩|⟨g,cap,cur,hv,hB,hh,hle,hmx,hr⟩⟩:=id h
 ·subst e
  obtain rfl:l=[]:=List.eq_nil_of_length_eq_zero h0
  have HO:=LH h
  clear h hlen
  go_enter Tryz.func125,Tryz.ntmps125
  go_wp2_with fail
  go_loopg [2,3] 0 (fun g i j wr=>i=.int .i64 0∧j=.int .i64 (-1)∧wr=w)
  case atStart=>exact ⟨rfl,rfl,rfl⟩
  case round =>
   obtain ⟨rfl,rfl,rfl⟩:=hrel
   go_wp2_with fail
   refine bodyPost_ret (results_none rfl _ _ _) rfl ⟨⟨_,rfl⟩,HO.out,rfl,fun _ _=>rfl,fun _=>Below.refl _ _⟩
 ·subst hv
  obtain ⟨n,hn⟩:∃ n,n=l.length:=⟨_,rfl⟩
  rw [← hn] at h hle hl ⊢
  have HO:=LH h
  have HN:=LH hn
  have HB:=LH hB
  have hg:g < w.heap.size:=(h.lt g rfl).2
  have hle':(n:Int)≤(cap:Int):=by omega
  have hl':(n:Int)≤1000000:=by omega
  clear h hlen hn hB hh hr hmx
  go_enter Tryz.func125,Tryz.ntmps125
  go_wp2_with fail
  go_loopg [2,3] n (fun m i j wr=>∃ (k:Nat) (c:List Ent),k≤n∧m=n - k∧i=.int .i64 (k:Int)∧j=.int .i64 ((n:Int) - 1 - (k:Int))∧Hid (RevI l k c)∧Hid (OwnE wr B (.slice (some ⟨g,0,none⟩) n cap) c)∧Hid (Only g w wr))
  case atStart=>exact ⟨0,l,Nat.zero_le _,rfl,rfl,by go_num,revI_zero l,HO.out,Only.refl _ _⟩
  case round =>
   obtain ⟨k,c,hk,rfl,rfl,rfl,hi,ho,hw⟩:=hrel
   by_cases hlt:(k:Int) < (n:Int) - 1 - (k:Int)
   ·have hk0:(0:Int)≤(k:Int):=by omega
    have hk1:(k:Int) < (n:Int):=by omega
    obtain ⟨j,hj⟩:∃ j:Nat,(n:Int) - 1 - (k:Int)=(j:Int):=⟨(n - 1 - k),by omega⟩
    rw [hj] at hlt ⊢
    have hj0:(0:Int)≤(j:Int):=by omega
    have hj1:(j:Int) < (n:Int):=by omega
    have hcl:n=c.length:=by have:=hi.out.1;have:=HN.out;omega
    obtain ⟨x,hx⟩:∃ x,x=c.getD k default:=⟨_,rfl⟩
    obtain ⟨y,hy⟩:∃ y,y=c.getD j default:=⟨_,rfl⟩
    have cc:=own_at hcl ho.out (k:=k) (by omega)
    have dd:=own_at hcl ho.out (k:=j) (by omega)
    rw [← hx] at cc
    rw [← hy] at dd
    obtain ⟨⟨c0,c1⟩,c2,c3⟩:=cc
    obtain ⟨⟨d0,d1⟩,d2,d3⟩:=dd
    have cz:=own_free hcl ho.out
    have HX:=LH hx
    have HY:=LH hy
    have HCL:=LH hcl
    have HJ:=LH hj
    clear hx hy hcl
    go_wp2_with fail
    go_region
    go_wp2_with fail
    go_roundg (n - (k+1))
    case measure=>omega
    case rel =>
     refine ⟨k+1,swapE c k j,by omega,rfl,by go_num,?_,?_,?_,?_⟩
     ·have:=HJ.out
      go_num
     ·exact revI_succ hi.out (by have:=HJ.out;have:=HN.out;omega) (by omega)
     ·have e:swapE c k j=(c.set k y).set j x:=by rw [swapE,← HX.out,← HY.out]
      rw [e]
      show OwnE (put4 (put4 wr g k y) g j x).drew B _ _
      exact own_drew (own_put4 (by rw [List.length_set];exact HCL.out) (own_put4 HCL.out ho.out (i:=k) (by omega) y) (i:=j) (by omega) x)
     ·show Only g w (put4 (put4 wr g k y) g j x).drew
      exact (only_put4 (only_put4 hw.out k y) j x).drew
   ·have hge:(n:Int) - 1 - (k:Int)≤(k:Int):=by omega
    go_wp2_with fail
    have hc:c=l.reverse:=revI_done hi.out (by have:=HN.out;omega)
    rw [hc] at ho
    refine bodyPost_ret (results_none rfl _ _ _) rfl ⟨⟨_,rfl⟩,ho.out,hw.out.1,fun b hb=>hw.out.2.1 b (fun e=>hb (by rw [e];rfl)),fun h=>hw.out.2.2 B HB.out h⟩
end Go.Proofs.YtkkohllhebdlcaaGreatDoor
namespace Go.Proofs.YtkkohllhebdlcaaGreatDoor
open Go.RowKit Go.Shelf
attribute [local go_sem] Oper.semAt_some
def down (l:List Ent) (k:Nat):List (Int × Ent):=(List.range k).map fun j=>(((l.length - 1 - j:Nat):Int),l.getD (l.length - 1 - j) default)
theorem down_succ (l:List Ent) (k:Nat):down l (k+1)=down l k++[(((l.length - 1 - k:Nat):Int),l.getD (l.length - 1 - k) default)]:=by simp [down,List.range_succ]
theorem down_length (l:List Ent) (k:Nat):(down l k).length=k:=by simp [down]
abbrev encE (x:Int × Ent):Array Value:=#[.int .i64 x.1,.agg #[.int .i64 x.2.off,.int .i64 x.2.id,.string x.2.key,.string x.2.body]]
def BackK (n₀ Bs:Nat) (W W':World):Prop:=Below n₀ W W'∧W'.heap[Bs]?=W.heap[Bs]?
theorem BackK.trans {n₀ Bs:Nat} {X Y Z:World} (h:BackK n₀ Bs X Y) (k:BackK n₀ Bs Y Z):BackK n₀ Bs X Z:=⟨h.1.trans k.1,k.2.trans h.2⟩
theorem backK_b {n₀ Bs:Nat} {w:World} (hn:n₀≤w.heap.size) (hB:Bs < w.heap.size) (W:World) (l:Nat) (o o':Obj) (hl:w.heap.size≤l) (h:W.heap[l]?=some o) (h1:o.isCells=false) (h2:o.isWalk=false):BackK n₀ Bs W (W.putObj l o') :=
 ⟨belowK_b hn W l o o' hl h h1 h2,(grownBy_putObj' W l o').block Bs (by have:=(Array.getElem?_eq_some_iff.1 h).1;omega) (fun e=>by cases e;omega)⟩
theorem blk_row {W W':World} {g:Nat} {t:TypeId} {cs:List Value} {row:Option Nat} (h:Blk W g t cs) (hg:W.grownBy W' row) (hr:∀ r,row=some r→∃ o:Obj,W.heap[r]?=some o∧o.isCells=false):Blk W' g t cs:=h.grown hg (fun e=>by
 obtain ⟨o,ho,hc⟩:=hr g e
 unfold Blk at h
 rw [h] at ho
 cases ho
 cases hc)
set_option maxRecDepth 100000 in
set_option maxHeartbeats 2000000 in
theorem back1_in (F:Fence) (n:Nat) (h7:F.fn 135) (hro:F.round=none) (hn:1≤n) (l Bs n₀:Nat) (a:Option Addr) (len cap:Nat) (es:List Ent) (hlen:len=es.length) (hle:len≤1000000)
  (J Jx:List (Int × Ent)→World→Prop)
  (hY:∀ k x W,J (down es k) W→k < len→x=(((es.length - 1 - k:Nat):Int),es.getD (es.length - 1 - k) default)→YieldAt F (n - 1) Tryz.prog l (encE x) W fun e W' =>
   (e=.returned (.bool true)∧J (down es k++[x]) W'∧BackK n₀ Bs W W')∨(e=.returned (.bool false)∧Jx (down es k++[x]) W'))
  (W:World) (hBs:W.cell? ⟨Bs,0,none⟩=some (.slice a len cap)) (hcap:len≤cap) (hd:0 < len→∃ b off,a=some ⟨b,off,none⟩∧b < n₀∧EntsAt W b off es) (h0:J [] W) :
  CallsIn F n Tryz.prog 135 #[.func (.yield l) #[] #[],.pointer (some ⟨Bs,0,none⟩)] W fun e W'=>(∃ v,e=.returned v) ∧
   ((∃ ys,ys=down es len∧J ys W')∨(∃ pre,(∃ k,k≤len∧pre=down es k)∧Jx pre W')):=by
 have HD:=LH hd
 have HY:=LH hY
 have HLEN:=LH hlen
 clear hd hY hlen
 have hle':(len:Int)≤1000000:=by omega
 refine callsIn_of_wp Tryz.func135 rfl h7 ?_ hro
 simp only [Tryz.ntmps135,List.size_toArray,List.length_cons,List.length_nil,Nat.reduceAdd,Nat.reduceSub,Array.replicate_succ,Array.replicate_zero,List.push_toArray,List.append_toArray,List.nil_append,List.cons_append]
 gi_wp2
 gi_loopw [3] (fun i wr=>∃ (k r:Nat) (z:Int),r+k=len∧i=.int .i64 z∧Hid (z=(r:Int) - 1)∧Hid (J (down es k) wr)∧Hid (BackK n₀ Bs W wr))
  (fun i _=>(intOf i+1).toNat)
 case atStart=>exact ⟨0,len,_,by omega,rfl,rfl,h0,Below.refl _ _,rfl⟩
 case round =>
  obtain ⟨k,r,z,hkr,rfl,hz,hJs,hnx⟩:=hrel
  have hbox:=(World.cell?_of_block (a:=⟨Bs,0,none⟩) hnx.out.2).trans hBs
  cases r with
  |zero =>
   have hz':=hz.out
   have hneg:z < 0:=by omega
   obtain rfl:k=len:=by omega
   clear hz'
   gi_wp2
   go_end0
   exact ⟨⟨_,rfl⟩,.inl ⟨_,rfl,hJs.out⟩⟩
  |succ m =>
   have hz':=hz.out
   obtain rfl:z=(m:Int):=by omega
   have m0:(0:Int)≤(m:Int):=by omega
   have m1:(m:Int) < (len:Int):=by omega
   obtain ⟨b,off,ha,hb,hcc⟩:=HD.out (by omega)
   subst ha
   have cc:=hcc m (by rw [← HLEN.out];omega)
   have hpl:es.length - 1 - k=m:=by have:=HLEN.out;omega
   obtain ⟨x,hx⟩:∃ x,x=es.getD m default:=⟨_,rfl⟩
   rw [← hx] at cc
   have hsucc:down es (k+1)=down es k++[((m:Int),x)]:=by rw [down_succ,hpl,← hx]
   have HS:=LH hsucc
   have c0:=(hnx.out.1.cell (p:=⟨b,off+m * 4,none⟩) hb).trans cc.1.1.1
   have c1:=(hnx.out.1.cell (p:=⟨b,off+m * 4+1,none⟩) hb).trans cc.1.1.2
   have c2:=(hnx.out.1.cell (p:=⟨b,off+m * 4+2,none⟩) hb).trans cc.1.2
   have c3:=(hnx.out.1.cell (p:=⟨b,off+m * 4+3,none⟩) hb).trans cc.2
   obtain ⟨fn,tmps,assign,body,hy,hR⟩:=HY.out k ((m:Int),x) wr hJs.out (by omega) (by rw [hpl,← hx])
   simp only [encE] at hy
   have HR:=LH hR
   clear cc hx hsucc hpl hcc hz' hz hR
   gi_wp2
   refine HR.out.mono ?_
   rintro e W3 (⟨rfl,hJ3,hk3⟩|⟨rfl,hJx3⟩)
   ·gi_wp2
    go_roundw
    case rel=>exact ⟨k+1,m,_,by omega,rfl,rfl,by show J _ _;rw [HS.out];exact hJ3,hnx.out.trans hk3⟩
    case measure=>simp [intOf]
   ·gi_wp2
    refine bodyPost_ret (results_none rfl _ _ _) rfl ?_
    exact ⟨⟨_,rfl⟩,.inr ⟨_,⟨k+1,by omega,rfl⟩,by rw [HS.out];exact hJx3⟩⟩
set_option maxHeartbeats 1000000 in
theorem back_any (v:Value) (a:Option Addr) (len cap:Nat) (w:World) (hv:v=.slice a len cap) :
  Calls Tryz.prog 124 #[v] w fun e w'=>e=.returned (.func (.func 135) #[] #[.pointer (some ⟨w.heap.size,0,none⟩)])∧w'=w.alloc (.cells #[v] 154):=by
 subst hv
 go_enter Tryz.func124,Tryz.ntmps124
 go_wp2_with fail
 go_ret
 exact ⟨rfl,rfl⟩
def idxD (n k:Nat):List Nat:=(List.range k).map fun j=>n - 1 - j
theorem down_idx (l:List Ent) (k:Nat):(down l k).map (fun x=>x.1.toNat)=idxD l.length k:=by simp [down,idxD]
theorem idxD_ents (l:List Ent):(idxD l.length l.length).map (fun i=>l.getD i default)=l.reverse:=by
 apply List.ext_getElem
 ·simp [idxD]
 ·intro i h1 h2
  have:i < l.length:=by simpa using h2
  have h3:l.length - 1 - i < l.length:=by omega
  simp [idxD,List.getD,h3]
theorem back_places (F:Fence) (n:Nat) (h7:F.fn 135) (hro:F.round=none) (hn:1≤n) (Bs n₀:Nat) (a:Option Addr) (cap:Nat) (es:List Ent) (hle:es.length≤1000000) (w:World) (hBs:Bs < w.heap.size) (hn₀:n₀≤w.heap.size)
  (hc:w.cell? ⟨Bs,0,none⟩=some (.slice a es.length cap)) (hcap:es.length≤cap) (hd:0 < es.length→∃ b off,a=some ⟨b,off,none⟩∧b < n₀∧EntsAt w b off es) :
  SeqStopsK F n Tryz.prog 135 #[.pointer (some ⟨Bs,0,none⟩)] (fun i:Nat=>encE ((i:Int),es.getD i default)) (BackK n₀ Bs) (fun ys=>ys=idxD es.length es.length) (fun pre=>∃ k,k≤es.length∧pre=idxD es.length k) es.length w:=fun l J Jx W hW _ _ hY h0=>by
 refine CallsIn.mono (back1_in F n h7 hro hn l Bs n₀ a es.length cap es rfl hle (fun d W=>J (d.map fun x=>x.1.toNat) W) (fun d W=>Jx (d.map fun x=>x.1.toNat) W) (fun k x W h1 h2 hx=>?_) W ((hW.cell (p:=⟨Bs,0,none⟩) hBs).trans hc) hcap (fun hp=>?_) h0) ?_
 ·subst hx
  have:=hY ((down es k).map fun x=>x.1.toNat) (es.length - 1 - k) W h1 (by rw [List.length_map,down_length];exact h2)
  simpa using this
 ·obtain ⟨b,off,ha,hb,he⟩:=hd hp
  refine ⟨b,off,ha,hb,fun i hi=>?_⟩
  have hb':b < w.heap.size:=by omega
  obtain ⟨⟨⟨e0,e1⟩,e2⟩,e3⟩:=he i hi
  exact ⟨⟨⟨(hW.cell (p:=⟨b,_,none⟩) hb').trans e0,(hW.cell (p:=⟨b,_,none⟩) hb').trans e1⟩,(hW.cell (p:=⟨b,_,none⟩) hb').trans e2⟩,(hW.cell (p:=⟨b,_,none⟩) hb').trans e3⟩
 ·rintro e W' ⟨hv,h|h⟩
  ·obtain ⟨ys,rfl,hJ⟩:=h
   exact ⟨hv,.inl ⟨_,rfl,by rw [← down_idx];exact hJ⟩⟩
  ·obtain ⟨pre,⟨k,hk,rfl⟩,hJ⟩:=h
   exact ⟨hv,.inr ⟨_,⟨k,hk,rfl⟩,by rw [← down_idx];exact hJ⟩⟩
end Go.Proofs.YtkkohllhebdlcaaGreatDoor
namespace Go.Proofs.YtkkohllhebdlcaaGreatDoor
open Go.RowKit Go.Extern.Stop Go.Stop Go.Extern
theorem asValueOfP (t:Addr) (w:World):(ReflectliteValue.unpack (.iface 111 (.pointer (some t)))).run Tryz.prog w
  = .ok (.agg #[.pointer (some ⟨1,111,none⟩),.pointer (some ⟨w.heap.size,0,none⟩),.int .u64 150]) (w.alloc (.cells #[.pointer (some t)] 111)):=by kernel_rfl
theorem asTypeP (a:Addr) (w:World):(ReflectliteValue.methodAny (ReflectliteValue.valueError "reflectlite.Value.Type" 0) (fun t _ _ _=>ReflectliteType.toType t) #[.agg #[.pointer (some ⟨1,111,none⟩),.pointer (some a),.int .u64 150]]).run Tryz.prog w
  = .ok (.iface 165 (.agg #[.pointer (some ⟨1,111,none⟩)])) w:=by kernel_rfl
theorem asMethodKind (h:Value) (w:World):(Go.method 388 165 (.agg #[h]) "Kind").run Tryz.prog w=.ok (158,h) w:=by kernel_rfl
theorem asKindP (w:World):((ReflectliteType.abiMethod fun t=>(fun a:Nat=>Value.int IntKind.u8 (a:Int)) <$> Rtype.kind t) #[.pointer (some ⟨1,111,none⟩)]).run Tryz.prog w=.ok (.int .u8 22) w:=by kernel_rfl
theorem asKindW (w:World):((ReflectliteType.abiMethod fun t=>(fun a:Nat=>Value.int IntKind.u8 (a:Int)) <$> Rtype.kind t) #[.pointer (some ⟨1,85,none⟩)]).run Tryz.prog w=.ok (.int .u8 25) w:=by kernel_rfl
theorem rlm (z:Sem Value) (f:TypeId→Addr→Nat→Nat→Sem Value) (v:Value) :
  ReflectliteValue.method z f #[v]=(do match ← ReflectliteValue.parts v with|none=>z|some (t,a,fl)=>f t a fl (fl % 32)):=rfl
theorem asPartsP (a:Addr) (w:World):(ReflectliteValue.parts (.agg #[.pointer (some ⟨1,111,none⟩),.pointer (some a),.int .u64 150])).run Tryz.prog w=.ok (some (111,a,150)) w:=by kernel_rfl
theorem asIsNil (a p:Addr) (W:World) (ha:W.cell? a=some (.pointer (some p))) :
  (ReflectliteValue.method (ReflectliteValue.valueError "reflectlite.Value.IsNil" 0) ReflectliteValue.isNil #[.agg #[.pointer (some ⟨1,111,none⟩),.pointer (some a),.int .u64 150]]).run Tryz.prog W=.ok (.bool false) W:=by
 rw [rlm]
 simp only [Sem.run_bind,asPartsP,Result.andThen]
 simp [ReflectliteValue.isNil,loadVar,isAgg,underlying,Tryz.underlying111,ha,Result.andThen]
theorem asMethodElem (h:Value) (w:World):(Go.method 388 165 (.agg #[h]) "Elem").run Tryz.prog w=.ok (170,.agg #[h]) w:=by kernel_rfl
theorem asMethodImplements (h:Value) (w:World):(Go.method 388 165 (.agg #[h]) "Implements").run Tryz.prog w=.ok (171,.agg #[h]) w:=by kernel_rfl
theorem asMethodAssignableTo (h:Value) (w:World):(Go.method 388 165 (.agg #[h]) "AssignableTo").run Tryz.prog w=.ok (168,.agg #[h]) w:=by kernel_rfl
theorem asElemP (w:World):(ReflectliteType.method ReflectliteType.elem #[.agg #[.pointer (some ⟨1,111,none⟩)]]).run Tryz.prog w=.ok (.iface 165 (.agg #[.pointer (some ⟨1,85,none⟩)])) w:=by kernel_rfl
theorem asImplementsW (w:World):(ReflectliteType.relation "Implements" ReflectliteType.implements_ #[.agg #[.pointer (some ⟨1,85,none⟩)],.iface 165 (.agg #[.pointer (some ⟨1,71,none⟩)])]).run Tryz.prog w=.ok (.bool true) w:=by kernel_rfl
theorem asTypeOfF (v:Value) (w:World):(ReflectliteType.typeOf #[.iface 137 v]).run Tryz.prog w=.ok (.iface 165 (.agg #[.pointer (some ⟨1,137,none⟩)])) w:=by kernel_rfl
theorem asAssignableF (w:World):(ReflectliteType.relation "AssignableTo" ReflectliteType.assignableTo #[.agg #[.pointer (some ⟨1,137,none⟩)],.iface 165 (.agg #[.pointer (some ⟨1,85,none⟩)])]).run Tryz.prog w=.ok (.bool false) w:=by kernel_rfl
theorem asAssignableW (w:World):(ReflectliteType.relation "AssignableTo" ReflectliteType.assignableTo #[.agg #[.pointer (some ⟨1,85,none⟩)],.iface 165 (.agg #[.pointer (some ⟨1,85,none⟩)])]).run Tryz.prog w=.ok (.bool true) w:=by kernel_rfl
theorem asValueOfW (x:Int) (w:World):(ReflectliteValue.unpack (.iface 85 (.agg #[.int .i64 x]))).run Tryz.prog w
  = .ok (.agg #[.pointer (some ⟨1,85,none⟩),.pointer (some ⟨w.heap.size,0,none⟩),.int .u64 153]) (w.alloc (.cells #[.int .i64 x] 85)):=by kernel_rfl
theorem asElemOfP (w:World):(Rtype.elem? 111).run Tryz.prog w=.ok (some 85) w:=by kernel_rfl
theorem asMkW (p:Addr) (w:World):(ReflectliteValue.mk 85 p ReflectliteValue.flagAddr).run Tryz.prog w=.ok (.agg #[.pointer (some ⟨1,85,none⟩),.pointer (some p),.int .u64 409]) w:=by kernel_rfl
theorem asElemV (a p:Addr) (W:World) (ha:W.cell? a=some (.pointer (some p))) :
  (ReflectliteValue.method (ReflectliteValue.valueError "reflectlite.Value.Elem" 0) ReflectliteValue.elem #[.agg #[.pointer (some ⟨1,111,none⟩),.pointer (some a),.int .u64 150]]).run Tryz.prog W
   = .ok (.agg #[.pointer (some ⟨1,85,none⟩),.pointer (some p),.int .u64 409]) W:=by
 rw [rlm]
 simp only [Sem.run_bind,asPartsP,Result.andThen]
 simp [ReflectliteValue.elem,loadVar,isAgg,underlying,Tryz.underlying111,ha,Result.andThen,asElemOfP,asMkW]
theorem rls (v x:Value):ReflectliteValue.set #[v,x]=(do
  let (some (dst,a,fl),some (src,b,_)):=(← ReflectliteValue.parts v,← ReflectliteValue.parts x)
   |unsupported (.noEntry "extern/(internal/reflectlite.Value).Set.zeroValue")
  if fl / ReflectliteValue.flagAddr % 2 == 0 then unsupported (.noEntry "extern/(internal/reflectlite.Value).Set.unaddressable")
  let val ← loadVar src b
  if ← Rtype.directlyAssignable dst src then storeVar dst a val
  else if ← Rtype.implements dst src then
   if (← Rtype.kind src) == 20 then
    match val with
    |.nilIface=>unsupported (.noEntry "extern/reflectlite: a nil value of one interface type handed on as a value of another")
    |_=>storeVar dst a val
   else storeVar dst a (.iface src val)
  else panicString ("reflectlite.Set: value of type "++(← Rtype.spelt src) ++ " is not assignable to type "++(← Rtype.spelt dst))
  pure (.tuple #[])):=rfl
theorem asPartsA (a:Addr) (w:World):(ReflectliteValue.parts (.agg #[.pointer (some ⟨1,85,none⟩),.pointer (some a),.int .u64 409])).run Tryz.prog w=.ok (some (85,a,409)) w:=by kernel_rfl
theorem asPartsW (a:Addr) (w:World):(ReflectliteValue.parts (.agg #[.pointer (some ⟨1,85,none⟩),.pointer (some a),.int .u64 153])).run Tryz.prog w=.ok (some (85,a,153)) w:=by kernel_rfl
theorem asDirectW (w:World):(Rtype.directlyAssignable 85 85).run Tryz.prog w=.ok true w:=by kernel_rfl
theorem asSetW (ta b:Addr) (x:Int) (old:Value) (W:World) (hb:W.cell? b=some (.int .i64 x)) (ht:W.cell? ta=some old) (hf:W.frozen? ta=false) :
  (ReflectliteValue.set #[.agg #[.pointer (some ⟨1,85,none⟩),.pointer (some ta),.int .u64 409],.agg #[.pointer (some ⟨1,85,none⟩),.pointer (some b),.int .u64 153]]).run Tryz.prog W
   = .ok (.tuple #[]) (W.setCell ta (.int .i64 x)):=by
 rw [rls]
 simp only [Sem.run_bind,asPartsA,asPartsW,Result.andThen]
 simp [ReflectliteValue.flagAddr,loadVar,loadCells,loadCellsFrom,hb,Result.andThen,asDirectW,storeVar,Value.cells,storeCells,Addr.add]
 rw [run_store Tryz.prog W ta _ _ (by rfl)]
 simp [ht,hf]
theorem noAsF (v:Value) (xT:TypeId) (w:World):(Instr.typeAssert (.iface 137 v) xT 201 true).run Tryz.prog w=.ok (.tuple #[.nilIface,.bool false]) w:=run_typeAssert_lacksB Tryz.underlying201 (by kernel_rfl) (by kernel_rfl) v xT w
set_option maxHeartbeats 4000000 in
set_option maxRecDepth 100000 in
theorem as_from (s:ByteArray) (x:Int) (t:Addr) (old:Value) (w:World) (hg:w.cell? ⟨0,0,none⟩=some (.iface 165 (.agg #[.pointer (some ⟨1,71,none⟩)]))) (ht0:w.cell? t=some old) (hf0:w.frozen? t=false) :
  Calls Tryz.prog 38 #[.iface 137 (.agg #[.string s,.iface 85 (.agg #[.int .i64 x])]),.iface 111 (.pointer (some t))] w fun ev w'=>ev=.returned (.bool true)∧w'=(((((w.alloc (.cells #[.pointer (some t)] 111)).alloc (.cells #[.pointer (some ⟨1,111,none⟩),.pointer (some ⟨w.heap.size,0,none⟩),.int .u64 150] 141)).alloc (.cells #[.pointer (some ⟨1,111,none⟩),.pointer (some ⟨w.heap.size,0,none⟩),.int .u64 150] 141)).alloc (.cells #[.string s,.iface 85 (.agg #[.int .i64 x])] 137)).alloc (.cells #[.int .i64 x] 85)).setCell t (.int .i64 x):=by
 have hV:=@run_callFunc_extern Tryz.prog 58 _ (fun args=>ReflectliteValue.unpack (args.getD 0 (.tuple #[]))) Tryz.func58 (by kernel_rfl) (by kernel_rfl) (by kernel_rfl) (by kernel_rfl)
 have hT:=@run_callFunc_extern Tryz.prog 59 _ (ReflectliteValue.methodAny (ReflectliteValue.valueError "reflectlite.Value.Type" 0) (fun t _ _ _=>ReflectliteType.toType t)) Tryz.func59 (by kernel_rfl) (by kernel_rfl) (by kernel_rfl) (by kernel_rfl)
 have hN:=@run_callFunc_extern Tryz.prog 60 _ (ReflectliteValue.method (ReflectliteValue.valueError "reflectlite.Value.IsNil" 0) ReflectliteValue.isNil) Tryz.func60 (by kernel_rfl) (by kernel_rfl) (by kernel_rfl) (by kernel_rfl)
 have hK:=@run_callFunc_extern Tryz.prog 158 _ (ReflectliteType.abiMethod fun t=>do pure (.int .u8 (← Rtype.kind t))) Tryz.func158 (by kernel_rfl) (by kernel_rfl) (by kernel_rfl) (by kernel_rfl)
 have hE:=@run_callFunc_extern Tryz.prog 170 _ (ReflectliteType.method ReflectliteType.elem) Tryz.func170 (by kernel_rfl) (by kernel_rfl) (by kernel_rfl) (by kernel_rfl)
 have hI:=@run_callFunc_extern Tryz.prog 171 _ (ReflectliteType.relation "Implements" ReflectliteType.implements_) Tryz.func171 (by kernel_rfl) (by kernel_rfl) (by kernel_rfl) (by kernel_rfl)
 have hO:=@run_callFunc_extern Tryz.prog 43 _ ReflectliteType.typeOf Tryz.func43 (by kernel_rfl) (by kernel_rfl) (by kernel_rfl) (by kernel_rfl)
 have hA:=@run_callFunc_extern Tryz.prog 168 _ (ReflectliteType.relation "AssignableTo" ReflectliteType.assignableTo) Tryz.func168 (by kernel_rfl) (by kernel_rfl) (by kernel_rfl) (by kernel_rfl)
 have hL:=@run_callFunc_extern Tryz.prog 89 _ (ReflectliteValue.method (ReflectliteValue.valueError "reflectlite.Value.Elem" 0) ReflectliteValue.elem) Tryz.func89 (by kernel_rfl) (by kernel_rfl) (by kernel_rfl) (by kernel_rfl)
 have hS:=@run_callFunc_extern Tryz.prog 90 _ ReflectliteValue.set Tryz.func90 (by kernel_rfl) (by kernel_rfl) (by kernel_rfl) (by kernel_rfl)
 have tF:=asTypeOfF
 have tW:=isTypeOfW
 have mA:=asMethodAssignableTo
 have aF:=asAssignableF
 have aW:=asAssignableW
 have vP:=asValueOfP
 have vW:=asValueOfW
 have tP:=asTypeP
 have mK:=asMethodKind
 have mE:=asMethodElem
 have mI:=asMethodImplements
 have mU:=methodUnwrap
 have kP:=asKindP
 have kW:=asKindW
 have eP:=asElemP
 have iW:=asImplementsW
 have nA:=noAsF
 have hU:=hasUnwrapF
 have n8:=asIsNil ⟨w.heap.size,0,none⟩ t ((w.alloc (.cells #[.pointer (some t)] 111)).alloc (.cells #[.pointer (some ⟨1,111,none⟩),.pointer (some ⟨w.heap.size,0,none⟩),.int .u64 150] 141)) (by simp)
 have hlt:0 < w.heap.size:=by
  rcases Nat.eq_zero_or_pos w.heap.size with h0|h
  ·simp [World.cell?,h0] at hg
  ·exact h
 have hg2:((w.alloc (.cells #[.pointer (some t)] 111)).alloc (.cells #[.pointer (some ⟨1,111,none⟩),.pointer (some ⟨w.heap.size,0,none⟩),.int .u64 150] 141)).cell? ⟨0,0,none⟩=some (.iface 165 (.agg #[.pointer (some ⟨1,71,none⟩)])):=by
  rw [World.cell?_alloc_lt _ _ ⟨0,0,none⟩ (by simp),World.cell?_alloc_lt _ _ ⟨0,0,none⟩ hlt];exact hg
 have htl:t.block < w.heap.size:=by
  rcases Nat.lt_or_ge t.block w.heap.size with h|h
  ·exact h
  ·simp [World.cell?,Array.getElem?_eq_none h] at ht0
 have el:=asElemV ⟨w.heap.size,0,none⟩ t ((((w.alloc (.cells #[.pointer (some t)] 111)).alloc (.cells #[.pointer (some ⟨1,111,none⟩),.pointer (some ⟨w.heap.size,0,none⟩),.int .u64 150] 141)).alloc (.cells #[.pointer (some ⟨1,111,none⟩),.pointer (some ⟨w.heap.size,0,none⟩),.int .u64 150] 141)).alloc (.cells #[.string s,.iface 85 (.agg #[.int .i64 x])] 137)) (by rw [World.cell?_alloc_lt _ _ ⟨w.heap.size,0,none⟩ (by simp;omega),World.cell?_alloc_lt _ _ ⟨w.heap.size,0,none⟩ (by simp;omega)];simp)
 have st:=asSetW t ⟨w.heap.size+1+1+1+1,0,none⟩ x old (((((w.alloc (.cells #[.pointer (some t)] 111)).alloc (.cells #[.pointer (some ⟨1,111,none⟩),.pointer (some ⟨w.heap.size,0,none⟩),.int .u64 150] 141)).alloc (.cells #[.pointer (some ⟨1,111,none⟩),.pointer (some ⟨w.heap.size,0,none⟩),.int .u64 150] 141)).alloc (.cells #[.string s,.iface 85 (.agg #[.int .i64 x])] 137)).alloc (.cells #[.int .i64 x] 85))
  (by rw [World.cell?_alloc_at _ _ _ _ (by simp)];rfl)
  (by rw [World.cell?_alloc_lt _ _ t (by simp;omega),World.cell?_alloc_lt _ _ t (by simp;omega),World.cell?_alloc_lt _ _ t (by simp;omega),World.cell?_alloc_lt _ _ t (by simp;omega),World.cell?_alloc_lt _ _ t htl];exact ht0)
  (by rw [World.frozen?_alloc_old _ _ t (by simp;omega),World.frozen?_alloc_old _ _ t (by simp;omega),World.frozen?_alloc_old _ _ t (by simp;omega),World.frozen?_alloc_old _ _ t (by simp;omega),World.frozen?_alloc_old _ _ t (Nat.ne_of_lt htl)];exact hf0)
 go_enter Tryz.func38,Tryz.ntmps38
 go_wp2
 refine wp_loop_rounds 2 ?_
 rw [rounds_succ]
 go_wp2
 rw [rounds_succ]
 go_wp2
 go_ret
 exact ⟨rfl,rfl⟩
def ErrTy (w:World):Prop:=w.cell? ⟨0,0,none⟩=some (.iface 165 (.agg #[.pointer (some ⟨1,71,none⟩)]))
theorem ErrTy.below {w w':World} (h:ErrTy w) (hb:Below w.heap.size w w'):ErrTy w':=by
 have hlt:0 < w.heap.size:=by
  rcases Nat.eq_zero_or_pos w.heap.size with h0|h0
  ·unfold ErrTy at h
   simp [World.cell?,h0] at h
  ·exact h0
 exact (hb.cell hlt).trans h
set_option maxHeartbeats 4000000 in
set_option maxRecDepth 100000 in
theorem number_any (s:ByteArray) (x:Int) (w:World) (hg:ErrTy w) :
  Calls Tryz.prog 19 #[fromV s x] w fun ev w'=>ev=.returned (.int .i64 x)∧Below w.heap.size w w':=by
 have hlt:0 < w.heap.size:=by
  rcases Nat.eq_zero_or_pos w.heap.size with h0|h0
  ·unfold ErrTy at hg
   simp [World.cell?,h0] at hg
  ·exact h0
 have KA:Hid (∀ W:World,ErrTy W→∀ t old,W.cell? t=some old→W.frozen? t=false→Calls Tryz.prog 38 #[.iface 137 (.agg #[.string s,.iface 85 (.agg #[.int .i64 x])]),.iface 111 (.pointer (some t))] W fun ev w'=>ev=.returned (.bool true)∧w'=(((((W.alloc (.cells #[.pointer (some t)] 111)).alloc (.cells #[.pointer (some ⟨1,111,none⟩),.pointer (some ⟨W.heap.size,0,none⟩),.int .u64 150] 141)).alloc (.cells #[.pointer (some ⟨1,111,none⟩),.pointer (some ⟨W.heap.size,0,none⟩),.int .u64 150] 141)).alloc (.cells #[.string s,.iface 85 (.agg #[.int .i64 x])] 137)).alloc (.cells #[.int .i64 x] 85)).setCell t (.int .i64 x)):=fun W h1 t old h2 h3=>as_from s x t old W h1 h2 h3
 have HG:=LH hg
 unfold fromV wrongV
 clear hg
 go_enter Tryz.func19,Tryz.ntmps19
 go_wp2_with fail
 refine (KA.out _ (HG.out.below ((Below.refl _ _).alloc (Nat.le_refl _) _)) _ (.int .i64 0) (by simp) (by simp)).mono ?_
 rintro e w2 ⟨rfl,rfl⟩
 go_wp2_with fail
 go_ret
 refine ⟨rfl,?_⟩
 repeat (first|with_reducible (first|exact Below.refl _ _|apply below_alloc)|((first|with_reducible refine Below.alloc ?_ ?_ _|with_reducible refine Below.setCell ?_ ?_ _);rotate_left;focus (first|(simp <;> omega)|omega)))
def groupT:ByteArray:={ data:=#[103,114,111,117,112] }
theorem askedG_any (n:Int) (w:World):Calls Tryz.prog 18 #[.int .i64 n] w fun ev w'=>ev=.returned (errV groupT (if n < 0∨4≤n then 2 else 0))∧w'=w:=by
 have hw:=wrap_any groupT 2 w
 unfold groupT at hw
 have HW:=LH hw
 clear hw
 by_cases h1:n < 0
 ·rw [if_pos (Or.inl h1)]
  go_enter Tryz.func18,Tryz.ntmps18
  go_wp2_with fail
  refine HW.out.mono ?_
  rintro e w2 ⟨rfl,rfl⟩
  go_wp2_with fail
  go_ret
  exact ⟨rfl,rfl⟩
 ·by_cases h2:4≤n
  ·rw [if_pos (Or.inr h2)]
   go_enter Tryz.func18,Tryz.ntmps18
   go_wp2_with fail
   refine HW.out.mono ?_
   rintro e w2 ⟨rfl,rfl⟩
   go_wp2_with fail
   go_ret
   exact ⟨rfl,rfl⟩
  ·rw [if_neg (by omega)]
   have e0:errV groupT 0=.nilIface:=if_pos rfl
   rw [e0]
   clear e0
   go_enter Tryz.func18,Tryz.ntmps18
   go_wp2_with fail
   go_ret
   exact ⟨rfl,rfl⟩
end Go.Proofs.YtkkohllhebdlcaaGreatDoor
