/-
  Proved here: slices.Equal at numbers, slices.EqualFunc at rows of numbers, commits. slices.Reverse at entries of the call's own. No condition but that the slices.Backward at entries: an iterator that hands out a slice's entri append onto an own row, whether or not anything is appended, at a step
-/
import Derived.Test.YtdfmcgekfogpbabGreatDoorY03
import Derived.BigRegion
import Derived.Laws.OwnMore
import Derived.RangeFuncNested
import Derived.RangeFuncBound
import Derived.RangeFuncCalls
import Derived.RangeFuncLeaves
import Derived.RangeFuncBox
import Derived.RangeFuncWrites
import Derived.Shelf.Abstract
import Derived.Shelf.RegionOpen
import Derived.OwnWalkIn
import Derived.TacticsInMore
import Derived.LoopNIn
import Derived.LoopIn
import Derived.Deep.RegionLaw
set_option maxRecDepth 100000
namespace Go.Proofs.YtdfmcgekfogpbabGreatDoor
open Go.RowKit
theorem list_eq_of {α:Type} {l l':List α} (d:α) (hl:l.length=l'.length) (h:∀ j,j < l.length→l.getD j d=l'.getD j d):l=l':=by
 apply List.ext_getElem hl
 intro i h1 h2
 have:=h i h1
 simpa [List.getD,h1,h2] using this
theorem eqInt_len (a a':Option Addr) (n n' cap cap':Nat) (w:World) (h:n≠n') :
  Calls Tryz.prog 79 #[.slice a n cap,.slice a' n' cap'] w fun e w'=>e=.returned (.bool false)∧Below w.heap.size w w':=by
 have hd:((n:Int) != (n':Int))=true:=by simp;omega
 go_enter Tryz.func79,Tryz.ntmps79
 go_wp2_with fail
 go_ret
 exact ⟨rfl,Below.refl _ _⟩
theorem eqInt_none (a a':Option Addr) (cap cap':Nat) (w:World) :
  Calls Tryz.prog 79 #[.slice a 0 cap,.slice a' 0 cap'] w fun e w'=>e=.returned (.bool true)∧Below w.heap.size w w':=by
 go_enter Tryz.func79,Tryz.ntmps79
 go_wp2_with fail
 refine wp_loop_rounds 1 ?_
 rw [rounds_succ]
 go_wp2
 go_ret
 exact ⟨rfl,Below.refl _ _⟩
set_option maxHeartbeats 1000000 in
set_option maxRecDepth 100000 in
theorem eqInt_some (b off cap b' off' cap' n:Nat) (l l':List Int) (w:World) (hl:0 < n) (hn:n=l.length) (hn2:n=l'.length) (hcap:n≤cap) (hm:cap≤9223372036854775807) (hcap':n≤cap')
  (hc:∀ i,i < n→w.cell? ⟨b,off+i,none⟩=some (.int .i64 (l.getD i 0))) (hc':∀ i,i < n→w.cell? ⟨b',off'+i,none⟩=some (.int .i64 (l'.getD i 0))) :
  Calls Tryz.prog 79 #[.slice (some ⟨b,off,none⟩) n cap,.slice (some ⟨b',off',none⟩) n cap'] w fun e w'=>e=.returned (.bool (decide (l=l')))∧Below w.heap.size w w':=by
 have HC:=LH hc
 have HC':=LH hc'
 have HN:=LH hn
 have HN2:=LH hn2
 obtain ⟨r,hr⟩:∃ r,r=decide (l=l'):=⟨_,rfl⟩
 rw [← hr]
 have HR:=LH hr
 clear hn hn2 hc hc' hr
 have nn:((n:Int) != (n:Int))=false:=by simp
 have hn':(n:Int)≤9223372036854775807:=by omega
 go_enter Tryz.func79,Tryz.ntmps79
 go_wp2_with fail
 go_loopw [5,13] (fun _ i wr=>∃ k:Nat,k≤n∧i=.int .i64 (k:Int)∧Hid (∀ j,j < k→l.getD j 0=l'.getD j 0)∧Below w.heap.size w wr) (fun _ i _=>n - (intOf i).toNat)
 case atStart=>exact ⟨0,Nat.zero_le _,rfl,(fun j hj=>absurd hj (Nat.not_lt_zero _)),Below.refl _ _⟩
 case round =>
  obtain ⟨k,hk,rfl,hall,hb⟩:=hrel
  by_cases hlt:k < n
  ·have hk0:(0:Int)≤(k:Int):=by omega
   have hk1:(k:Int) < (n:Int):=by omega
   have c0:=keep hb (HC.out k hlt)
   have c1:=keep hb (HC'.out k hlt)
   obtain ⟨x,hx⟩:∃ x,x=l.getD k 0:=⟨_,rfl⟩
   obtain ⟨y,hy⟩:∃ y,y=l'.getD k 0:=⟨_,rfl⟩
   rw [← hx] at c0
   rw [← hy] at c1
   have HX:=LH hx
   have HY:=LH hy
   clear hx hy
   by_cases hxy:x=y
   ·have hd:(x != y)=false:=by simpa using hxy
    have HXY:=LH hxy
    clear hxy
    go_wp2_with fail
    go_region
    have hbq:=hb.drew
    go_wp2_with fail
    go_roundw
    case rel =>
     refine ⟨k+1,by omega,by go_num,fun j hj=>?_,hbq⟩
     by_cases hjk:j < k
     ·exact hall.out j hjk
     ·obtain rfl:j=k:=by omega
      rw [← HX.out,← HY.out];exact HXY.out
    case measure=>simp [intOf];omega
   ·have hd:(x != y)=true:=by simpa using hxy
    have HXY:=LH hxy
    clear hxy
    go_wp2_with fail
    go_region
    have hbq:=hb.drew
    go_wp2_with fail
    go_ret
    refine ⟨?_,hbq⟩
    have e:r=false:=by
     rw [HR.out]
     refine decide_eq_false (fun e=>HXY.out ?_)
     rw [HX.out,HY.out,e]
    rw [e]
    rfl
  ·obtain rfl:k=n:=by omega
   have hlt':¬ (k:Int) < (k:Int):=by omega
   go_wp2_with fail
   go_ret
   refine ⟨?_,hb⟩
   have e:r=true:=by
    rw [HR.out]
    refine decide_eq_true (list_eq_of 0 (by rw [← HN.out,HN2.out]) (fun j hj=>hall.out j (by rw [HN.out];exact hj)))
   rw [e]
   rfl
theorem eqInt_any {v v':Value} {l l':List Int} {w:World} (h:SliceR w v 1 intCell l) (h':SliceR w v' 1 intCell l') :
  Calls Tryz.prog 79 #[v,v'] w fun e w'=>e=.returned (.bool (decide (l=l')))∧Below w.heap.size w w':=by
 obtain ⟨a,cap,rfl,hcap,hm,_,hc⟩:=h.one (c:=fun n=>.int .i64 n) 0
 obtain ⟨a',cap',rfl,hcap',hm',_,hc'⟩:=h'.one (c:=fun n=>.int .i64 n) 0
 by_cases hl:l.length=l'.length
 ·by_cases h0:l.length=0
  ·have e1:l=[]:=List.length_eq_zero_iff.1 h0
   have e2:l'=[]:=List.length_eq_zero_iff.1 (by omega)
   subst e1 e2
   simpa using eqInt_none a a' cap cap' w
  ·obtain ⟨b,off,rfl,hd⟩:=hc (by omega)
   obtain ⟨b',off',rfl,hd'⟩:=hc' (by omega)
   unfold maxLen at hm
   rw [← hl]
   exact eqInt_some b off cap b' off' cap' _ l l' w (by omega) rfl hl hcap hm (by omega) hd (fun i hi=>hd' i (by omega))
 ·have e:decide (l=l')=false:=decide_eq_false (fun e=>hl (by rw [e]))
  rw [e]
  exact eqInt_len a a' _ _ cap cap' w hl
theorem same1_any {v v':Value} {l l':List Int} {w:World} (h:SliceR w v 1 intCell l) (h':SliceR w v' 1 intCell l') :
  Calls Tryz.prog 78 #[v,v'] w fun e w'=>e=.returned (.bool (decide (l=l')))∧Below w.heap.size w w':=by
 have K:=LH (eqInt_any h h')
 obtain ⟨a,cap,rfl,_⟩:=h
 obtain ⟨a',cap',rfl,_⟩:=h'
 obtain ⟨r,hr⟩:∃ r,r=decide (l=l'):=⟨_,rfl⟩
 rw [← hr] at K ⊢
 clear hr
 obtain ⟨n,hn⟩:∃ n,n=l.length:=⟨_,rfl⟩
 obtain ⟨n',hn'⟩:∃ n,n=l'.length:=⟨_,rfl⟩
 rw [← hn,← hn'] at K
 rw [← hn,← hn']
 clear hn hn'
 go_enter Tryz.func78,Tryz.ntmps78
 go_wp2_with fail
 refine K.out.mono ?_
 rintro e w1 ⟨rfl,hb⟩
 go_wp2_with fail
 go_ret
 exact ⟨rfl,hb⟩
theorem eqRow_len (a a':Option Addr) (n n' cap cap':Nat) (f:Value) (w:World) (h:n≠n') :
  Calls Tryz.prog 77 #[.slice a n cap,.slice a' n' cap',f] w fun e w'=>e=.returned (.bool false)∧Below w.heap.size w w':=by
 have hd:((n:Int) != (n':Int))=true:=by simp;omega
 go_enter Tryz.func77,Tryz.ntmps77
 go_wp2_with fail
 go_ret
 exact ⟨rfl,Below.refl _ _⟩
theorem eqRow_none (a a':Option Addr) (cap cap':Nat) (f:Value) (w:World) :
  Calls Tryz.prog 77 #[.slice a 0 cap,.slice a' 0 cap',f] w fun e w'=>e=.returned (.bool true)∧Below w.heap.size w w':=by
 go_enter Tryz.func77,Tryz.ntmps77
 go_wp2_with fail
 refine wp_loop_rounds 1 ?_
 rw [rounds_succ]
 go_wp2
 go_ret
 exact ⟨rfl,Below.refl _ _⟩
set_option maxHeartbeats 1000000 in
set_option maxRecDepth 100000 in
theorem eqRow_some (b off cap b' off' cap' n:Nat) (us us':List Value) (m m':List (List Int)) (w:World) (hl:0 < n) (hn:n=m.length) (hn2:n=m'.length) (hcap:n≤cap) (hm:cap≤9223372036854775807) (hcap':n≤cap')
  (hc:∀ i,i < n→w.cell? ⟨b,off+i,none⟩=some (us.getD i .nilIface)) (hc':∀ i,i < n→w.cell? ⟨b',off'+i,none⟩=some (us'.getD i .nilIface))
  (hr:∀ i,i < n→SliceR w (us.getD i .nilIface) 1 intCell (m.getD i [])) (hr':∀ i,i < n→SliceR w (us'.getD i .nilIface) 1 intCell (m'.getD i [])) :
  Calls Tryz.prog 77 #[.slice (some ⟨b,off,none⟩) n cap,.slice (some ⟨b',off',none⟩) n cap',.func (.func 78) #[] #[]] w fun e w'=>e=.returned (.bool (decide (m=m')))∧Below w.heap.size w w':=by
 have HC:=LH hc
 have HC':=LH hc'
 have HR:=LH hr
 have HR':=LH hr'
 have HN:=LH hn
 have HN2:=LH hn2
 obtain ⟨r,hr⟩:∃ r,r=decide (m=m'):=⟨_,rfl⟩
 rw [← hr]
 have HRR:=LH hr
 clear hn hn2 hc hc' hr hr'
 have nn:((n:Int) != (n:Int))=false:=by simp
 have hn':(n:Int)≤9223372036854775807:=by omega
 go_enter Tryz.func77,Tryz.ntmps77
 go_wp2_with fail
 go_loopw [7,8,9,17] (fun _ _ _ i wr=>∃ k:Nat,k≤n∧i=.int .i64 (k:Int)∧Hid (∀ j,j < k→m.getD j []=m'.getD j [])∧Below w.heap.size w wr) (fun _ _ _ i _=>n - (intOf i).toNat)
 case atStart=>exact ⟨0,Nat.zero_le _,rfl,(fun j hj=>absurd hj (Nat.not_lt_zero _)),Below.refl _ _⟩
 case round =>
  obtain ⟨k,hk,rfl,hall,hb⟩:=hrel
  by_cases hlt:k < n
  ·have hk0:(0:Int)≤(k:Int):=by omega
   have hk1:(k:Int) < (n:Int):=by omega
   have c0:=keep hb (HC.out k hlt)
   have c1:=keep hb (HC'.out k hlt)
   have r0:=(HR.out k hlt).below (fun _=>rfl) hb
   have r1:=(HR'.out k hlt).below (fun _=>rfl) hb
   obtain ⟨x,hx⟩:∃ x,x=m.getD k []:=⟨_,rfl⟩
   obtain ⟨y,hy⟩:∃ y,y=m'.getD k []:=⟨_,rfl⟩
   obtain ⟨u,hu⟩:∃ u,u=us.getD k .nilIface:=⟨_,rfl⟩
   obtain ⟨u',hu'⟩:∃ u,u=us'.getD k .nilIface:=⟨_,rfl⟩
   rw [← hx,← hu] at r0
   rw [← hy,← hu'] at r1
   rw [← hu] at c0
   rw [← hu'] at c1
   have HX:=LH hx
   have HY:=LH hy
   have L:=same1_any r0 r1
   obtain ⟨ua,ucap,hua,_⟩:=r0
   obtain ⟨ua',ucap',hua',_⟩:=r1
   clear hx hy hu hu'
   subst hua hua'
   obtain ⟨c,hc⟩:∃ c,c=decide (x=y):=⟨_,rfl⟩
   rw [← hc] at L
   have HL:=LH L
   have HXY:=LH hc
   clear L hc
   obtain ⟨nx,hnx⟩:∃ n,n=x.length:=⟨_,rfl⟩
   obtain ⟨ny,hny⟩:∃ n,n=y.length:=⟨_,rfl⟩
   rw [← hnx,← hny] at HL
   rw [← hnx] at c0
   rw [← hny] at c1
   clear hnx hny
   cases c
   ·go_wp2_with fail
    refine HL.out.mono ?_
    rintro e w1 ⟨rfl,hb1⟩
    have hb2:=hb.trans (hb1.mono hb.size)
    go_wp2_with fail
    go_ret
    refine ⟨?_,hb2⟩
    have e:r=false:=by
     rw [HRR.out]
     refine decide_eq_false (fun e=>?_)
     have h1:=of_decide_eq_false HXY.out.symm
     exact h1 (by rw [HX.out,HY.out,e])
    rw [e]
    rfl
   ·go_wp2_with fail
    refine HL.out.mono ?_
    rintro e w1 ⟨rfl,hb1⟩
    have hb2:=hb.trans (hb1.mono hb.size)
    clear hb hb1 c0 c1
    go_wp2_with fail
    go_roundw
    case rel =>
     refine ⟨k+1,by omega,by go_num,fun j hj=>?_,hb2⟩
     by_cases hjk:j < k
     ·exact hall.out j hjk
     ·obtain rfl:j=k:=by omega
      rw [← HX.out,← HY.out];exact of_decide_eq_true HXY.out.symm
    case measure=>simp [intOf];omega
  ·obtain rfl:k=n:=by omega
   have hlt':¬ (k:Int) < (k:Int):=by omega
   go_wp2_with fail
   go_ret
   refine ⟨?_,hb⟩
   have e:r=true:=by
    rw [HRR.out]
    refine decide_eq_true (list_eq_of [] (by rw [← HN.out,HN2.out]) (fun j hj=>hall.out j (by rw [HN.out];exact hj)))
   rw [e]
   rfl
theorem same_any {v v':Value} {m m':List (List Int)} {w:World} (h:RowsR w v m) (h':RowsR w v' m') :
  Calls Tryz.prog 41 #[v,v'] w fun e w'=>e=.returned (.bool (decide (m=m')))∧Below w.heap.size w w':=by
 obtain ⟨us,h1,h2,h3⟩:=h
 obtain ⟨us',h1',h2',h3'⟩:=h'
 obtain ⟨a,cap,rfl,hcap,hm,_,hc⟩:=h1.one (c:=fun u=>u) .nilIface
 obtain ⟨a',cap',rfl,hcap',hm',_,hc'⟩:=h1'.one (c:=fun u=>u) .nilIface
 have K:Calls Tryz.prog 77 #[.slice a us.length cap,.slice a' us'.length cap',.func (.func 78) #[] #[]] w fun e w'=>e=.returned (.bool (decide (m=m')))∧Below w.heap.size w w':=by
  by_cases hl:us.length=us'.length
  ·by_cases h0:us.length=0
   ·have e1:m=[]:=List.length_eq_zero_iff.1 (by omega)
    have e2:m'=[]:=List.length_eq_zero_iff.1 (by omega)
    rw [← hl,h0,e1,e2]
    exact eqRow_none a a' cap cap' _ w
   ·obtain ⟨b,off,rfl,hd⟩:=hc (by omega)
    obtain ⟨b',off',rfl,hd'⟩:=hc' (by omega)
    unfold maxLen at hm
    rw [← hl]
    exact eqRow_some b off cap b' off' cap' _ us us' m m' w (by omega) h2 (by omega) hcap hm (by omega) hd (fun i hi=>hd' i (by omega)) (fun i hi=>h3 i (by omega)) (fun i hi=>h3' i (by omega))
  ·have e:decide (m=m')=false:=decide_eq_false (fun e=>hl (by rw [h2,h2',e]))
   rw [e]
   exact eqRow_len a a' _ _ cap cap' _ w hl
 have HK:=LH K
 obtain ⟨r,hr⟩:∃ r,r=decide (m=m'):=⟨_,rfl⟩
 rw [← hr] at HK ⊢
 clear hr K hc hc' h3 h3' h1 h1' h2 h2' hcap hcap' hm hm'
 go_enter Tryz.func41,Tryz.ntmps41
 go_wp2_with fail
 refine HK.out.mono ?_
 rintro e w1 ⟨rfl,hb⟩
 go_wp2_with fail
 go_ret
 exact ⟨rfl,hb⟩
end Go.Proofs.YtdfmcgekfogpbabGreatDoor
namespace Go.Proofs.YtdfmcgekfogpbabGreatDoor
open Go.RowKit
theorem flat_set (l:List Ent) (i:Nat) (x:Ent) (hi:i < l.length) :
  ((((l.flatMap entCells).set (i * 4) (.int .i64 x.off)).set (i * 4+1) (.int .i64 x.id)).set (i * 4+2) (.string x.key)).set (i * 4+3) (.string x.body)=(l.set i x).flatMap entCells:=by
 induction l generalizing i with
 |nil=>simp at hi
 |cons y l ih =>
  cases i with
  |zero=>simp [entCells]
  |succ i =>
   have:=ih i (by simpa using hi)
   simp only [List.flatMap_cons,List.set_cons_succ,← this]
   have e:∀ (m:Nat) (v:Value) (r:List Value),(entCells y++r).set (4+m) v=entCells y++r.set m v:=fun m v r=>by
    rw [List.set_append_right (h:=by simp [entCells])]
    simp [entCells]
   have a0:(i+1) * 4=4+i * 4:=by omega
   rw [a0,e,Nat.add_assoc,e,Nat.add_assoc,e,Nat.add_assoc,e]
def Only (g:Nat) (w w':World):Prop:=w'.heap.size=w.heap.size∧(∀ b,b≠g→w'.heap[b]?=w.heap[b]?)∧∀ B,B≤g→B≤w.heap.size→Below B w w'
theorem Only.refl (g:Nat) (w:World):Only g w w:=⟨rfl,fun _ _=>rfl,fun _ _ _=>Below.refl _ _⟩
theorem Only.drew {g:Nat} {w w':World} (h:Only g w w'):Only g w w'.drew:=⟨h.1,h.2.1,fun B h1 h2=>(h.2.2 B h1 h2).drew⟩
theorem Only.set_ {g:Nat} {w w':World} (h:Only g w w') (o:Nat) (u:Value):Only g w (w'.setCell ⟨g,o,none⟩ u) :=
 ⟨by simpa using h.1,fun b hb=>(Below.heap_setCell w' ⟨g,o,none⟩ u b hb).trans (h.2.1 b hb),fun B h1 h2=>Below.setCell (p:=⟨g,o,none⟩) (h.2.2 B h1 h2) h1 u⟩
def put4 (W:World) (g i:Nat) (x:Ent):World:=(((W.setCell ⟨g,i * 4,none⟩ (.int .i64 x.off)).setCell ⟨g,i * 4+1,none⟩ (.int .i64 x.id)).setCell ⟨g,i * 4+2,none⟩ (.string x.key)).setCell ⟨g,i * 4+3,none⟩ (.string x.body)
theorem own_put4 {W:World} {B g n cap i:Nat} {l:List Ent} (hn:n=l.length) (h:OwnE W B (.slice (some ⟨g,0,none⟩) n cap) l) (hi:i < n) (x:Ent) :
  OwnE (put4 W g i x) B (.slice (some ⟨g,0,none⟩) n cap) (l.set i x):=by
 subst hn
 have h1:=(h.stored (i * 4) (.int .i64 x.off)).1
 have h2:=(h1.stored (i * 4+1) (.int .i64 x.id)).1
 have h3:=(h2.stored (i * 4+2) (.string x.key)).1
 have h4:=(h3.stored (i * 4+3) (.string x.body)).1
 rw [flat_set l i x hi] at h4
 unfold OwnE
 rw [List.length_set]
 exact h4
theorem only_put4 {w W:World} {g:Nat} (h:Only g w W) (i:Nat) (x:Ent):Only g w (put4 W g i x):=(((h.set_ _ _).set_ _ _).set_ _ _).set_ _ _
def swapE (l:List Ent) (i j:Nat):List Ent:=(l.set i (l.getD j default)).set j (l.getD i default)
def RevI (l:List Ent) (i:Nat) (c:List Ent):Prop:=c.length=l.length∧∀ k,k < l.length→c.getD k default=if k < i∨l.length - 1 - i < k then l.getD (l.length - 1 - k) default else l.getD k default
theorem revI_zero (l:List Ent):RevI l 0 l:=⟨rfl,fun k hk=>by rw [if_neg (by omega)]⟩
theorem revI_succ {l c:List Ent} {i j:Nat} (h:RevI l i c) (hij:i+j+1=l.length) (hlt:i < j):RevI l (i+1) (swapE c i j):=by
 obtain ⟨h1,h2⟩:=h
 refine ⟨by simp [swapE,h1],fun k hk=>?_⟩
 have e:(swapE c i j).getD k default=if k=j then c.getD i default else if k=i then c.getD j default else c.getD k default:=by
  unfold swapE
  simp only [List.getD_eq_getElem?_getD,List.getElem?_set,List.length_set]
  by_cases hj:j=k
  ·subst hj
   rw [if_pos rfl,if_pos (by omega),if_pos rfl]
   rfl
  ·rw [if_neg hj,if_neg (fun (e:k=j)=>hj e.symm)]
   by_cases hi:i=k
   ·subst hi
    rw [if_pos rfl,if_pos (by omega),if_pos rfl]
    rfl
   ·rw [if_neg hi,if_neg (fun (e:k=i)=>hi e.symm)]
 rw [e]
 by_cases hj:k=j
 ·subst hj
  rw [if_pos rfl,h2 i (by omega),if_neg (by omega),if_pos (by omega)]
  congr 1;omega
 ·rw [if_neg hj]
  by_cases hi:k=i
  ·subst hi
   rw [if_pos rfl,h2 j (by omega),if_neg (by omega),if_pos (by omega)]
   congr 1;omega
  ·rw [if_neg hi,h2 k hk]
   by_cases c1:k < i∨l.length - 1 - i < k
   ·rw [if_pos c1,if_pos (by omega)]
   ·rw [if_neg c1,if_neg (by omega)]
theorem revI_done {l c:List Ent} {i:Nat} (h:RevI l i c) (hi:l.length≤2 * i+1):c=l.reverse:=by
 obtain ⟨h1,h2⟩:=h
 apply List.ext_getElem (by simp [h1])
 intro k k1 k2
 have hk:k < l.length:=by omega
 have h:=h2 k hk
 have hk':l.length - 1 - k < l.length:=by omega
 rw [List.getElem_reverse]
 by_cases c1:k < i∨l.length - 1 - i < k
 ·rw [if_pos c1] at h
  simpa [List.getD_eq_getElem?_getD,k1,hk'] using h
 ·rw [if_neg c1] at h
  have e:l.length - 1 - k=k:=by omega
  simp only [e]
  simpa [List.getD_eq_getElem?_getD,k1,hk] using h
theorem own_at {W:World} {B g n cap k:Nat} {l:List Ent} (hn:n=l.length) (h:OwnE W B (.slice (some ⟨g,0,none⟩) n cap) l) (hk:k < n) :
  (W.cell? ⟨g,k * 4,none⟩=some (.int .i64 (l.getD k default).off)∧W.cell? ⟨g,k * 4+1,none⟩=some (.int .i64 (l.getD k default).id))∧W.cell? ⟨g,k * 4+2,none⟩=some (.string (l.getD k default).key)∧W.cell? ⟨g,k * 4+3,none⟩=some (.string (l.getD k default).body):=by
 obtain ⟨b,off,ha,he⟩:=h.reads.ents.2.2 (by omega)
 cases ha
 obtain ⟨⟨⟨e0,e1⟩,e2⟩,e3⟩:=he k (by omega)
 simp only [Nat.zero_add] at e0 e1 e2 e3
 exact ⟨⟨e0,e1⟩,e2,e3⟩
theorem own_free {W:World} {B g n cap:Nat} {l:List Ent} (hn:n=l.length) (h:OwnE W B (.slice (some ⟨g,0,none⟩) n cap) l) (o:Nat):W.frozen? ⟨g,o,none⟩=false:=by
 subst hn
 exact h.frozenAt o
def RevEnd (B:Nat) (v:Value) (l:List Ent) (w:World) (e:Ending) (w':World):Prop:=(∃ u,e=.returned u)∧OwnE w' B v l.reverse∧w'.heap.size=w.heap.size∧(∀ b,v.ownBlock≠some b→w'.heap[b]?=w.heap[b]?)∧(B≤w.heap.size→Below B w w')
set_option maxHeartbeats 2000000 in
set_option maxRecDepth 100000 in
theorem rev_any {v:Value} {B:Nat} {l:List Ent} {w:World} (h:OwnE w B v l) (hl:l.length≤1000000) :
  Calls Tryz.prog 155 #[v] w (RevEnd B v l w):=by
 obtain ⟨hlen,⟨e,h0⟩|⟨g,cap,cur,hv,hB,hh,hle,hmx,hr⟩⟩:=id h
 ·subst e
  obtain rfl:l=[]:=List.eq_nil_of_length_eq_zero h0
  have HO:=LH h
  clear h hlen
  go_enter Tryz.func155,Tryz.ntmps155
  go_wp2_with fail
  go_loopg [2,3] 0 (fun g i j wr=>i=.int .i64 0∧j=.int .i64 (-1)∧wr=w)
  case atStart=>exact ⟨rfl,rfl,rfl⟩
  case round =>
   obtain ⟨rfl,rfl,rfl⟩:=hrel
   go_wp2_with fail
   refine bodyPost_ret (results_none rfl _ _ _) rfl ⟨⟨_,rfl⟩,HO.out,rfl,fun _ _=>rfl,fun _=>Below.refl _ _⟩
 ·subst hv
  obtain ⟨n,hn⟩:∃ n,n=l.length:=⟨_,rfl⟩
  rw [← hn] at h hle hl ⊢
  have HO:=LH h
  have HN:=LH hn
  have HB:=LH hB
  have hg:g < w.heap.size:=(h.lt g rfl).2
  have hle':(n:Int)≤(cap:Int):=by omega
  have hl':(n:Int)≤1000000:=by omega
  clear h hlen hn hB hh hr hmx
  go_enter Tryz.func155,Tryz.ntmps155
  go_wp2_with fail
  go_loopg [2,3] n (fun m i j wr=>∃ (k:Nat) (c:List Ent),k≤n∧m=n - k∧i=.int .i64 (k:Int)∧j=.int .i64 ((n:Int) - 1 - (k:Int))∧Hid (RevI l k c)∧Hid (OwnE wr B (.slice (some ⟨g,0,none⟩) n cap) c)∧Hid (Only g w wr))
  case atStart=>exact ⟨0,l,Nat.zero_le _,rfl,rfl,by go_num,revI_zero l,HO.out,Only.refl _ _⟩
  case round =>
   obtain ⟨k,c,hk,rfl,rfl,rfl,hi,ho,hw⟩:=hrel
   by_cases hlt:(k:Int) < (n:Int) - 1 - (k:Int)
   ·have hk0:(0:Int)≤(k:Int):=by omega
    have hk1:(k:Int) < (n:Int):=by omega
    obtain ⟨j,hj⟩:∃ j:Nat,(n:Int) - 1 - (k:Int)=(j:Int):=⟨(n - 1 - k),by omega⟩
    rw [hj] at hlt ⊢
    have hj0:(0:Int)≤(j:Int):=by omega
    have hj1:(j:Int) < (n:Int):=by omega
    have hcl:n=c.length:=by have:=hi.out.1;have:=HN.out;omega
    obtain ⟨x,hx⟩:∃ x,x=c.getD k default:=⟨_,rfl⟩
    obtain ⟨y,hy⟩:∃ y,y=c.getD j default:=⟨_,rfl⟩
    have cc:=own_at hcl ho.out (k:=k) (by omega)
    have dd:=own_at hcl ho.out (k:=j) (by omega)
    rw [← hx] at cc
    rw [← hy] at dd
    obtain ⟨⟨c0,c1⟩,c2,c3⟩:=cc
    obtain ⟨⟨d0,d1⟩,d2,d3⟩:=dd
    have cz:=own_free hcl ho.out
    have HX:=LH hx
    have HY:=LH hy
    have HCL:=LH hcl
    have HJ:=LH hj
    clear hx hy hcl
    go_wp2_with fail
    go_region
    go_wp2_with fail
    go_roundg (n - (k+1))
    case measure=>omega
    case rel =>
     refine ⟨k+1,swapE c k j,by omega,rfl,by go_num,?_,?_,?_,?_⟩
     ·have:=HJ.out
      go_num
     ·exact revI_succ hi.out (by have:=HJ.out;have:=HN.out;omega) (by omega)
     ·have e:swapE c k j=(c.set k y).set j x:=by rw [swapE,← HX.out,← HY.out]
      rw [e]
      show OwnE (put4 (put4 wr g k y) g j x).drew B _ _
      exact own_drew (own_put4 (by rw [List.length_set];exact HCL.out) (own_put4 HCL.out ho.out (i:=k) (by omega) y) (i:=j) (by omega) x)
     ·show Only g w (put4 (put4 wr g k y) g j x).drew
      exact (only_put4 (only_put4 hw.out k y) j x).drew
   ·have hge:(n:Int) - 1 - (k:Int)≤(k:Int):=by omega
    go_wp2_with fail
    have hc:c=l.reverse:=revI_done hi.out (by have:=HN.out;omega)
    rw [hc] at ho
    refine bodyPost_ret (results_none rfl _ _ _) rfl ⟨⟨_,rfl⟩,ho.out,hw.out.1,fun b hb=>hw.out.2.1 b (fun e=>hb (by rw [e];rfl)),fun h=>hw.out.2.2 B HB.out h⟩
end Go.Proofs.YtdfmcgekfogpbabGreatDoor
namespace Go.Proofs.YtdfmcgekfogpbabGreatDoor
open Go.RowKit Go.Shelf
attribute [local go_sem] Oper.semAt_some
def down (l:List Ent) (k:Nat):List (Int × Ent):=(List.range k).map fun j=>(((l.length - 1 - j:Nat):Int),l.getD (l.length - 1 - j) default)
theorem down_succ (l:List Ent) (k:Nat):down l (k+1)=down l k++[(((l.length - 1 - k:Nat):Int),l.getD (l.length - 1 - k) default)]:=by simp [down,List.range_succ]
theorem down_length (l:List Ent) (k:Nat):(down l k).length=k:=by simp [down]
abbrev encE (x:Int × Ent):Array Value:=#[.int .i64 x.1,.agg #[.int .i64 x.2.off,.int .i64 x.2.id,.string x.2.key,.string x.2.body]]
def BackK (n₀ Bs:Nat) (W W':World):Prop:=Below n₀ W W'∧W'.heap[Bs]?=W.heap[Bs]?
theorem BackK.trans {n₀ Bs:Nat} {X Y Z:World} (h:BackK n₀ Bs X Y) (k:BackK n₀ Bs Y Z):BackK n₀ Bs X Z:=⟨h.1.trans k.1,k.2.trans h.2⟩
theorem backK_b {n₀ Bs:Nat} {w:World} (hn:n₀≤w.heap.size) (hB:Bs < w.heap.size) (W:World) (l:Nat) (o o':Obj) (hl:w.heap.size≤l) (h:W.heap[l]?=some o) (h1:o.isCells=false) (h2:o.isWalk=false):BackK n₀ Bs W (W.putObj l o') :=
 ⟨belowK_b hn W l o o' hl h h1 h2,(grownBy_putObj' W l o').block Bs (by have:=(Array.getElem?_eq_some_iff.1 h).1;omega) (fun e=>by cases e;omega)⟩
theorem blk_row {W W':World} {g:Nat} {t:TypeId} {cs:List Value} {row:Option Nat} (h:Blk W g t cs) (hg:W.grownBy W' row) (hr:∀ r,row=some r→∃ o:Obj,W.heap[r]?=some o∧o.isCells=false):Blk W' g t cs:=h.grown hg (fun e=>by
 obtain ⟨o,ho,hc⟩:=hr g e
 unfold Blk at h
 rw [h] at ho
 cases ho
 cases hc)
set_option maxRecDepth 100000 in
set_option maxHeartbeats 2000000 in
theorem back1_in (F:Fence) (n:Nat) (h7:F.fn 158) (hro:F.round=none) (hn:1≤n) (l Bs n₀:Nat) (a:Option Addr) (len cap:Nat) (es:List Ent) (hlen:len=es.length) (hle:len≤1000000)
  (J Jx:List (Int × Ent)→World→Prop)
  (hY:∀ k x W,J (down es k) W→k < len→x=(((es.length - 1 - k:Nat):Int),es.getD (es.length - 1 - k) default)→YieldAt F (n - 1) Tryz.prog l (encE x) W fun e W' =>
   (e=.returned (.bool true)∧J (down es k++[x]) W'∧BackK n₀ Bs W W')∨(e=.returned (.bool false)∧Jx (down es k++[x]) W'))
  (W:World) (hBs:W.cell? ⟨Bs,0,none⟩=some (.slice a len cap)) (hcap:len≤cap) (hd:0 < len→∃ b off,a=some ⟨b,off,none⟩∧b < n₀∧EntsAt W b off es) (h0:J [] W) :
  CallsIn F n Tryz.prog 158 #[.func (.yield l) #[] #[],.pointer (some ⟨Bs,0,none⟩)] W fun e W'=>(∃ v,e=.returned v) ∧
   ((∃ ys,ys=down es len∧J ys W')∨(∃ pre,(∃ k,k≤len∧pre=down es k)∧Jx pre W')):=by
 have HD:=LH hd
 have HY:=LH hY
 have HLEN:=LH hlen
 clear hd hY hlen
 have hle':(len:Int)≤1000000:=by omega
 refine callsIn_of_wp Tryz.func158 rfl h7 ?_ hro
 simp only [Tryz.ntmps158,List.size_toArray,List.length_cons,List.length_nil,Nat.reduceAdd,Nat.reduceSub,Array.replicate_succ,Array.replicate_zero,List.push_toArray,List.append_toArray,List.nil_append,List.cons_append]
 gi_wp2
 gi_loopw [3] (fun i wr=>∃ (k r:Nat) (z:Int),r+k=len∧i=.int .i64 z∧Hid (z=(r:Int) - 1)∧Hid (J (down es k) wr)∧Hid (BackK n₀ Bs W wr))
  (fun i _=>(intOf i+1).toNat)
 case atStart=>exact ⟨0,len,_,by omega,rfl,rfl,h0,Below.refl _ _,rfl⟩
 case round =>
  obtain ⟨k,r,z,hkr,rfl,hz,hJs,hnx⟩:=hrel
  have hbox:=(World.cell?_of_block (a:=⟨Bs,0,none⟩) hnx.out.2).trans hBs
  cases r with
  |zero =>
   have hz':=hz.out
   have hneg:z < 0:=by omega
   obtain rfl:k=len:=by omega
   clear hz'
   gi_wp2
   go_end0
   exact ⟨⟨_,rfl⟩,.inl ⟨_,rfl,hJs.out⟩⟩
  |succ m =>
   have hz':=hz.out
   obtain rfl:z=(m:Int):=by omega
   have m0:(0:Int)≤(m:Int):=by omega
   have m1:(m:Int) < (len:Int):=by omega
   obtain ⟨b,off,ha,hb,hcc⟩:=HD.out (by omega)
   subst ha
   have cc:=hcc m (by rw [← HLEN.out];omega)
   have hpl:es.length - 1 - k=m:=by have:=HLEN.out;omega
   obtain ⟨x,hx⟩:∃ x,x=es.getD m default:=⟨_,rfl⟩
   rw [← hx] at cc
   have hsucc:down es (k+1)=down es k++[((m:Int),x)]:=by rw [down_succ,hpl,← hx]
   have HS:=LH hsucc
   have c0:=(hnx.out.1.cell (p:=⟨b,off+m * 4,none⟩) hb).trans cc.1.1.1
   have c1:=(hnx.out.1.cell (p:=⟨b,off+m * 4+1,none⟩) hb).trans cc.1.1.2
   have c2:=(hnx.out.1.cell (p:=⟨b,off+m * 4+2,none⟩) hb).trans cc.1.2
   have c3:=(hnx.out.1.cell (p:=⟨b,off+m * 4+3,none⟩) hb).trans cc.2
   obtain ⟨fn,tmps,assign,body,hy,hR⟩:=HY.out k ((m:Int),x) wr hJs.out (by omega) (by rw [hpl,← hx])
   simp only [encE] at hy
   have HR:=LH hR
   clear cc hx hsucc hpl hcc hz' hz hR
   gi_wp2
   refine HR.out.mono ?_
   rintro e W3 (⟨rfl,hJ3,hk3⟩|⟨rfl,hJx3⟩)
   ·gi_wp2
    go_roundw
    case rel=>exact ⟨k+1,m,_,by omega,rfl,rfl,by show J _ _;rw [HS.out];exact hJ3,hnx.out.trans hk3⟩
    case measure=>simp [intOf]
   ·gi_wp2
    refine bodyPost_ret (results_none rfl _ _ _) rfl ?_
    exact ⟨⟨_,rfl⟩,.inr ⟨_,⟨k+1,by omega,rfl⟩,by rw [HS.out];exact hJx3⟩⟩
set_option maxHeartbeats 1000000 in
theorem back_any (v:Value) (a:Option Addr) (len cap:Nat) (w:World) (hv:v=.slice a len cap) :
  Calls Tryz.prog 154 #[v] w fun e w'=>e=.returned (.func (.func 158) #[] #[.pointer (some ⟨w.heap.size,0,none⟩)])∧w'=w.alloc (.cells #[v] 101):=by
 subst hv
 go_enter Tryz.func154,Tryz.ntmps154
 go_wp2_with fail
 go_ret
 exact ⟨rfl,rfl⟩
def idxD (n k:Nat):List Nat:=(List.range k).map fun j=>n - 1 - j
theorem down_idx (l:List Ent) (k:Nat):(down l k).map (fun x=>x.1.toNat)=idxD l.length k:=by simp [down,idxD]
theorem idxD_ents (l:List Ent):(idxD l.length l.length).map (fun i=>l.getD i default)=l.reverse:=by
 apply List.ext_getElem
 ·simp [idxD]
 ·intro i h1 h2
  have:i < l.length:=by simpa using h2
  have h3:l.length - 1 - i < l.length:=by omega
  simp [idxD,List.getD,h3]
theorem back_places (F:Fence) (n:Nat) (h7:F.fn 158) (hro:F.round=none) (hn:1≤n) (Bs n₀:Nat) (a:Option Addr) (cap:Nat) (es:List Ent) (hle:es.length≤1000000) (w:World) (hBs:Bs < w.heap.size) (hn₀:n₀≤w.heap.size)
  (hc:w.cell? ⟨Bs,0,none⟩=some (.slice a es.length cap)) (hcap:es.length≤cap) (hd:0 < es.length→∃ b off,a=some ⟨b,off,none⟩∧b < n₀∧EntsAt w b off es) :
  SeqStopsK F n Tryz.prog 158 #[.pointer (some ⟨Bs,0,none⟩)] (fun i:Nat=>encE ((i:Int),es.getD i default)) (BackK n₀ Bs) (fun ys=>ys=idxD es.length es.length) (fun pre=>∃ k,k≤es.length∧pre=idxD es.length k) es.length w:=fun l J Jx W hW _ _ hY h0=>by
 refine CallsIn.mono (back1_in F n h7 hro hn l Bs n₀ a es.length cap es rfl hle (fun d W=>J (d.map fun x=>x.1.toNat) W) (fun d W=>Jx (d.map fun x=>x.1.toNat) W) (fun k x W h1 h2 hx=>?_) W ((hW.cell (p:=⟨Bs,0,none⟩) hBs).trans hc) hcap (fun hp=>?_) h0) ?_
 ·subst hx
  have:=hY ((down es k).map fun x=>x.1.toNat) (es.length - 1 - k) W h1 (by rw [List.length_map,down_length];exact h2)
  simpa using this
 ·obtain ⟨b,off,ha,hb,he⟩:=hd hp
  refine ⟨b,off,ha,hb,fun i hi=>?_⟩
  have hb':b < w.heap.size:=by omega
  obtain ⟨⟨⟨e0,e1⟩,e2⟩,e3⟩:=he i hi
  exact ⟨⟨⟨(hW.cell (p:=⟨b,_,none⟩) hb').trans e0,(hW.cell (p:=⟨b,_,none⟩) hb').trans e1⟩,(hW.cell (p:=⟨b,_,none⟩) hb').trans e2⟩,(hW.cell (p:=⟨b,_,none⟩) hb').trans e3⟩
 ·rintro e W' ⟨hv,h|h⟩
  ·obtain ⟨ys,rfl,hJ⟩:=h
   exact ⟨hv,.inl ⟨_,rfl,by rw [← down_idx];exact hJ⟩⟩
  ·obtain ⟨pre,⟨k,hk,rfl⟩,hJ⟩:=h
   exact ⟨hv,.inr ⟨_,⟨k,hk,rfl⟩,by rw [← down_idx];exact hJ⟩⟩
end Go.Proofs.YtdfmcgekfogpbabGreatDoor
namespace Go.Proofs.YtdfmcgekfogpbabGreatDoor
open Go.RowKit
theorem step_append_own_any {P:Program} {w:World} {ops:Array Oper} {o:Oper} {a:Act} {K:Act→World→Prop} {Q:Exit→Act→World→Prop} {E:Prop} (hgd:o.guard=none) (s x:Operand) (t:TypeId)
  (ho:o.op=.call { callee:=.builtin .append,args:=#[s,x],argTypes:=#[t,t] })
  (base:Nat) (e:TypeId) (i:TypeInfo) (z:Value) (size bytes:Nat) (ht:P.underlying t=some (.slice e)) (hi:P.info? e=some i) (hz:i.zero=some z)
  (hsize:i.size=size) (hby:i.bytes=bytes) (hzs:z.cells.size=size) (hsz:0 < size)
  (v:Value) (n:Nat) (xs:List Value) (hs:a.eval s=v) (hown:w.ownsRow base e size v n xs)
  (ao:Option Addr) (m c:Nat) (news:List Value) (hx:a.eval x=.slice ao m c) (hl:news.length=m * size) (hnone:ao=none→m=0∧c=0)
  (hnews:∀ ad,ao=some ad→∀ j u,news[j]?=some u→w.cell? (ad.add j)=some u) (h1:∀ u∈news,u.oneCell'=true)
  (h63:n+m≤maxLen) (hbytes:(n+m) * bytes≤140737488355328) (hbase:base≤w.heap.size)
  (h:∀ v' w',w'.ownsRow base e size v' (n+m) (xs++news)→w.grownBy w' v.ownBlock→K (a.put o.dst v') w') :
  if Region.wanted o (yielded ops a.tmps)=true then Oper.wp P o a w K Q else E:=by
 have hw:Region.wanted o (yielded ops a.tmps)=true:=by simp [Region.wanted,hgd]
 rw [if_pos hw]
 cases ao with
 |some ad=>exact wp_append_own w s x t ho base e i z size bytes ht hi hz hsize hby hzs hsz v n xs hs hown ad m c news hx hl (hnews ad rfl) h1 h63 hbytes hbase fun v' w' h2 h3 _=>h v' w' h2 h3
 |none =>
  obtain ⟨rfl,rfl⟩:=hnone rfl
  have hn:news=[]:=List.eq_nil_of_length_eq_zero (by simpa using hl)
  subst hn
  have hrun:=run_append_owned_none (P:=P) (w:=w) base t o.type e i size ht hi v n xs hown
  unfold Oper.wp
  simp [execOp,ho,resolve,invoke,builtin,hs,hx,hrun,Result.andThen]
  exact h v w (by simpa using hown) (World.grownBy.refl _ _)
end Go.Proofs.YtdfmcgekfogpbabGreatDoor
