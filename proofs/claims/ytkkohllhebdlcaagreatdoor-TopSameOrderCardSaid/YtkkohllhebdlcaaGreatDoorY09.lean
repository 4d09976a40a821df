/-
  Proved here: Plain: a command off bytes; how its reader's box is kept. No walk in s (*skeen.clock).find: where the message of an id waits. Conditions: the (*skeen.clock).find, (*skeen.clock).done, slices.Contains at numbers. 
-/
import Derived.Test.YtkkohllhebdlcaaGreatDoorY06
set_option maxRecDepth 100000
namespace Go.Proofs.YtkkohllhebdlcaaGreatDoor
open Go.RowKit
def nN (l:List Int):Int:=(getN l).1
def nL (l:List Int):List Int:=l.drop (getN l).2.1.toNat
def nO (l:List Int) (o:Bool):Bool:=o && decide ((getN l).2.2=0)
def tN (l:List Int):ByteArray:=(getT l).1
def tL (l:List Int):List Int:=l.drop (getT l).2.1.toNat
def tO (l:List Int) (o:Bool):Bool:=o && decide ((getT l).2.2=0)
def iN (most:Int) (l:List Int):List Int:=(getI l most).1
def iL (most:Int) (l:List Int):List Int:=l.drop (getI l most).2.1.toNat
def iO (most:Int) (l:List Int) (o:Bool):Bool:=o && decide ((getI l most).2.2=0)
def rd1 (l:List Int) (o:Bool):PC × List Int × Bool :=
 let l1:=nL l;let o1:=nO l o
 let l2:=iL 4 l1;let o2:=iO 4 l1 o1
 let l3:=nL l2;let o3:=nO l2 o2
 let l4:=tL l3;let o4:=tO l3 o3
 (⟨1,⟨nN l,iN 4 l1,nN l2,tN l3,tN l4⟩,0,0,[],0,0,0⟩,tL l4,tO l4 o4)
def rd2 (l:List Int) (o:Bool):PC × List Int × Bool :=
 let l1:=nL l;let o1:=nO l o
 (⟨2,default,nN l,nN l1,[],0,0,0⟩,nL l1,nO l1 o1)
def rd3 (l:List Int) (o:Bool):PC × List Int × Bool:=(⟨3,default,0,0,iN 6 l,0,0,0⟩,iL 6 l,iO 6 l o)
def rd4 (l:List Int) (o:Bool):PC × List Int × Bool :=
 let l1:=nL l;let o1:=nO l o
 let l2:=nL l1;let o2:=nO l1 o1
 let l3:=nL l2;let o3:=nO l2 o2
 (⟨4,default,nN l,0,[],nN l1,nN l2,nN l3⟩,nL l3,nO l3 o3)
def rd56 (k:Int) (l:List Int) (o:Bool):PC × List Int × Bool :=
 let l1:=nL l;let o1:=nO l o
 let l2:=nL l1;let o2:=nO l1 o1
 (⟨k,default,nN l,0,[],nN l1,0,nN l2⟩,nL l2,nO l2 o2)
def rdC (l:List Int) (o:Bool):PC × List Int × Bool :=
 let k:=min (nN l) 255
 let l1:=nL l;let o1:=nO l o
 if k=1 then rd1 l1 o1 else if k=2 then rd2 l1 o1 else if k=3 then rd3 l1 o1 else if k=4 then rd4 l1 o1 else if k=5∨k=6 then rd56 k l1 o1 else (⟨k,default,0,0,[],0,0,0⟩,l1,o1)
theorem nN_pos (l:List Int):0≤nN l:=by
 rcases getN_cases l with h|⟨_,_,h,h1,_⟩
 ·rw [nN,h];exact Int.le_refl _
 ·rw [nN,h];exact h1.1
def ComO (w:World) (B:Nat) (v:Value) (c:PC):Prop:=∃ a cap b bc,v=.agg #[.int .u8 c.kind,.int .i64 c.msg.id,.slice a c.msg.groups.length cap,.int .i64 c.msg.topic,.string c.msg.key,.string c.msg.body,.int .i64 c.id,.int .i64 c.time,.slice b c.members.length bc,.int .i64 c.topic,.int .i64 c.who,.int .i64 c.n] ∧
 OwnI w B (.slice a c.msg.groups.length cap) c.msg.groups∧OwnI w B (.slice b c.members.length bc) c.members
def RdCEnd (w0:World) (g:Nat) (c:PC) (l:List Int) (ok:Bool) (w:World) (e:Ending) (w':World):Prop:=∃ v,e=.returned v∧ComO w' w.heap.size v c∧RdS w0 w' g l ok∧FrG g w w'
theorem RdS.far {w0 w:World} {g b o:Nat} {v:Value} {l:List Int} {ok:Bool} (h:RdS w0 w g l ok) (hb:g < b):RdS w0 (w.setCell ⟨b,o,none⟩ v) g l ok:=by
 obtain ⟨a,cap,h1,h2,h3,h4⟩:=h
 exact ⟨a,cap,h1.far (by omega) v,h2,h3,h4.setCell (p:=⟨b,o,none⟩) (by simp only [];omega) v⟩
theorem FrG.set_ {g b o:Nat} {w w':World} {v:Value} (h:FrG g w w') (hg:g≤w.heap.size) (hb:w.heap.size≤b):FrG g w (w'.setCell ⟨b,o,none⟩ v):=by
 refine ⟨h.1.setCell (p:=⟨b,o,none⟩) (by simp only [];omega) v,fun k h1 h2=>?_⟩
 rw [heap_setCell_other _ _ _ _ (fun e=>by have e':k=b:=e;omega)]
 exact h.2 k h1 h2
theorem OwnI.far {w:World} {B b o:Nat} {v u:Value} {l:List Int} (h:OwnI w B v l) (hb:b < B):OwnI (w.setCell ⟨b,o,none⟩ u) B v l :=
 ownsRow_setCell_other h (fun e=>by have:=(h.lt _ e).1;simp at this;omega) u
theorem OwnI.reads {w:World} {B:Nat} {v:Value} {l:List Int} (h:OwnI w B v l):IntsR w v l:=sliceR_of_owns (cells:=intCell) (fun _=>rfl) (by rw [← rowVals_flat];exact h)
theorem OwnI.le {w:World} {B B':Nat} {v:Value} {l:List Int} (h:OwnI w B v l) (hB:B'≤B):OwnI w B' v l:=ownsRow_le h hB
theorem OwnI.keep {w w':World} {B:Nat} {v:Value} {l:List Int} (h:OwnI w B v l) (hb:Below w.heap.size w w'):OwnI w' B v l:=ownsRow_keep h hb
theorem ComO.reads {w:World} {B:Nat} {v:Value} {c:PC} (h:ComO w B v c):ComR w v c:=by
 obtain ⟨a,cap,b,bc,h1,h2,h3⟩:=h
 exact ⟨a,cap,b,bc,h1,h2.reads,h3.reads⟩
theorem ComO.keep {w w':World} {B:Nat} {v:Value} {c:PC} (h:ComO w B v c) (hb:Below w.heap.size w w'):ComO w' B v c:=by
 obtain ⟨a,cap,b,bc,h1,h2,h3⟩:=h
 exact ⟨a,cap,b,bc,h1,h2.keep hb,h3.keep hb⟩
theorem ComO.le {w:World} {B B':Nat} {v:Value} {c:PC} (h:ComO w B v c) (hB:B'≤B):ComO w B' v c:=by
 obtain ⟨a,cap,b,bc,h1,h2,h3⟩:=h
 exact ⟨a,cap,b,bc,h1,h2.le hB,h3.le hB⟩
theorem ComO.far {w:World} {B b o:Nat} {v u:Value} {c:PC} (h:ComO w B v c) (hb:b < B):ComO (w.setCell ⟨b,o,none⟩ u) B v c:=by
 obtain ⟨a,cap,b,bc,h1,h2,h3⟩:=h
 exact ⟨a,cap,b,bc,h1,h2.far hb,h3.far hb⟩
theorem Blk.frG {g b:Nat} {w w':World} {t:TypeId} {cs:List Value} (h:Blk w b t cs) (hf:FrG g w w') (hb:g < b):Blk w' b t cs:=(hf.2 b hb h.lt).trans h
def posW (l:List Wt) (id:Int):Nat:=(l.takeWhile (fun x=>decide (x.msg.id < id))).length
def hasW (l:List Wt) (id:Int):Bool:=l.any (fun x=>x.msg.id == id)
def smallI (i:Int):Prop:=0≤i∧i≤1099511627776
def idsUp (l:List Wt):Prop:=l.Pairwise (fun x y=>x.msg.id < y.msg.id)∧∀ x∈l,smallI x.msg.id
theorem posW_eq:∀ {l:List Wt} {id:Int} {p:Nat},p≤l.length→(∀ k (h:k < l.length),k < p→l[k].msg.id < id)→(∀ k (h:k < l.length),p≤k→id≤l[k].msg.id)→posW l id=p
 |[],id,p,hp,_,_=>by simp at hp;subst hp;rfl
 |x :: l,id,0,_,_,h2=>by
  have:=h2 0 (by simp) (Nat.le_refl _)
  simp only [List.getElem_cons_zero] at this
  simp [posW,List.takeWhile,show ¬ x.msg.id < id by omega]
 |x :: l,id,p+1,hp,h1,h2=>by
  have h0:=h1 0 (by simp) (by omega)
  simp only [List.getElem_cons_zero] at h0
  have ih:=posW_eq (l:=l) (id:=id) (p:=p) (by simpa using hp) (fun k h hk=>h1 (k+1) (by simpa using h) (by omega)) (fun k h hk=>h2 (k+1) (by simpa using h) (by omega))
  rw [posW] at ih ⊢
  simp [List.takeWhile,h0,ih]
theorem hasW_at {l:List Wt} {id:Int} {p:Nat} (hu:idsUp l) (h1:∀ k (h:k < l.length),k < p→l[k].msg.id < id) (h2:∀ k (h:k < l.length),p≤k→id≤l[k].msg.id):hasW l id=(if h:p < l.length then l[p].msg.id == id else false):=by
 rw [Bool.eq_iff_iff]
 simp only [hasW,List.any_eq_true,beq_iff_eq]
 constructor
 ·rintro ⟨x,hx,rfl⟩
  obtain ⟨k,hk,rfl⟩:=List.getElem_of_mem hx
  have a1:p≤k:=by
   rcases Nat.lt_or_ge k p with h|h
   ·have:=h1 k hk h;omega
   ·exact h
  have hp:p < l.length:=by omega
  rw [dif_pos hp]
  rcases Nat.lt_or_ge p k with h|h
  ·have a2:=(List.pairwise_iff_getElem.1 hu.1) p k hp hk h
   have a3:=h2 p hp (Nat.le_refl _)
   omega
  ·obtain rfl:k=p:=by omega
   simp
 ·intro h
  by_cases hp:p < l.length
  ·rw [dif_pos hp] at h
   exact ⟨l[p],List.getElem_mem hp,by simpa using h⟩
  ·rw [dif_neg hp] at h
   cases h
theorem up_lt {l:List Wt} (hu:idsUp l) {j k:Nat} (hk:k < l.length) (hj:j < k):(l[j]'(by omega)).msg.id < l[k].msg.id:=(List.pairwise_iff_getElem.1 hu.1) j k (by omega) hk hj
theorem find1_any (u:Value) (x:Wt) (id:Int) (hx:smallI x.msg.id) (hi:smallI id) (w:World):Calls Tryz.prog 109 #[wtVal u x,.int .i64 id] w fun e w'=>e=.returned (.int .i64 (x.msg.id - id))∧Below w.heap.size w w':=by
 obtain ⟨⟨i1,g1,t1,k1,b1⟩,tm,fn⟩:=x
 simp only [wtVal,smallI] at hx hi ⊢
 go_enter Tryz.func109,Tryz.ntmps109
 go_wp2_with fail
 go_ret
 exact ⟨rfl,(Below.refl _ _).alloc (Nat.le_refl _) _⟩
set_option maxHeartbeats 8000000 in
set_option maxRecDepth 100000 in
theorem bsW_any {v:Value} {pl:List (Value × Wt)} {w:World} (id:Int) (h:WtsR w v pl) (hu:idsUp (pl.map (·.2))) (hi:smallI id) (hl:pl.length≤1000000) :
  Calls Tryz.prog 108 #[v,.int .i64 id,.func (.func 109) #[] #[]] w
   fun e w'=>e=.returned (.tuple #[.int .i64 (posW (pl.map (·.2)) id:Nat),.bool (hasW (pl.map (·.2)) id)])∧Below w.heap.size w w':=by
 obtain ⟨a,cap,rfl,hcap,hmx,hd⟩:=h.shape
 obtain ⟨l,hl2⟩:∃ l,l=pl.map (·.2):=⟨_,rfl⟩
 have HLN:=LH (show l.length=pl.length by rw [hl2];simp)
 have HGT:=LH (show ∀ k (h1:k < pl.length) (h2:k < l.length),l[k]=pl[k].2 by subst hl2;intro k h1 h2;simp)
 rw [← hl2] at hu ⊢
 have HU:=LH hu
 have HI:=LH hi
 have HS:=LH h.2
 obtain ⟨n,hn⟩:∃ n,n=pl.length:=⟨_,rfl⟩
 have HD:=LH hd
 have HN:=LH hn
 rw [← hn] at hl hcap ⊢
 unfold maxLen at hmx
 have hn':(n:Int)≤1000000:=by omega
 have HE:=LH (show ∀ (p:Nat) (b:Bool),p≤n→(∀ k (h:k < l.length),k < p→l[k].msg.id < id)→(∀ k (h:k < l.length),p≤k→id≤l[k].msg.id)→b=(if h:p < l.length then l[p].msg.id == id else false)→p=posW l id∧b=hasW l id from fun p b h0 h1 h2 h3=>⟨(posW_eq (by rw [HLN.out,← hn];exact h0) h1 h2).symm,by rw [h3,hasW_at hu h1 h2]⟩)
 obtain ⟨R,hR⟩:∃ R:Nat × Bool,R=(posW l id,hasW l id):=⟨_,rfl⟩
 have HE2:=LH (show ∀ (p:Nat) (b:Bool),p≤n→(∀ k (h:k < l.length),k < p→l[k].msg.id < id)→(∀ k (h:k < l.length),p≤k→id≤l[k].msg.id)→b=(if h:p < l.length then l[p].msg.id == id else false)→R=(p,b) from fun p b h0 h1 h2 h3=>by rw [hR,← (HE.out p b h0 h1 h2 h3).1,← (HE.out p b h0 h1 h2 h3).2])
 rw [show posW l id=R.1 by rw [hR],show hasW l id=R.2 by rw [hR]]
 clear HE hR hd hn hl2 h hu hi
 go_enter Tryz.func108,Tryz.ntmps108
 go_wp2_with fail
 go_loopg [9,10] n (fun g i j wr=>∃ p q:Nat,p≤q∧q≤n∧g=q - p∧i=.int .i64 (p:Int)∧j=.int .i64 (q:Int)∧Hid (∀ k (h:k < l.length),k < p→l[k].msg.id < id)∧Hid (∀ k (h:k < l.length),q≤k→id≤l[k].msg.id)∧Hid (Below w.heap.size w wr))
 case atStart=>exact ⟨0,n,Nat.zero_le _,Nat.le_refl _,rfl,rfl,rfl,(fun k _ hk=>absurd hk (Nat.not_lt_zero _)),(fun k h1 h2=>by rw [HLN.out,← HN.out] at h1;omega),Below.refl _ _⟩
 case round =>
  obtain ⟨p,q,hpq,hqn,rfl,rfl,rfl,hlo,hhi,hb⟩:=hrel
  by_cases hlt:p < q
  ·have hk1:(p:Int) < (q:Int):=by omega
   obtain ⟨m,hm⟩:∃ m:Nat,((p:Int)+(q:Int)) / 2=(m:Int):=⟨(p+q) / 2,by omega⟩
   have m1:p≤m∧m < q∧m < n:=by omega
   obtain ⟨m1,m2,m3⟩:=m1
   have m4:(0:Int)≤(m:Int):=by omega
   have m5:(m:Int) < (n:Int):=by omega
   obtain ⟨bb,off,ha,hcc⟩:=HD.out (by rw [← HN.out];omega)
   subst ha
   have hkl:m < pl.length:=by rw [← HN.out];exact m3
   have hkl2:m < l.length:=by rw [HLN.out];exact hkl
   have h1:=(hcc m hkl).keep hb.out
   have hs1:=HS.out pl[m] (List.getElem_mem hkl)
   have HX:=LH (HGT.out m hkl hkl2)
   have HSM:=LH (HU.out.2 l[m] (List.getElem_mem hkl2))
   have HLT:=LH (show ∀ k (h:k < l.length),k≤m→l[k].msg.id≤l[m].msg.id from fun k h hk=>by
    rcases Nat.lt_or_ge k m with h0|h0
    ·have:=up_lt HU.out hkl2 h0;omega
    ·obtain rfl:k=m:=by omega
     exact Int.le_refl _)
   have HGE:=LH (show ∀ k (h:k < l.length),m≤k→l[m].msg.id≤l[k].msg.id from fun k h hk=>by
    rcases Nat.lt_or_ge m k with h0|h0
    ·have:=up_lt HU.out h h0;omega
    ·obtain rfl:k=m:=by omega
     exact Int.le_refl _)
   rw [HX.out] at HSM HLT HGE
   obtain ⟨x,hx⟩:∃ x,x=pl[m]:=⟨_,rfl⟩
   rw [← hx] at h1 hs1 HX HSM HLT HGE
   clear hx hcc
   obtain ⟨u1,x⟩:=x
   simp only at hs1 HX HSM HLT HGE
   obtain ⟨a1,n1',q1,rfl⟩:=hs1
   obtain ⟨c,hc⟩:∃ c,c=x.msg.id - id:=⟨_,rfl⟩
   have L:=fun w=>find1_any (.slice a1 n1' q1) x id HSM.out HI.out w
   rw [← hc] at L
   have HLL:=LH L
   have HCC:=LH hc
   clear L hc
   obtain ⟨⟨xi,xg,xt,xk,xb⟩,xm,xf⟩:=x
   simp only [wtVal] at HLL
   simp only at HCC HLT HGE
   simp only [WtAt] at h1
   obtain ⟨⟨d0,d1,d2,d3⟩,d4,d5,d6⟩:=h1
   by_cases hlo2:xi < id
   ·have c4:c < 0:=by rw [HCC.out];omega
    have HLO:=LH (show ∀ k (h:k < l.length),k < m+1→l[k].msg.id < id from fun k h hk=>by have:=HLT.out k h (by omega);omega)
    clear hlo2
    go_wp2_with fail
    refine (HLL.out _).mono ?_
    rintro e w1 ⟨rfl,hb1⟩
    have HB1:=LH (hb.out.trans (hb1.mono hb.out.size))
    clear hb1 hb d0 d1 d2 d3 d4 d5 d6
    go_wp2_with fail
    go_roundg (q - (m+1))
    case measure=>omega
    case rel=>exact ⟨m+1,q,by omega,hqn,rfl,by go_num,rfl,HLO,hhi,HB1⟩
   ·have c4:¬ c < 0:=by rw [HCC.out];omega
    have HHI:=LH (show ∀ k (h:k < l.length),m≤k→id≤l[k].msg.id from fun k h hk=>by have:=HGE.out k h hk;omega)
    clear hlo2
    go_wp2_with fail
    refine (HLL.out _).mono ?_
    rintro e w1 ⟨rfl,hb1⟩
    have HB1:=LH (hb.out.trans (hb1.mono hb.out.size))
    clear hb1 hb d0 d1 d2 d3 d4 d5 d6
    go_wp2_with fail
    go_roundg (m - p)
    case measure=>omega
    case rel=>exact ⟨p,m,by omega,by omega,rfl,rfl,by go_num,hlo,HHI,HB1⟩
  ·obtain rfl:p=q:=by omega
   have hlt':¬ (p:Int) < (p:Int):=by omega
   by_cases hpn:p < n
   ·have m4:(0:Int)≤(p:Int):=by omega
    have m5:(p:Int) < (n:Int):=by omega
    obtain ⟨bb,off,ha,hcc⟩:=HD.out (by rw [← HN.out];omega)
    subst ha
    have hkl:p < pl.length:=by rw [← HN.out];exact hpn
    have hkl2:p < l.length:=by rw [HLN.out];exact hkl
    have h1:=(hcc p hkl).keep hb.out
    have hs1:=HS.out pl[p] (List.getElem_mem hkl)
    have HSM:=LH (HU.out.2 l[p] (List.getElem_mem hkl2))
    have HR:=HE2.out p _ hqn hlo.out hhi.out rfl
    rw [dif_pos hkl2,HGT.out p hkl hkl2] at HR
    rw [HGT.out p hkl hkl2] at HSM
    obtain ⟨x,hx⟩:∃ x,x=pl[p]:=⟨_,rfl⟩
    rw [← hx] at h1 hs1 HSM HR
    clear hx hcc
    obtain ⟨u1,x⟩:=x
    simp only at hs1 HSM HR
    obtain ⟨a1,n1',q1,rfl⟩:=hs1
    obtain ⟨c,hc⟩:∃ c,c=x.msg.id - id:=⟨_,rfl⟩
    have L:=fun w=>find1_any (.slice a1 n1' q1) x id HSM.out HI.out w
    rw [← hc] at L
    have HLL:=LH L
    have HRR:=LH (show R=(p,c == 0) by rw [HR,hc];congr 1;rw [Bool.eq_iff_iff];simp only [beq_iff_eq];omega)
    clear L hc HR
    obtain ⟨⟨xi,xg,xt,xk,xb⟩,xm,xf⟩:=x
    simp only [wtVal] at HLL
    simp only [WtAt] at h1
    obtain ⟨⟨d0,d1,d2,d3⟩,d4,d5,d6⟩:=h1
    go_wp2_with fail
    refine (HLL.out _).mono ?_
    rintro e w1 ⟨rfl,hb1⟩
    have HB1:=LH (hb.out.trans (hb1.mono hb.out.size))
    clear hb1 hb d0 d1 d2 d3 d4 d5 d6
    go_wp2_with fail
    go_ret2
    exact ⟨by rw [HRR.out];rfl,HB1.out⟩
   ·obtain rfl:p=n:=by omega
    have HR:=HE2.out p _ hqn hlo.out hhi.out rfl
    rw [dif_neg (by rw [HLN.out,← HN.out];omega)] at HR
    have HRR:=LH HR
    clear HR
    go_wp2_with fail
    go_ret2
    exact ⟨by rw [HRR.out];rfl,hb.out⟩
theorem stCells_len (x:Int × Int):(stCells x).length=2:=rfl
set_option maxHeartbeats 4000000 in
set_option maxRecDepth 100000 in
theorem find_any {g:Nat} {v:Value} {pl:List (Value × Wt)} {w:World} (id:Int) (hg:w.cell? ⟨g,1,none⟩=some v) (h:WtsR w v pl) (hu:idsUp (pl.map (·.2))) (hi:smallI id) (hl:pl.length≤1000000) :
  Calls Tryz.prog 84 #[.pointer (some ⟨g,0,none⟩),.int .i64 id] w
   fun e w'=>e=.returned (.tuple #[.int .i64 (posW (pl.map (·.2)) id:Nat),.bool (hasW (pl.map (·.2)) id)])∧Below w.heap.size w w':=by
 have HC:=LH (fun (W:World) (hb:Below w.heap.size w W)=>bsW_any id (show WtsR W v pl from ⟨h.1.below wtCs_len hb,h.2⟩) hu hi hl)
 obtain ⟨P,hP⟩:∃ P,P=posW (pl.map (·.2)) id:=⟨_,rfl⟩
 obtain ⟨F,hF⟩:∃ F,F=hasW (pl.map (·.2)) id:=⟨_,rfl⟩
 rw [← hP,← hF] at HC ⊢
 obtain ⟨a,cap,rfl,hcap,hmx,-⟩:=h.shape
 obtain ⟨n,hn⟩:∃ n,n=pl.length:=⟨_,rfl⟩
 rw [← hn] at HC hg
 clear hP hF h hu hi hl hn hcap hmx
 go_enter Tryz.func84,Tryz.ntmps84
 go_wp2_with fail
 refine (HC.out _ (by first|exact Below.refl _ _|exact drewBelow _)).mono ?_
 rintro e w1 ⟨rfl,hb1⟩
 go_wp2_with fail
 go_ret2
 exact ⟨rfl,by first|exact hb1|exact (drewBelow _).trans hb1⟩
def doneB (l:List (Int × Int)) (id:Int):Bool:=l.any (fun x=>x.2 == id)
theorem done1_any (x:Int × Int) (id:Int) (b:Nat) (w:World) (hb:w.cell? ⟨b,0,none⟩=some (.int .i64 id)):Calls Tryz.prog 111 #[.agg #[.int .i64 x.1,.int .i64 x.2],.pointer (some ⟨b,0,none⟩)] w fun e w'=>e=.returned (.bool (x.2 == id))∧Below w.heap.size w w':=by
 have hlt:=World.block_lt_of_cell? w _ hb
 have hlt':b < w.heap.size:=hlt
 obtain ⟨x1,x2⟩:=x
 simp only
 go_enter Tryz.func111,Tryz.ntmps111
 go_wp2_with fail
 go_ret
 exact ⟨rfl,(Below.refl _ _).alloc (Nat.le_refl _) _⟩
def IdxOf (bs:List Bool) (i:Int):Prop:=(i=-1∧∀ x∈bs,x=false)∨(0≤i∧true∈bs)
theorem IdxOf.any {bs:List Bool} {i:Int} (h:IdxOf bs i):decide (0≤i)=bs.any id:=by
 rw [Bool.eq_iff_iff]
 simp only [decide_eq_true_eq,List.any_eq_true,id]
 rcases h with ⟨rfl,h⟩|⟨h,hm⟩
 ·constructor
  ·intro h0;omega
  ·rintro ⟨x,hx,rfl⟩;have:=h _ hx;cases this
 ·exact ⟨fun _=>⟨true,hm,rfl⟩,fun _=>h⟩
set_option maxHeartbeats 4000000 in
set_option maxRecDepth 100000 in
theorem idxSt_any {v:Value} {l:List (Int × Int)} {w:World} (h:SliceR w v 2 stCells l) (tb:Nat) (id:Int) (hc:w.cell? ⟨tb,0,none⟩=some (.int .i64 id)) :
  Calls Tryz.prog 128 #[v,.func (.func 111) #[] #[.pointer (some ⟨tb,0,none⟩)]] w fun e w'=>(∃ i:Int,e=.returned (.int .i64 i)∧IdxOf (l.map (fun x=>x.2 == id)) i)∧Below w.heap.size w w':=by
 obtain ⟨a,cap,rfl,hcap,hmax,-,hd⟩:=h
 unfold maxLen at hmax
 have HT:=LH hc
 have HD:=LH hd
 obtain ⟨n,hn⟩:∃ n,n=l.length:=⟨_,rfl⟩
 rw [← hn] at hcap ⊢
 have HN:=LH hn
 clear hn hd hc
 have hn':(n:Int)≤9223372036854775807:=by omega
 go_enter Tryz.func128,Tryz.ntmps128
 go_wp2_with fail
 go_loopg [5,8] n (fun g _ i wr=>∃ k:Nat,k≤n∧g=n - k∧i=.int .i64 (k:Int)∧Hid (∀ j (h:j < l.length),j < k→(l[j].2 == id)=false)∧Hid (Below w.heap.size w wr))
 case atStart=>exact ⟨0,Nat.zero_le _,rfl,rfl,(fun j _ hj=>absurd hj (Nat.not_lt_zero _)),Below.refl _ _⟩
 case round =>
  obtain ⟨k,hk,rfl,rfl,hall,hb⟩:=hrel
  by_cases hlt:k < n
  ·have hk0:(0:Int)≤(k:Int):=by omega
   have hk1:(k:Int) < (n:Int):=by omega
   have hkl:k < l.length:=by rw [← HN.out];exact hlt
   obtain ⟨bb,off,ha,h1⟩:=HD.out (by omega)
   subst ha
   have e0:=h1 k hkl 0 (by omega)
   have e1:=h1 k hkl 1 (by omega)
   clear h1
   obtain ⟨x,hx⟩:∃ x,x=l[k]:=⟨_,rfl⟩
   rw [← hx] at e0 e1
   have HX:=LH hx
   have c0:wr.cell? ⟨bb,off+k * 2,none⟩=some (.int .i64 x.1):=keep hb.out e0
   have c1:wr.cell? ⟨bb,off+k * 2+1,none⟩=some (.int .i64 x.2):=keep hb.out e1
   clear hx e0 e1
   obtain ⟨q,hq⟩:∃ q,q=(x.2 == id):=⟨_,rfl⟩
   have L:=done1_any x id tb wr (keep hb.out HT.out)
   rw [← hq] at L
   have HL:=LH L
   have HQ:=LH hq
   clear L hq
   cases q
   all_goals
    go_wp2_with fail
    refine HL.out.mono ?_
    rintro e w1 ⟨rfl,hb1⟩
    have HB2:=LH (hb.out.trans (hb1.mono hb.out.size))
    clear hb hb1 c0 c1
    go_wp2_with fail
   ·go_roundg (n - (k+1))
    case measure=>omega
    case rel =>
     refine ⟨k+1,by omega,rfl,by go_num,fun j hj hjk=>?_,HB2⟩
     by_cases hjk:j < k
     ·exact hall.out j hj hjk
     ·obtain rfl:j=k:=by omega
      rw [← HX.out];exact HQ.out.symm
   ·go_ret
    exact ⟨⟨k,rfl,Or.inr ⟨hk0,List.mem_map.2 ⟨x,by rw [HX.out];exact List.getElem_mem hkl,HQ.out.symm⟩⟩⟩,HB2.out⟩
  ·obtain rfl:k=n:=by omega
   have hlt':¬ (k:Int) < (k:Int):=by omega
   go_wp2_with fail
   go_ret
   refine ⟨⟨-1,rfl,Or.inl ⟨rfl,fun x hx=>?_⟩⟩,hb.out⟩
   obtain ⟨y,hy,rfl⟩:=List.mem_map.1 hx
   obtain ⟨j,hj,rfl⟩:=List.getElem_of_mem hy
   exact hall.out j hj (by rw [HN.out];exact hj)
theorem consSt_any {v:Value} {l:List (Int × Int)} {w:World} (h:SliceR w v 2 stCells l) (tb:Nat) (id:Int) (hc:w.cell? ⟨tb,0,none⟩=some (.int .i64 id)) :
  Calls Tryz.prog 110 #[v,.func (.func 111) #[] #[.pointer (some ⟨tb,0,none⟩)]] w fun e w'=>e=.returned (.bool (doneB l id))∧Below w.heap.size w w':=by
 have HC:=LH (idxSt_any h tb id hc)
 obtain ⟨a,cap,rfl,-⟩:=h
 obtain ⟨n,hn⟩:∃ n,n=l.length:=⟨_,rfl⟩
 rw [← hn] at HC ⊢
 clear hn hc
 go_enter Tryz.func110,Tryz.ntmps110
 go_wp2_with fail
 refine HC.out.mono ?_
 rintro e w1 ⟨⟨i,rfl,hix⟩,hb1⟩
 have HX:=LH hix
 clear hix
 go_wp2_with fail
 go_ret
 refine ⟨?_,hb1⟩
 have:=HX.out.any
 rw [List.any_map] at this
 rw [doneB,show (fun x:Int × Int=>x.2 == id)=(_root_.id ∘ fun x=>x.2 == id) from rfl,← this]
 rfl
theorem done_any {g:Nat} {v:Value} {l:List (Int × Int)} {w:World} (id:Int) (hg:w.cell? ⟨g,2,none⟩=some v) (h:SliceR w v 2 stCells l) :
  Calls Tryz.prog 85 #[.pointer (some ⟨g,0,none⟩),.int .i64 id] w fun e w'=>e=.returned (.bool (doneB l id))∧Below w.heap.size w w':=by
 have hb0:∀ o,Below w.heap.size w (w.alloc o):=fun o=>(Below.refl _ _).alloc (Nat.le_refl _) o
 have HC:=LH (fun (W:World) (o:Obj) (hb:Below (w.alloc o).heap.size (w.alloc o) W) (hc:W.cell? ⟨w.heap.size,0,none⟩=some (.int .i64 id))=>consSt_any (h.below stCells_len ((hb0 o).trans (hb.mono (by simp)))) w.heap.size id hc)
 obtain ⟨a,cap,rfl,-⟩:=h
 obtain ⟨n,hn⟩:∃ n,n=l.length:=⟨_,rfl⟩
 obtain ⟨q,hq⟩:∃ q,q=doneB l id:=⟨_,rfl⟩
 rw [← hn,← hq] at HC
 rw [← hn] at hg
 rw [← hq]
 have hlt:=World.block_lt_of_cell? w _ hg
 have hlt':g < w.heap.size:=hlt
 clear hn hq
 go_enter Tryz.func85,Tryz.ntmps85
 go_wp2_with fail
 refine (HC.out _ _ (Below.refl _ _) ((Blk.new (t:=3) (cs:=[.int .i64 id]) rfl).cell 0)).mono ?_
 rintro e w1 ⟨rfl,hb1⟩
 go_wp2_with fail
 go_ret
 exact ⟨rfl,(hb0 _).trans (hb1.mono (by simp))⟩
set_option maxHeartbeats 4000000 in
set_option maxRecDepth 100000 in
theorem index_any {v:Value} {l:List Int} {w:World} (y:Int) (h:IntsR w v l) :
  Calls Tryz.prog 112 #[v,.int .i64 y] w fun e w'=>(∃ i:Int,e=.returned (.int .i64 i)∧IdxOf (l.map (fun x=>x == y)) i)∧w'=w:=by
 obtain ⟨a,cap,rfl,hcap,hmax,-,hd⟩:=h
 unfold maxLen at hmax
 have HD:=LH hd
 obtain ⟨n,hn⟩:∃ n,n=l.length:=⟨_,rfl⟩
 rw [← hn] at hcap ⊢
 have HN:=LH hn
 clear hn hd
 have hn':(n:Int)≤9223372036854775807:=by omega
 go_enter Tryz.func112,Tryz.ntmps112
 go_wp2_with fail
 go_loopg [5,8] n (fun g _ i wr=>∃ k:Nat,k≤n∧g=n - k∧i=.int .i64 (k:Int)∧Hid (∀ j (h:j < l.length),j < k→(l[j] == y)=false)∧Hid (wr=w))
 case atStart=>exact ⟨0,Nat.zero_le _,rfl,rfl,(fun j _ hj=>absurd hj (Nat.not_lt_zero _)),rfl⟩
 case round =>
  obtain ⟨k,hk,rfl,rfl,hall,hb⟩:=hrel
  by_cases hlt:k < n
  ·have hk0:(0:Int)≤(k:Int):=by omega
   have hk1:(k:Int) < (n:Int):=by omega
   have hkl:k < l.length:=by rw [← HN.out];exact hlt
   obtain ⟨bb,off,ha,h1⟩:=HD.out (by omega)
   subst ha
   have e0:=h1 k hkl 0 (by omega)
   clear h1
   obtain ⟨x,hx⟩:∃ x,x=l[k]:=⟨_,rfl⟩
   rw [← hx] at e0
   have HX:=LH hx
   have c0:wr.cell? ⟨bb,off+k,none⟩=some (.int .i64 x):=by rw [hb.out];simpa [intCell] using e0
   clear hx e0
   by_cases hxy:x=y
   ·have HQ:=LH hxy
    have hq:(y == x)=true:=by simp [hxy]
    have hyx:y=x:=hxy.symm
    clear hxy
    subst hyx
    go_wp2_with fail
    go_ret
    exact ⟨⟨k,rfl,Or.inr ⟨hk0,List.mem_map.2 ⟨y,by rw [HX.out];exact List.getElem_mem hkl,by simp⟩⟩⟩,hb.out⟩
   ·have HQ:=LH hxy
    have hyx:¬ y=x:=fun e=>hxy e.symm
    clear hxy
    go_wp2_with fail
    go_roundg (n - (k+1))
    case measure=>omega
    case rel =>
     refine ⟨k+1,by omega,rfl,by go_num,fun j hj hjk=>?_,hb⟩
     by_cases hjk:j < k
     ·exact hall.out j hj hjk
     ·obtain rfl:j=k:=by omega
      rw [← HX.out];simpa using HQ.out
  ·obtain rfl:k=n:=by omega
   have hlt':¬ (k:Int) < (k:Int):=by omega
   go_wp2_with fail
   go_ret
   refine ⟨⟨-1,rfl,Or.inl ⟨rfl,fun x hx=>?_⟩⟩,hb.out⟩
   obtain ⟨y,hy,rfl⟩:=List.mem_map.1 hx
   obtain ⟨j,hj,rfl⟩:=List.getElem_of_mem hy
   exact hall.out j hj (by rw [HN.out];exact hj)
def conI (l:List Int) (y:Int):Bool:=l.any (fun x=>x == y)
theorem conI_any {v:Value} {l:List Int} {w:World} (y:Int) (h:IntsR w v l) :
  Calls Tryz.prog 86 #[v,.int .i64 y] w fun e w'=>e=.returned (.bool (conI l y))∧w'=w:=by
 have HC:=LH (index_any y h)
 obtain ⟨a,cap,rfl,-⟩:=h
 obtain ⟨n,hn⟩:∃ n,n=l.length:=⟨_,rfl⟩
 rw [← hn] at HC ⊢
 clear hn
 go_enter Tryz.func86,Tryz.ntmps86
 go_wp2_with fail
 refine HC.out.mono ?_
 rintro e w1 ⟨⟨i,rfl,hix⟩,rfl⟩
 have HX:=LH hix
 clear hix
 go_wp2_with fail
 go_ret
 refine ⟨?_,rfl⟩
 have:=HX.out.any
 rw [List.any_map] at this
 rw [conI,show (fun x:Int=>x == y)=(_root_.id ∘ fun x=>x == y) from rfl,← this]
 rfl
end Go.Proofs.YtkkohllhebdlcaaGreatDoor
