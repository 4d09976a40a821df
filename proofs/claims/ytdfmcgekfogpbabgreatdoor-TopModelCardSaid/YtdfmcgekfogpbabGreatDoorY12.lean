/-
  Proved here: slices.Delete of one that waits, from an own row. Condition: it is the command's reader: number, text, ints. No condition but that the reader Plain: a command off bytes; how its reader's box is kept. No walk in s Lists of commands: own ones, and how they read. No program in sight bu slices.Clone at int, api.Stamp, api.Wait. No condition but that the sl (*skeen.clock).find: where the message of an 
-/
import Derived.Test.YtdfmcgekfogpbabGreatDoorY05
import Derived.Test.YtdfmcgekfogpbabGreatDoorY09
import Derived.Deep.RegionLaw
import Derived.Shelf.RegionOpenPlain
set_option maxRecDepth 100000
namespace Go.Proofs.YtdfmcgekfogpbabGreatDoor
open Go.RowKit
theorem info_wait:(Tryz.prog.info? 196).map (fun i=>(i.zero,i.size,i.bytes))=some (some (.agg #[.int .i64 0,.slice none 0 0,.int .i64 0,.string ByteArray.empty,.string ByteArray.empty,.int .i64 0,.bool false]),7,88):=by kernel_rfl
theorem zero_wait:∀ w,(zeroValue 196).run Tryz.prog w=.ok (.agg #[.int .i64 0,.slice none 0 0,.int .i64 0,.string ByteArray.empty,.string ByteArray.empty,.int .i64 0,.bool false]) w:=fun w=>by
 obtain ⟨i0,hi,hz0,hz1,hz2⟩:=info_parts info_wait
 simp [zeroValue,typeInfo,hi,hz0]
def DelEnd (B g n cap:Nat) (xs:List Value) (w:World) (e:Ending) (w':World):Prop :=
 e=.returned (.slice (some ⟨g,0,none⟩) (n - 1) cap)∧w'.ownsRow B 196 7 (.slice (some ⟨g,0,none⟩) (n - 1) cap) (n - 1) xs∧w.grownBy w' (some g)
set_option maxHeartbeats 8000000 in
set_option maxRecDepth 100000 in
theorem del_any {B g n cap k:Nat} {xs ys:List Value} {w:World} (h:w.ownsRow B 196 7 (.slice (some ⟨g,0,none⟩) n cap) n xs) (h1:∀ v∈xs,v.oneCell'=true) (hk:k < n) (hy:ys=xs.take (k * 7)++xs.drop ((k+1) * 7)) :
  Calls Tryz.prog 109 #[.slice (some ⟨g,0,none⟩) n cap,.int .i64 (k:Int),.int .i64 ((k:Int)+1)] w (DelEnd B g n cap ys w):=by
 obtain ⟨i0,hi,hz0,hz1,hz2⟩:=info_parts info_wait
 obtain ⟨hxl,h|⟨g',cap',cur,hv,hB,hg,hnc,hcm,hcs,hct⟩⟩:=h
 ·cases h.1
 ·obtain ⟨rfl,rfl⟩:g=g'∧cap=cap':=by simpa using hv
  clear hv
  obtain ⟨L,rfl⟩:∃ L:List Value,cur=L.toArray:=⟨cur.toList,by simp⟩
  simp only [List.size_toArray] at hcs hct
  unfold maxLen at hcm
  obtain ⟨news,hnews⟩:∃ news,news=xs.drop ((k+1) * 7):=⟨_,rfl⟩
  have hlen:news.length=(n - (k+1)) * 7:=by rw [hnews,List.length_drop,hxl];omega
  have hL:∀ j,j < n * 7→L[j]?=xs[j]?:=fun j hj=>by rw [← hct,List.getElem?_take,if_pos hj]
  have hcell:∀ j,w.cell? ⟨g,j,none⟩=L[j]?:=fun j=>by simp [World.cell?,hg]
  have hlt:g < w.heap.size:=(Array.getElem?_eq_some_iff.1 hg).1
  -- the cells that are moved
  obtain ⟨A,hA,hsrc⟩:∃ A:Addr,(if cap=k+1 then some (⟨g,0,none⟩:Addr) else some ⟨g,(k+1) * 7,none⟩)=some A∧Hid (∀ t u,news[t]?=some u→w.drew.cell? (A.add t)=some u):=by
   by_cases hc:cap=k+1
   ·refine ⟨⟨g,0,none⟩,by simp [hc],fun t u hu=>?_⟩
    have h0:news.length=0:=by rw [hlen];omega
    rw [List.length_eq_zero_iff.1 h0] at hu
    simp at hu
   ·refine ⟨⟨g,(k+1) * 7,none⟩,by simp [hc],fun t u hu=>?_⟩
    have ht:t < (n - (k+1)) * 7:=by
     have:=(List.getElem?_eq_some_iff.1 hu).1
     rwa [hlen] at this
    rw [Addr.add_lit]
    show w.cell? _=_
    rw [hcell,hL _ (by omega),← hu,hnews,List.getElem?_drop]
  have s1:Hid (news.length=(n - (k+1)) * 7):=hlen
  have s2:Hid (∀ u∈news,u.oneCell'=true):=fun u hu=>h1 u (by rw [hnews] at hu;exact List.mem_of_mem_drop hu)
  have s3:Hid (∀ t,t < news.length→(w.drew.cell? ⟨g,0+k * 7+t,none⟩).isSome=true∧w.drew.frozen? ⟨g,0+k * 7+t,none⟩=false):=by
   intro t ht
   rw [hlen] at ht
   refine ⟨?_,by show w.frozen? _=false;simp [World.frozen?,hg]⟩
   show (w.cell? _).isSome=true
   rw [hcell,List.getElem?_eq_getElem (by omega)]
   rfl
  obtain ⟨L1,hL1⟩:∃ L1,L1=over L (k * 7) news:=⟨_,rfl⟩
  have hl1:L1.length=L.length:=by rw [hL1];exact over_len (by rw [hlen,hcs];omega)
  have e1:w.drew.setCells g (0+k * 7) news=w.drew.setRow g L1.toArray:=by
   rw [Nat.zero_add,hL1]
   exact setCells_row g 196 news (k * 7) L w.drew hg (by rw [hlen,hcs];omega)
  obtain ⟨W1,hW1⟩:∃ W1,W1=w.drew.setRow g L1.toArray:=⟨_,rfl⟩
  have hg1:W1.heap[g]?=some (.cells L1.toArray 196 (0,0)):=by rw [hW1];exact setRow_heap w.drew g _ _ _ _ hg
  obtain ⟨zs,hzl,hcl⟩:=run_clear_rowS (P:=Tryz.prog) W1 26 196 0 _ 7 g ((n - 1) * 7) 1 (cap - (n - 1)) L1 196 Tryz.underlying26 zero_wait rfl (by decide) (by omega) hg1 (by rw [hl1,hcs];omega)
  have hcl2:∀ ty c,(Builtin.clear_ #[26] ty #[.slice (some ⟨g,(n - 1) * 7,none⟩) 1 c]).run Tryz.prog W1=.ok (.tuple #[]) (W1.setRow g (over L1 ((n - 1) * 7) zs).toArray):=fun ty c=>hcl
  have hfin:Hid (∀ W2,W2=W1.setRow g (over L1 ((n - 1) * 7) zs).toArray→W2.ownsRow B 196 7 (.slice (some ⟨g,0,none⟩) (n - 1) cap) (n - 1) ys∧w.grownBy W2 (some g)):=by
   rintro W2 rfl
   refine ⟨⟨?_,Or.inr ⟨g,cap,_,rfl,hB,setRow_heap W1 g _ _ _ _ hg1,by omega,by unfold maxLen;omega,?_,?_⟩⟩,?_⟩
   ·rw [hy,List.length_append,List.length_take,List.length_drop,hxl];omega
   ·rw [List.size_toArray,over_len (by rw [hzl,hl1,hcs];omega),hl1,hcs]
   ·rw [List.toList_toArray,over_take (Nat.le_refl _) (by rw [hl1,hcs];omega),hL1,show (n - 1) * 7=k * 7+news.length by rw [hlen];omega,over_take_through (by rw [hcs];omega),hy,hnews]
    congr 1
    apply List.ext_getElem?
    intro j
    rw [List.getElem?_take,List.getElem?_take]
    split
    ·exact hL _ (by omega)
    ·rfl
   ·rw [hW1]
    exact grownBy_trans' (w':=w.drew) ⟨rfl,rfl,rfl,Nat.le_refl _,fun _ _ _=>rfl⟩ (grownBy_trans' (grownBy_setRow _ _ _) (grownBy_setRow _ _ _))
  have hW:Hid (w.drew.setCells g (0+k * 7) news=W1):=by rw [e1,hW1];exact LH rfl
  have k0:(0:Int)≤(k:Int):=by omega
  have k1:(k:Int)+1≤(n:Int):=by omega
  have k2:((k:Int)+1).toNat=k+1:=by omega
  have k4:(0:Int)≤(k:Int)+1:=by omega
  have k5:k+(n - (k+1))=n - 1:=by omega
  have k3:(k:Int)≤(k:Int)+1:=by omega
  have hic:k≤cap:=by omega
  have hjc:k+1≤cap:=by omega
  have hne:¬ (k:Int)=(k:Int)+1:=by omega
  clear hL hcell hnews hlen e1 hW1 hg1 hzl hcl hL1 hl1 hcs hct hg hy h1 hxl
  go_enter Tryz.func109,Tryz.ntmps109
  go_wp2_with fail
  go_region_law (refine step_append_room rfl (.tmp 22) (.tmp 25) 26 rfl 196 i0 7 Tryz.underlying26 hi hz1 g 0 k cap (by simp [Act.eval,Act.put]) A (n - (k+1)) (cap - (k+1)) news (by simp [Act.eval,Act.put]) s1.out hsrc.out s2.out (by omega) s3.out ?_;rw [hW.out,k5])
  obtain ⟨m,hm⟩:∃ m,n=m+1:=⟨n - 1,by omega⟩
  subst hm
  rw [Nat.add_sub_cancel] at hcl2 hfin ⊢
  have m1:(m:Int)≤(m:Int)+1:=by omega
  have m2:((m:Int)+1)≤(cap:Int):=by omega
  have m3:¬ cap=m:=by omega
  have m4:m+1 - m=1:=by omega
  have m5:(0:Int)≤(m:Int)+1:=by omega
  have m6:((m:Int)+1).toNat=m+1:=by omega
  clear k5
  go_wp2
  obtain ⟨f1,f2⟩:=hfin.out _ rfl
  go_ret
  exact ⟨rfl,f1,f2⟩
theorem RdS.keep {w0 w w':World} {g:Nat} {l:List Int} {ok:Bool} (h:RdS w0 w g l ok) (hb:Below w.heap.size w w'):RdS w0 w' g l ok:=by
 obtain ⟨a,cap,h1,h2,h3,h4⟩:=h
 exact ⟨a,cap,Blk.step h1 hb,h2,h3,h4.trans (hb.mono h4.size)⟩
theorem FrG.down {g:Nat} {w w1 w2:World} (hb:Below w.heap.size w w1) (h:FrG g w1 w2) (hg:g≤w.heap.size):FrG g w w2 :=
 ⟨(hb.mono hg).trans h.1,fun b h1 h2=>(h.2 b h1 (Nat.lt_of_lt_of_le h2 hb.size)).trans (hb.block b h2)⟩
theorem ownI_fr {w w':World} {g B:Nat} {v:Value} {l:List Int} (h:OwnI w B v l) (hB:g < B) (hf:FrG g w w'):OwnI w' B v l:=by
 refine ⟨h.1,?_⟩
 rcases id h.2 with h0|⟨k,cap,cur,hv,hg,hh,r⟩
 ·exact Or.inl h0
 ·have hk:=(h.lt k (by rw [hv];rfl)).2
  exact Or.inr ⟨k,cap,cur,hv,hg,by rw [hf.2 k (by omega) hk];exact hh,r⟩
def NumEnd (w0:World) (g:Nat) (n:Int) (l:List Int) (ok:Bool) (w:World) (e:Ending) (w':World):Prop:=e=.returned (.int .i64 n)∧RdS w0 w' g l ok∧FrG g w w'
def StEnd (w0:World) (g:Nat) (s:ByteArray) (l:List Int) (ok:Bool) (w:World) (e:Ending) (w':World):Prop:=e=.returned (.string s)∧RdS w0 w' g l ok∧FrG g w w'
def IsEnd (w0:World) (g:Nat) (r:List Int) (l:List Int) (ok:Bool) (w:World) (e:Ending) (w':World):Prop:=∃ a cap,e=.returned (.slice a r.length cap)∧OwnI w' w.heap.size (.slice a r.length cap) r∧RdS w0 w' g l ok∧FrG g w w'
theorem numbers_any {w0 w:World} {g:Nat} {l:List Int} {ok:Bool} (h:RdS w0 w g l ok) {n:Int} {l':List Int} {ok':Bool} (hn:n=(getN l).1) (hl:l'=l.drop (getN l).2.1.toNat) (hok:ok'=(ok && decide ((getN l).2.2=0))) :
  Calls Tryz.prog 93 #[.pointer (some ⟨g,0,none⟩)] w (NumEnd w0 g n l' ok' w):=by
 have HR:=LH h
 obtain ⟨a,cap,hb,hs,hle,hbl⟩:=h
 obtain ⟨g0,g1,gz⟩:=cells2 hb
 have gl:=hb.lt
 obtain ⟨s,x,hgn⟩:∃ s x,getN l=(n,s,x):=⟨_,_,by rw [hn]⟩
 have hs0:0≤s:=by
  rcases getN_cases l with h|⟨_,_,h,_,h2,_⟩
  ·rw [hgn] at h;cases h;exact Int.le_refl _
  ·rw [hgn] at h;cases h;omega
 rw [hgn] at hl hok
 have S:=LH (hs.below byteCell_len hbl)
 have HG:=LH hgn
 obtain ⟨m,hm⟩:∃ m,m=l.length:=⟨_,rfl⟩
 rw [← hm] at g0 S
 have HL:=LH hl
 have HO:=LH hok
 have HGL:=LH (Nat.le_of_lt gl)
 clear hn hl hok hgn hb hs hbl hm
 go_enter Tryz.func93,Tryz.ntmps93
 go_wp2_with fail
 refine Calls.mono (getN_any S.out HG.out) ?_
 rintro e w1 ⟨rfl,rfl⟩
 go_wp2_with fail
 refine Calls.mono (take_any s x HR.out hs0 HL.out HO.out) ?_
 rintro e w2 ⟨rfl,hr,hf⟩
 go_wp2_with fail
 go_ret
 exact ⟨rfl,hr,hf⟩
theorem text_any {w0 w:World} {g:Nat} {l:List Int} {ok:Bool} (h:RdS w0 w g l ok) {n:ByteArray} {l':List Int} {ok':Bool} (hn:n=(getT l).1) (hl:l'=l.drop (getT l).2.1.toNat) (hok:ok'=(ok && decide ((getT l).2.2=0))) :
  Calls Tryz.prog 95 #[.pointer (some ⟨g,0,none⟩)] w (StEnd w0 g n l' ok' w):=by
 have HR:=LH h
 obtain ⟨a,cap,hb,hs,hle,hbl⟩:=h
 obtain ⟨g0,g1,gz⟩:=cells2 hb
 have gl:=hb.lt
 obtain ⟨s,x,hgn⟩:∃ s x,getT l=(n,s,x):=⟨_,_,by rw [hn]⟩
 have hs0:0≤s:=by
  rw [getT] at hgn
  split at hgn
  ·cases hgn;exact Int.le_refl _
  ·rcases getN_cases l with h|⟨_,_,h,⟨h1,_⟩,h2,_⟩
   ·rw [h] at hgn;cases hgn;decide
   ·rw [h] at hgn;cases hgn;simp only;omega
 rw [hgn] at hl hok
 have S:=LH (hs.below byteCell_len hbl)
 have HG:=LH hgn
 obtain ⟨m,hm⟩:∃ m,m=l.length:=⟨_,rfl⟩
 rw [← hm] at g0 S
 have HL:=LH hl
 have HO:=LH hok
 clear hn hl hok hgn hb hs hbl hm
 go_enter Tryz.func95,Tryz.ntmps95
 go_wp2_with fail
 refine Calls.mono (getT_any S.out HG.out) ?_
 rintro e w1 ⟨rfl,rfl⟩
 go_wp2_with fail
 refine Calls.mono (take_any s x HR.out hs0 HL.out HO.out) ?_
 rintro e w2 ⟨rfl,hr,hf⟩
 go_wp2_with fail
 go_ret
 exact ⟨rfl,hr,hf⟩
theorem getIL_pos:∀ (q:Nat) (l acc:List Int) (s:Int),0≤s→0≤(getIL q l acc s).2.1
 |0,_,_,s,h=>h
 |q+1,l,acc,s,h=>by
  rw [getIL]
  split
  ·refine getIL_pos q l _ _ ?_
   rcases getN_cases (l.drop s.toNat) with h1|⟨_,_,h1,_,h2,_⟩
   ·rw [h1];simpa using h
   ·rw [h1];simp only;omega
  ·exact Int.le_refl _
theorem ints_any {w0 w:World} {g:Nat} {l:List Int} {ok:Bool} (most:Int) (hm0:0≤most) (hm1:most≤4096) (h:RdS w0 w g l ok) {n:List Int} {l':List Int} {ok':Bool} (hn:n=(getI l most).1) (hl:l'=l.drop (getI l most).2.1.toNat) (hok:ok'=(ok && decide ((getI l most).2.2=0))) :
  Calls Tryz.prog 94 #[.pointer (some ⟨g,0,none⟩),.int .i64 most] w (IsEnd w0 g n l' ok' w):=by
 have HR:=LH h
 obtain ⟨a,cap,hb,hs,hle,hbl⟩:=h
 obtain ⟨g0,g1,gz⟩:=cells2 hb
 have gl:=hb.lt
 obtain ⟨s,x,hgn⟩:∃ s x,getI l most=(n,s,x):=⟨_,_,by rw [hn]⟩
 have hs0:0≤s:=by
  rw [getI] at hgn
  split at hgn
  ·cases hgn;exact Int.le_refl _
  ·have:=getIL_pos (getN l).1.toNat l [] (getN l).2.1 (by
    rcases getN_cases l with h|⟨_,_,h,_,h2,_⟩
    ·rw [h];exact Int.le_refl _
    ·rw [h];simp only;omega)
   rw [hgn] at this
   exact this
 rw [hgn] at hl hok
 have S:=LH (hs.below byteCell_len hbl)
 have HG:=LH hgn
 obtain ⟨m,hm⟩:∃ m,m=l.length:=⟨_,rfl⟩
 rw [← hm] at g0 S
 have HL:=LH hl
 have HO:=LH hok
 clear hn hl hok hgn hb hs hbl hm
 go_enter Tryz.func94,Tryz.ntmps94
 go_wp2_with fail
 refine Calls.mono (getI_any S.out hm0 hm1 HG.out) ?_
 rintro e w1 ⟨a1,cap1,rfl,oi,hb⟩
 have HR1:=LH (HR.out.keep hb)
 have OI:=LH oi
 have HB:=LH hb
 clear oi hb
 go_wp2_with fail
 refine Calls.mono (take_any s x HR1.out hs0 HL.out HO.out) ?_
 rintro e w2 ⟨rfl,hr,hf⟩
 have HF:=LH hf
 have HRR:=LH hr
 clear hr hf
 go_wp2_with fail
 go_ret
 exact ⟨a1,cap1,rfl,ownI_fr OI.out gl HF.out,HRR.out,FrG.down HB.out HF.out (Nat.le_of_lt gl)⟩
def nN (l:List Int):Int:=(getN l).1
def nL (l:List Int):List Int:=l.drop (getN l).2.1.toNat
def nO (l:List Int) (o:Bool):Bool:=o && decide ((getN l).2.2=0)
def tN (l:List Int):ByteArray:=(getT l).1
def tL (l:List Int):List Int:=l.drop (getT l).2.1.toNat
def tO (l:List Int) (o:Bool):Bool:=o && decide ((getT l).2.2=0)
def iN (most:Int) (l:List Int):List Int:=(getI l most).1
def iL (most:Int) (l:List Int):List Int:=l.drop (getI l most).2.1.toNat
def iO (most:Int) (l:List Int) (o:Bool):Bool:=o && decide ((getI l most).2.2=0)
def rd1 (l:List Int) (o:Bool):PC × List Int × Bool :=
 let l1:=nL l;let o1:=nO l o
 let l2:=iL 4 l1;let o2:=iO 4 l1 o1
 let l3:=nL l2;let o3:=nO l2 o2
 let l4:=tL l3;let o4:=tO l3 o3
 (⟨1,⟨nN l,iN 4 l1,nN l2,tN l3,tN l4⟩,0,0,[],0,0,0⟩,tL l4,tO l4 o4)
def rd2 (l:List Int) (o:Bool):PC × List Int × Bool :=
 let l1:=nL l;let o1:=nO l o
 (⟨2,default,nN l,nN l1,[],0,0,0⟩,nL l1,nO l1 o1)
def rd3 (l:List Int) (o:Bool):PC × List Int × Bool:=(⟨3,default,0,0,iN 6 l,0,0,0⟩,iL 6 l,iO 6 l o)
def rd4 (l:List Int) (o:Bool):PC × List Int × Bool :=
 let l1:=nL l;let o1:=nO l o
 let l2:=nL l1;let o2:=nO l1 o1
 let l3:=nL l2;let o3:=nO l2 o2
 (⟨4,default,nN l,0,[],nN l1,nN l2,nN l3⟩,nL l3,nO l3 o3)
def rd56 (k:Int) (l:List Int) (o:Bool):PC × List Int × Bool :=
 let l1:=nL l;let o1:=nO l o
 let l2:=nL l1;let o2:=nO l1 o1
 (⟨k,default,nN l,0,[],nN l1,0,nN l2⟩,nL l2,nO l2 o2)
def rdC (l:List Int) (o:Bool):PC × List Int × Bool :=
 let k:=min (nN l) 255
 let l1:=nL l;let o1:=nO l o
 if k=1 then rd1 l1 o1 else if k=2 then rd2 l1 o1 else if k=3 then rd3 l1 o1 else if k=4 then rd4 l1 o1 else if k=5∨k=6 then rd56 k l1 o1 else (⟨k,default,0,0,[],0,0,0⟩,l1,o1)
theorem nN_pos (l:List Int):0≤nN l:=by
 rcases getN_cases l with h|⟨_,_,h,h1,_⟩
 ·rw [nN,h];exact Int.le_refl _
 ·rw [nN,h];exact h1.1
def ComO (w:World) (B:Nat) (v:Value) (c:PC):Prop:=∃ a cap b bc,v=.agg #[.int .u8 c.kind,.int .i64 c.msg.id,.slice a c.msg.groups.length cap,.int .i64 c.msg.topic,.string c.msg.key,.string c.msg.body,.int .i64 c.id,.int .i64 c.time,.slice b c.members.length bc,.int .i64 c.topic,.int .i64 c.who,.int .i64 c.n] ∧
 OwnI w B (.slice a c.msg.groups.length cap) c.msg.groups∧OwnI w B (.slice b c.members.length bc) c.members
def RdCEnd (w0:World) (g:Nat) (c:PC) (l:List Int) (ok:Bool) (w:World) (e:Ending) (w':World):Prop:=∃ v,e=.returned v∧ComO w' w.heap.size v c∧RdS w0 w' g l ok∧FrG g w w'
theorem RdS.far {w0 w:World} {g b o:Nat} {v:Value} {l:List Int} {ok:Bool} (h:RdS w0 w g l ok) (hb:g < b):RdS w0 (w.setCell ⟨b,o,none⟩ v) g l ok:=by
 obtain ⟨a,cap,h1,h2,h3,h4⟩:=h
 exact ⟨a,cap,h1.far (by omega) v,h2,h3,h4.setCell (p:=⟨b,o,none⟩) (by simp only [];omega) v⟩
theorem FrG.set_ {g b o:Nat} {w w':World} {v:Value} (h:FrG g w w') (hg:g≤w.heap.size) (hb:w.heap.size≤b):FrG g w (w'.setCell ⟨b,o,none⟩ v):=by
 refine ⟨h.1.setCell (p:=⟨b,o,none⟩) (by simp only [];omega) v,fun k h1 h2=>?_⟩
 rw [heap_setCell_other _ _ _ _ (fun e=>by have e':k=b:=e;omega)]
 exact h.2 k h1 h2
theorem OwnI.far {w:World} {B b o:Nat} {v u:Value} {l:List Int} (h:OwnI w B v l) (hb:b < B):OwnI (w.setCell ⟨b,o,none⟩ u) B v l :=
 ownsRow_setCell_other h (fun e=>by have:=(h.lt _ e).1;simp at this;omega) u
theorem OwnI.reads {w:World} {B:Nat} {v:Value} {l:List Int} (h:OwnI w B v l):IntsR w v l:=sliceR_of_owns (cells:=intCell) (fun _=>rfl) (by rw [← rowVals_flat];exact h)
theorem OwnI.le {w:World} {B B':Nat} {v:Value} {l:List Int} (h:OwnI w B v l) (hB:B'≤B):OwnI w B' v l:=ownsRow_le h hB
theorem OwnI.keep {w w':World} {B:Nat} {v:Value} {l:List Int} (h:OwnI w B v l) (hb:Below w.heap.size w w'):OwnI w' B v l:=ownsRow_keep h hb
theorem ComO.reads {w:World} {B:Nat} {v:Value} {c:PC} (h:ComO w B v c):ComR w v c:=by
 obtain ⟨a,cap,b,bc,h1,h2,h3⟩:=h
 exact ⟨a,cap,b,bc,h1,h2.reads,h3.reads⟩
theorem ComO.keep {w w':World} {B:Nat} {v:Value} {c:PC} (h:ComO w B v c) (hb:Below w.heap.size w w'):ComO w' B v c:=by
 obtain ⟨a,cap,b,bc,h1,h2,h3⟩:=h
 exact ⟨a,cap,b,bc,h1,h2.keep hb,h3.keep hb⟩
theorem ComO.le {w:World} {B B':Nat} {v:Value} {c:PC} (h:ComO w B v c) (hB:B'≤B):ComO w B' v c:=by
 obtain ⟨a,cap,b,bc,h1,h2,h3⟩:=h
 exact ⟨a,cap,b,bc,h1,h2.le hB,h3.le hB⟩
theorem ComO.far {w:World} {B b o:Nat} {v u:Value} {c:PC} (h:ComO w B v c) (hb:b < B):ComO (w.setCell ⟨b,o,none⟩ u) B v c:=by
 obtain ⟨a,cap,b,bc,h1,h2,h3⟩:=h
 exact ⟨a,cap,b,bc,h1,h2.far hb,h3.far hb⟩
theorem Blk.frG {g b:Nat} {w w':World} {t:TypeId} {cs:List Value} (h:Blk w b t cs) (hf:FrG g w w') (hb:g < b):Blk w' b t cs:=(hf.2 b hb h.lt).trans h
abbrev PCV:=(Value × Value) × PC
def comCs (p:PCV):List Value:=[.int .u8 p.2.kind,.int .i64 p.2.msg.id,p.1.1,.int .i64 p.2.msg.topic,.string p.2.msg.key,.string p.2.msg.body,.int .i64 p.2.id,.int .i64 p.2.time,p.1.2,.int .i64 p.2.topic,.int .i64 p.2.who,.int .i64 p.2.n]
theorem comCs_len (p:PCV):(comCs p).length=12:=rfl
def OwnL (w:World) (B:Nat) (p:PCV):Prop:=OwnI w B p.1.1 p.2.msg.groups∧OwnI w B p.1.2 p.2.members
def OwnK (w:World) (B:Nat) (v:Value) (l:List PC):Prop:=∃ pl:List PCV,pl.map (·.2)=l∧w.ownsRow B 79 12 v l.length (pl.flatMap comCs)∧∀ p∈pl,OwnL w B p
def CmdsR (w:World) (v:Value) (l:List PC):Prop:=∃ pl:List PCV,pl.map (·.2)=l∧SliceR w v 12 comCs pl∧∀ p∈pl,IntsR w p.1.1 p.2.msg.groups∧IntsR w p.1.2 p.2.members
theorem OwnL.keep {w w':World} {B:Nat} {p:PCV} (h:OwnL w B p) (hb:Below w.heap.size w w'):OwnL w' B p:=⟨h.1.keep hb,h.2.keep hb⟩
theorem OwnK.keep {w w':World} {B:Nat} {v:Value} {l:List PC} (h:OwnK w B v l) (hb:Below w.heap.size w w'):OwnK w' B v l:=by
 obtain ⟨pl,h1,h2,h3⟩:=h
 exact ⟨pl,h1,ownsRow_keep h2 hb,fun p hp=>(h3 p hp).keep hb⟩
theorem OwnK.nil (w:World) (B:Nat):OwnK w B (.slice none 0 0) []:=⟨[],rfl,World.ownsRow_nil _ _ _ _,fun _ h=>by cases h⟩
theorem OwnK.reads {w:World} {B:Nat} {v:Value} {l:List PC} (h:OwnK w B v l):CmdsR w v l:=by
 obtain ⟨pl,rfl,h2,h3⟩:=h
 rw [List.length_map] at h2
 exact ⟨pl,rfl,sliceR_of_owns comCs_len h2,fun p hp=>⟨(h3 p hp).1.reads,(h3 p hp).2.reads⟩⟩
theorem CmdsR.below {w w':World} {v:Value} {l:List PC} (h:CmdsR w v l) (hb:Below w.heap.size w w'):CmdsR w' v l:=by
 obtain ⟨pl,h1,h2,h3⟩:=h
 exact ⟨pl,h1,h2.below comCs_len hb,fun p hp=>⟨(h3 p hp).1.below hb,(h3 p hp).2.below hb⟩⟩
theorem OwnK.shape {w:World} {B:Nat} {v:Value} {l:List PC} (h:OwnK w B v l):∃ a cap,v=.slice a l.length cap:=by
 obtain ⟨pl,_,h2,_⟩:=h
 rcases h2.2 with ⟨rfl,h0⟩|⟨g,cp,cur,rfl,_⟩
 ·exact ⟨none,0,by rw [h0]⟩
 ·exact ⟨_,cp,rfl⟩
theorem OwnK.snoc {w w':World} {B n:Nat} {v v':Value} {l:List PC} {c:PCV} {pl:List PCV} (h1:pl.map (·.2)=l) (h2:w.ownsRow B 79 12 v n (pl.flatMap comCs)) (h3:∀ p∈pl,OwnL w B p)
  (hu:OwnL w B c) (hg:w.grownBy w' v.ownBlock) (hv:w'.ownsRow B 79 12 v' (n+1) (pl.flatMap comCs++comCs c)) (hn:n=l.length):OwnK w' B v' (l++[c.2]):=by
 have hne:∀ q:PCV,OwnL w B q→OwnL w' B q:=fun q hq=>⟨ownsRow_grown' hq.1 hg (fun k hk=>rows_ne hq.1 h2 (by decide) hk),ownsRow_grown' hq.2 hg (fun k hk=>rows_ne hq.2 h2 (by decide) hk)⟩
 refine ⟨pl++[c],by simp [h1],?_,fun p hp=>?_⟩
 ·rw [List.length_append,← hn]
  simpa [List.flatMap_append] using hv
 ·rcases List.mem_append.1 hp with hp|hp
  ·exact hne p (h3 p hp)
  ·rw [List.mem_singleton.1 hp]
   exact hne c hu
theorem info_com:(Tryz.prog.info? 79).map (fun i=>(i.zero,i.size,i.bytes))=some (some (.agg #[.int .u8 0,.int .i64 0,.slice none 0 0,.int .i64 0,.string ByteArray.empty,.string ByteArray.empty,.int .i64 0,.int .i64 0,.slice none 0 0,.int .i64 0,.int .i64 0,.int .i64 0]),12,144):=by kernel_rfl
theorem info_stp:(Tryz.prog.info? 199).map (fun i=>(i.zero,i.size,i.bytes))=some (some (.agg #[.int .i64 0,.int .i64 0]),2,16):=by kernel_rfl
def CloEndI {α:Type} (cs:α→List Value) (l:List α) (w:World) (e:Ending) (w':World):Prop:=∃ a cap,e=.returned (.slice a l.length cap)∧w'.ownsRow w.heap.size 3 1 (.slice a l.length cap) l.length (l.flatMap cs)∧Below w.heap.size w w'
theorem cloI_nil {α:Type} (cs:α→List Value) (w:World):Calls Tryz.prog 52 #[.slice none 0 0] w (CloEndI cs [] w):=by
 have hE:=fun w'=>Lib.run_eql_slice_nil w' 34 3 none 0 0 0 0 Tryz.underlying34
 simp only [Option.isNone_none] at hE
 go_enter Tryz.func52,Tryz.ntmps52
 go_wp2_with fail
 go_ret
 exact ⟨none,0,rfl,World.ownsRow_nil _ _ _ _,Below.refl _ _⟩
set_option maxHeartbeats 1000000 in
theorem cloI_some {α:Type} {cs:α→List Value} (hcs:∀ x,(cs x).length=1) (ad:Addr) (n cap:Nat) (l:List α) (w:World) (hn:n=l.length) (h:SliceR w (.slice (some ad) n cap) 1 cs l) (h1:∀ v∈l.flatMap cs,v.oneCell'=true) (hl:l.length * 8≤140737488355328) :
  Calls Tryz.prog 52 #[.slice (some ad) n cap] w (CloEndI cs l w):=by
 obtain ⟨i0,hi,hz0,hz1,hz2⟩:=info_parts info_int
 have H:=LH h
 have HL:=LH hl
 have HN:=LH hn
 have H1:=LH h1
 have HNP:Hid (0 < l.length→∃ b off,(some ad:Option Addr)=some ⟨b,off,none⟩):=by
  obtain ⟨a',cap',e1,_,_,_,h5⟩:=h
  intro hp
  obtain ⟨b,off,ha,_⟩:=h5 hp
  cases e1
  exact ⟨b,off,ha⟩
 clear h hl hn h1
 have hE:=fun w'=>Lib.run_eql_slice_nil w' 34 3 (some ad) n cap 0 0 Tryz.underlying34
 simp only [Option.isNone_some] at hE
 go_enter Tryz.func52,Tryz.ntmps52
 go_wp2_with (at_builtin;go_must (refine wpList_append_own _ rfl _ _ 34 rfl w.heap.size 3 i0 _ 1 8 Tryz.underlying34 hi hz0 hz1 hz2 rfl (by decide) _ 0 [] rfl (World.ownsRow_made w #[] 0 (Nat.le_refl _) (Nat.zero_le _) rfl) ad n cap (l.flatMap cs) rfl (by rw [flat_length hcs,HN.out]) ?_ H1.out (by have:=HL.out;rw [HN.out];unfold maxLen;omega) (by have:=HL.out;rw [HN.out];omega) (by simp) ?_))
 ·intro j v hv
  have hn0:0 < l.length:=by
   have:=(List.getElem?_eq_some_iff.1 hv).1
   rw [flat_length hcs] at this
   omega
  obtain ⟨b,off,e⟩:=HNP.out hn0
  cases e
  exact (H.out.below hcs ((Below.refl _ _).alloc (Nat.le_refl _) (.cells #[] 3))).flat hcs (by omega) j v hv
 ·intro v' w' hown hgrow _
  have hb:=((Below.refl w.heap.size w).alloc (Nat.le_refl _) (.cells #[] 3)).grown hgrow (by simp) (fun j hj=>by cases hj;exact Nat.le_refl _)
  have ho:w'.ownsRow w.heap.size 3 1 v' l.length (l.flatMap cs):=by simpa [HN.out] using hown
  obtain ⟨a',cap',hv'⟩:∃ a cap,v'=.slice a l.length cap:=by
   rcases ho.2 with ⟨e,h0⟩|⟨g,cp,_,e,_⟩
   ·exact ⟨none,0,by rw [e,h0]⟩
   ·exact ⟨_,_,e⟩
  subst hv'
  have HO:=LH ho
  have HB:=LH hb
  clear hown hgrow hb ho
  go_wp2_with fail
  go_ret
  exact ⟨a',cap',rfl,HO.out,HB.out⟩
theorem cloI_any {α:Type} {cs:α→List Value} (hcs:∀ x,(cs x).length=1) {v:Value} {l:List α} {w:World} (h:SliceR w v 1 cs l) (h1:∀ v∈l.flatMap cs,v.oneCell'=true) (hl:l.length≤1000000) :
  Calls Tryz.prog 52 #[v] w (CloEndI cs l w):=by
 have h':=h
 obtain ⟨a,cap,hv,hcap,_,hnone,hc⟩:=h'
 subst hv
 cases a with
 |none =>
  have hc0:cap=0:=hnone rfl
  have h0:l.length=0:=by omega
  have hl0:l=[]:=List.length_eq_zero_iff.1 h0
  subst hl0
  subst hc0
  exact cloI_nil cs w
 |some ad=>exact cloI_some hcs ad _ cap l w rfl h h1 (by omega)
def CloEndS {α:Type} (cs:α→List Value) (l:List α) (w:World) (e:Ending) (w':World):Prop:=∃ a cap,e=.returned (.slice a l.length cap)∧w'.ownsRow w.heap.size 199 2 (.slice a l.length cap) l.length (l.flatMap cs)∧Below w.heap.size w w'
theorem cloS_nil {α:Type} (cs:α→List Value) (w:World):Calls Tryz.prog 90 #[.slice none 0 0] w (CloEndS cs [] w):=by
 have hE:=fun w'=>Lib.run_eql_slice_nil w' 27 199 none 0 0 0 0 Tryz.underlying27
 simp only [Option.isNone_none] at hE
 go_enter Tryz.func90,Tryz.ntmps90
 go_wp2_with fail
 go_ret
 exact ⟨none,0,rfl,World.ownsRow_nil _ _ _ _,Below.refl _ _⟩
set_option maxHeartbeats 1000000 in
theorem cloS_some {α:Type} {cs:α→List Value} (hcs:∀ x,(cs x).length=2) (ad:Addr) (n cap:Nat) (l:List α) (w:World) (hn:n=l.length) (h:SliceR w (.slice (some ad) n cap) 2 cs l) (h1:∀ v∈l.flatMap cs,v.oneCell'=true) (hl:l.length * 16≤140737488355328) :
  Calls Tryz.prog 90 #[.slice (some ad) n cap] w (CloEndS cs l w):=by
 obtain ⟨i0,hi,hz0,hz1,hz2⟩:=info_parts info_stp
 have H:=LH h
 have HL:=LH hl
 have HN:=LH hn
 have H1:=LH h1
 have HNP:Hid (0 < l.length→∃ b off,(some ad:Option Addr)=some ⟨b,off,none⟩):=by
  obtain ⟨a',cap',e1,_,_,_,h5⟩:=h
  intro hp
  obtain ⟨b,off,ha,_⟩:=h5 hp
  cases e1
  exact ⟨b,off,ha⟩
 clear h hl hn h1
 have hE:=fun w'=>Lib.run_eql_slice_nil w' 27 199 (some ad) n cap 0 0 Tryz.underlying27
 simp only [Option.isNone_some] at hE
 go_enter Tryz.func90,Tryz.ntmps90
 go_wp2_with (at_builtin;go_must (refine wpList_append_own _ rfl _ _ 27 rfl w.heap.size 199 i0 _ 2 16 Tryz.underlying27 hi hz0 hz1 hz2 rfl (by decide) _ 0 [] rfl (World.ownsRow_made w #[] 0 (Nat.le_refl _) (Nat.zero_le _) rfl) ad n cap (l.flatMap cs) rfl (by rw [flat_length hcs,HN.out]) ?_ H1.out (by have:=HL.out;rw [HN.out];unfold maxLen;omega) (by have:=HL.out;rw [HN.out];omega) (by simp) ?_))
 ·intro j v hv
  have hn0:0 < l.length:=by
   have:=(List.getElem?_eq_some_iff.1 hv).1
   rw [flat_length hcs] at this
   omega
  obtain ⟨b,off,e⟩:=HNP.out hn0
  cases e
  exact (H.out.below hcs ((Below.refl _ _).alloc (Nat.le_refl _) (.cells #[] 199))).flat hcs (by omega) j v hv
 ·intro v' w' hown hgrow _
  have hb:=((Below.refl w.heap.size w).alloc (Nat.le_refl _) (.cells #[] 199)).grown hgrow (by simp) (fun j hj=>by cases hj;exact Nat.le_refl _)
  have ho:w'.ownsRow w.heap.size 199 2 v' l.length (l.flatMap cs):=by simpa [HN.out] using hown
  obtain ⟨a',cap',hv'⟩:∃ a cap,v'=.slice a l.length cap:=by
   rcases ho.2 with ⟨e,h0⟩|⟨g,cp,_,e,_⟩
   ·exact ⟨none,0,by rw [e,h0]⟩
   ·exact ⟨_,_,e⟩
  subst hv'
  have HO:=LH ho
  have HB:=LH hb
  clear hown hgrow hb ho
  go_wp2_with fail
  go_ret
  exact ⟨a',cap',rfl,HO.out,HB.out⟩
theorem cloS_any {α:Type} {cs:α→List Value} (hcs:∀ x,(cs x).length=2) {v:Value} {l:List α} {w:World} (h:SliceR w v 2 cs l) (h1:∀ v∈l.flatMap cs,v.oneCell'=true) (hl:l.length≤1000000) :
  Calls Tryz.prog 90 #[v] w (CloEndS cs l w):=by
 have h':=h
 obtain ⟨a,cap,hv,hcap,_,hnone,hc⟩:=h'
 subst hv
 cases a with
 |none =>
  have hc0:cap=0:=hnone rfl
  have h0:l.length=0:=by omega
  have hl0:l=[]:=List.length_eq_zero_iff.1 h0
  subst hl0
  subst hc0
  exact cloS_nil cs w
 |some ad=>exact cloS_some hcs ad _ cap l w rfl h h1 (by omega)
def CloEndW {α:Type} (cs:α→List Value) (l:List α) (w:World) (e:Ending) (w':World):Prop:=∃ a cap,e=.returned (.slice a l.length cap)∧w'.ownsRow w.heap.size 196 7 (.slice a l.length cap) l.length (l.flatMap cs)∧Below w.heap.size w w'
theorem cloW_nil {α:Type} (cs:α→List Value) (w:World):Calls Tryz.prog 89 #[.slice none 0 0] w (CloEndW cs [] w):=by
 have hE:=fun w'=>Lib.run_eql_slice_nil w' 26 196 none 0 0 0 0 Tryz.underlying26
 simp only [Option.isNone_none] at hE
 go_enter Tryz.func89,Tryz.ntmps89
 go_wp2_with fail
 go_ret
 exact ⟨none,0,rfl,World.ownsRow_nil _ _ _ _,Below.refl _ _⟩
set_option maxHeartbeats 1000000 in
theorem cloW_some {α:Type} {cs:α→List Value} (hcs:∀ x,(cs x).length=7) (ad:Addr) (n cap:Nat) (l:List α) (w:World) (hn:n=l.length) (h:SliceR w (.slice (some ad) n cap) 7 cs l) (h1:∀ v∈l.flatMap cs,v.oneCell'=true) (hl:l.length * 88≤140737488355328) :
  Calls Tryz.prog 89 #[.slice (some ad) n cap] w (CloEndW cs l w):=by
 obtain ⟨i0,hi,hz0,hz1,hz2⟩:=info_parts info_wait
 have H:=LH h
 have HL:=LH hl
 have HN:=LH hn
 have H1:=LH h1
 have HNP:Hid (0 < l.length→∃ b off,(some ad:Option Addr)=some ⟨b,off,none⟩):=by
  obtain ⟨a',cap',e1,_,_,_,h5⟩:=h
  intro hp
  obtain ⟨b,off,ha,_⟩:=h5 hp
  cases e1
  exact ⟨b,off,ha⟩
 clear h hl hn h1
 have hE:=fun w'=>Lib.run_eql_slice_nil w' 26 196 (some ad) n cap 0 0 Tryz.underlying26
 simp only [Option.isNone_some] at hE
 go_enter Tryz.func89,Tryz.ntmps89
 go_wp2_with (at_builtin;go_must (refine wpList_append_own _ rfl _ _ 26 rfl w.heap.size 196 i0 _ 7 88 Tryz.underlying26 hi hz0 hz1 hz2 rfl (by decide) _ 0 [] rfl (World.ownsRow_made w #[] 0 (Nat.le_refl _) (Nat.zero_le _) rfl) ad n cap (l.flatMap cs) rfl (by rw [flat_length hcs,HN.out]) ?_ H1.out (by have:=HL.out;rw [HN.out];unfold maxLen;omega) (by have:=HL.out;rw [HN.out];omega) (by simp) ?_))
 ·intro j v hv
  have hn0:0 < l.length:=by
   have:=(List.getElem?_eq_some_iff.1 hv).1
   rw [flat_length hcs] at this
   omega
  obtain ⟨b,off,e⟩:=HNP.out hn0
  cases e
  exact (H.out.below hcs ((Below.refl _ _).alloc (Nat.le_refl _) (.cells #[] 196))).flat hcs (by omega) j v hv
 ·intro v' w' hown hgrow _
  have hb:=((Below.refl w.heap.size w).alloc (Nat.le_refl _) (.cells #[] 196)).grown hgrow (by simp) (fun j hj=>by cases hj;exact Nat.le_refl _)
  have ho:w'.ownsRow w.heap.size 196 7 v' l.length (l.flatMap cs):=by simpa [HN.out] using hown
  obtain ⟨a',cap',hv'⟩:∃ a cap,v'=.slice a l.length cap:=by
   rcases ho.2 with ⟨e,h0⟩|⟨g,cp,_,e,_⟩
   ·exact ⟨none,0,by rw [e,h0]⟩
   ·exact ⟨_,_,e⟩
  subst hv'
  have HO:=LH ho
  have HB:=LH hb
  clear hown hgrow hb ho
  go_wp2_with fail
  go_ret
  exact ⟨a',cap',rfl,HO.out,HB.out⟩
theorem cloW_any {α:Type} {cs:α→List Value} (hcs:∀ x,(cs x).length=7) {v:Value} {l:List α} {w:World} (h:SliceR w v 7 cs l) (h1:∀ v∈l.flatMap cs,v.oneCell'=true) (hl:l.length≤1000000) :
  Calls Tryz.prog 89 #[v] w (CloEndW cs l w):=by
 have h':=h
 obtain ⟨a,cap,hv,hcap,_,hnone,hc⟩:=h'
 subst hv
 cases a with
 |none =>
  have hc0:cap=0:=hnone rfl
  have h0:l.length=0:=by omega
  have hl0:l=[]:=List.length_eq_zero_iff.1 h0
  subst hl0
  subst hc0
  exact cloW_nil cs w
 |some ad=>exact cloW_some hcs ad _ cap l w rfl h h1 (by omega)
def posW (l:List Wt) (id:Int):Nat:=(l.takeWhile (fun x=>decide (x.msg.id < id))).length
def hasW (l:List Wt) (id:Int):Bool:=l.any (fun x=>x.msg.id == id)
def smallI (i:Int):Prop:=0≤i∧i≤1099511627776
def idsUp (l:List Wt):Prop:=l.Pairwise (fun x y=>x.msg.id < y.msg.id)∧∀ x∈l,smallI x.msg.id
theorem posW_eq:∀ {l:List Wt} {id:Int} {p:Nat},p≤l.length→(∀ k (h:k < l.length),k < p→l[k].msg.id < id)→(∀ k (h:k < l.length),p≤k→id≤l[k].msg.id)→posW l id=p
 |[],id,p,hp,_,_=>by simp at hp;subst hp;rfl
 |x :: l,id,0,_,_,h2=>by
  have:=h2 0 (by simp) (Nat.le_refl _)
  simp only [List.getElem_cons_zero] at this
  simp [posW,List.takeWhile,show ¬ x.msg.id < id by omega]
 |x :: l,id,p+1,hp,h1,h2=>by
  have h0:=h1 0 (by simp) (by omega)
  simp only [List.getElem_cons_zero] at h0
  have ih:=posW_eq (l:=l) (id:=id) (p:=p) (by simpa using hp) (fun k h hk=>h1 (k+1) (by simpa using h) (by omega)) (fun k h hk=>h2 (k+1) (by simpa using h) (by omega))
  rw [posW] at ih ⊢
  simp [List.takeWhile,h0,ih]
theorem hasW_at {l:List Wt} {id:Int} {p:Nat} (hu:idsUp l) (h1:∀ k (h:k < l.length),k < p→l[k].msg.id < id) (h2:∀ k (h:k < l.length),p≤k→id≤l[k].msg.id):hasW l id=(if h:p < l.length then l[p].msg.id == id else false):=by
 rw [Bool.eq_iff_iff]
 simp only [hasW,List.any_eq_true,beq_iff_eq]
 constructor
 ·rintro ⟨x,hx,rfl⟩
  obtain ⟨k,hk,rfl⟩:=List.getElem_of_mem hx
  have a1:p≤k:=by
   rcases Nat.lt_or_ge k p with h|h
   ·have:=h1 k hk h;omega
   ·exact h
  have hp:p < l.length:=by omega
  rw [dif_pos hp]
  rcases Nat.lt_or_ge p k with h|h
  ·have a2:=(List.pairwise_iff_getElem.1 hu.1) p k hp hk h
   have a3:=h2 p hp (Nat.le_refl _)
   omega
  ·obtain rfl:k=p:=by omega
   simp
 ·intro h
  by_cases hp:p < l.length
  ·rw [dif_pos hp] at h
   exact ⟨l[p],List.getElem_mem hp,by simpa using h⟩
  ·rw [dif_neg hp] at h
   cases h
theorem up_lt {l:List Wt} (hu:idsUp l) {j k:Nat} (hk:k < l.length) (hj:j < k):(l[j]'(by omega)).msg.id < l[k].msg.id:=(List.pairwise_iff_getElem.1 hu.1) j k (by omega) hk hj
theorem find1_any (u:Value) (x:Wt) (id:Int) (hx:smallI x.msg.id) (hi:smallI id) (w:World):Calls Tryz.prog 142 #[wtVal u x,.int .i64 id] w fun e w'=>e=.returned (.int .i64 (x.msg.id - id))∧Below w.heap.size w w':=by
 obtain ⟨⟨i1,g1,t1,k1,b1⟩,tm,fn⟩:=x
 simp only [wtVal,smallI] at hx hi ⊢
 go_enter Tryz.func142,Tryz.ntmps142
 go_wp2_with fail
 go_ret
 exact ⟨rfl,(Below.refl _ _).alloc (Nat.le_refl _) _⟩
set_option maxHeartbeats 8000000 in
set_option maxRecDepth 100000 in
theorem bsW_any {v:Value} {pl:List (Value × Wt)} {w:World} (id:Int) (h:WtsR w v pl) (hu:idsUp (pl.map (·.2))) (hi:smallI id) (hl:pl.length≤1000000) :
  Calls Tryz.prog 141 #[v,.int .i64 id,.func (.func 142) #[] #[]] w
   fun e w'=>e=.returned (.tuple #[.int .i64 (posW (pl.map (·.2)) id:Nat),.bool (hasW (pl.map (·.2)) id)])∧Below w.heap.size w w':=by
 obtain ⟨a,cap,rfl,hcap,hmx,hd⟩:=h.shape
 obtain ⟨l,hl2⟩:∃ l,l=pl.map (·.2):=⟨_,rfl⟩
 have HLN:=LH (show l.length=pl.length by rw [hl2];simp)
 have HGT:=LH (show ∀ k (h1:k < pl.length) (h2:k < l.length),l[k]=pl[k].2 by subst hl2;intro k h1 h2;simp)
 rw [← hl2] at hu ⊢
 have HU:=LH hu
 have HI:=LH hi
 have HS:=LH h.2
 obtain ⟨n,hn⟩:∃ n,n=pl.length:=⟨_,rfl⟩
 have HD:=LH hd
 have HN:=LH hn
 rw [← hn] at hl hcap ⊢
 unfold maxLen at hmx
 have hn':(n:Int)≤1000000:=by omega
 have HE:=LH (show ∀ (p:Nat) (b:Bool),p≤n→(∀ k (h:k < l.length),k < p→l[k].msg.id < id)→(∀ k (h:k < l.length),p≤k→id≤l[k].msg.id)→b=(if h:p < l.length then l[p].msg.id == id else false)→p=posW l id∧b=hasW l id from fun p b h0 h1 h2 h3=>⟨(posW_eq (by rw [HLN.out,← hn];exact h0) h1 h2).symm,by rw [h3,hasW_at hu h1 h2]⟩)
 obtain ⟨R,hR⟩:∃ R:Nat × Bool,R=(posW l id,hasW l id):=⟨_,rfl⟩
 have HE2:=LH (show ∀ (p:Nat) (b:Bool),p≤n→(∀ k (h:k < l.length),k < p→l[k].msg.id < id)→(∀ k (h:k < l.length),p≤k→id≤l[k].msg.id)→b=(if h:p < l.length then l[p].msg.id == id else false)→R=(p,b) from fun p b h0 h1 h2 h3=>by rw [hR,← (HE.out p b h0 h1 h2 h3).1,← (HE.out p b h0 h1 h2 h3).2])
 rw [show posW l id=R.1 by rw [hR],show hasW l id=R.2 by rw [hR]]
 clear HE hR hd hn hl2 h hu hi
 go_enter Tryz.func141,Tryz.ntmps141
 go_wp2_with fail
 go_loopg [9,10] n (fun g i j wr=>∃ p q:Nat,p≤q∧q≤n∧g=q - p∧i=.int .i64 (p:Int)∧j=.int .i64 (q:Int)∧Hid (∀ k (h:k < l.length),k < p→l[k].msg.id < id)∧Hid (∀ k (h:k < l.length),q≤k→id≤l[k].msg.id)∧Hid (Below w.heap.size w wr))
 case atStart=>exact ⟨0,n,Nat.zero_le _,Nat.le_refl _,rfl,rfl,rfl,(fun k _ hk=>absurd hk (Nat.not_lt_zero _)),(fun k h1 h2=>by rw [HLN.out,← HN.out] at h1;omega),Below.refl _ _⟩
 case round =>
  obtain ⟨p,q,hpq,hqn,rfl,rfl,rfl,hlo,hhi,hb⟩:=hrel
  by_cases hlt:p < q
  ·have hk1:(p:Int) < (q:Int):=by omega
   obtain ⟨m,hm⟩:∃ m:Nat,((p:Int)+(q:Int)) / 2=(m:Int):=⟨(p+q) / 2,by omega⟩
   have m1:p≤m∧m < q∧m < n:=by omega
   obtain ⟨m1,m2,m3⟩:=m1
   have m4:(0:Int)≤(m:Int):=by omega
   have m5:(m:Int) < (n:Int):=by omega
   obtain ⟨bb,off,ha,hcc⟩:=HD.out (by rw [← HN.out];omega)
   subst ha
   have hkl:m < pl.length:=by rw [← HN.out];exact m3
   have hkl2:m < l.length:=by rw [HLN.out];exact hkl
   have h1:=(hcc m hkl).keep hb.out
   have hs1:=HS.out pl[m] (List.getElem_mem hkl)
   have HX:=LH (HGT.out m hkl hkl2)
   have HSM:=LH (HU.out.2 l[m] (List.getElem_mem hkl2))
   have HLT:=LH (show ∀ k (h:k < l.length),k≤m→l[k].msg.id≤l[m].msg.id from fun k h hk=>by
    rcases Nat.lt_or_ge k m with h0|h0
    ·have:=up_lt HU.out hkl2 h0;omega
    ·obtain rfl:k=m:=by omega
     exact Int.le_refl _)
   have HGE:=LH (show ∀ k (h:k < l.length),m≤k→l[m].msg.id≤l[k].msg.id from fun k h hk=>by
    rcases Nat.lt_or_ge m k with h0|h0
    ·have:=up_lt HU.out h h0;omega
    ·obtain rfl:k=m:=by omega
     exact Int.le_refl _)
   rw [HX.out] at HSM HLT HGE
   obtain ⟨x,hx⟩:∃ x,x=pl[m]:=⟨_,rfl⟩
   rw [← hx] at h1 hs1 HX HSM HLT HGE
   clear hx hcc
   obtain ⟨u1,x⟩:=x
   simp only at hs1 HX HSM HLT HGE
   obtain ⟨a1,n1',q1,rfl⟩:=hs1
   obtain ⟨c,hc⟩:∃ c,c=x.msg.id - id:=⟨_,rfl⟩
   have L:=fun w=>find1_any (.slice a1 n1' q1) x id HSM.out HI.out w
   rw [← hc] at L
   have HLL:=LH L
   have HCC:=LH hc
   clear L hc
   obtain ⟨⟨xi,xg,xt,xk,xb⟩,xm,xf⟩:=x
   simp only [wtVal] at HLL
   simp only at HCC HLT HGE
   simp only [WtAt] at h1
   obtain ⟨⟨d0,d1,d2,d3⟩,d4,d5,d6⟩:=h1
   by_cases hlo2:xi < id
   ·have c4:c < 0:=by rw [HCC.out];omega
    have HLO:=LH (show ∀ k (h:k < l.length),k < m+1→l[k].msg.id < id from fun k h hk=>by have:=HLT.out k h (by omega);omega)
    clear hlo2
    go_wp2_with fail
    refine (HLL.out _).mono ?_
    rintro e w1 ⟨rfl,hb1⟩
    have HB1:=LH (hb.out.trans (hb1.mono hb.out.size))
    clear hb1 hb d0 d1 d2 d3 d4 d5 d6
    go_wp2_with fail
    go_roundg (q - (m+1))
    case measure=>omega
    case rel=>exact ⟨m+1,q,by omega,hqn,rfl,by go_num,rfl,HLO,hhi,HB1⟩
   ·have c4:¬ c < 0:=by rw [HCC.out];omega
    have HHI:=LH (show ∀ k (h:k < l.length),m≤k→id≤l[k].msg.id from fun k h hk=>by have:=HGE.out k h hk;omega)
    clear hlo2
    go_wp2_with fail
    refine (HLL.out _).mono ?_
    rintro e w1 ⟨rfl,hb1⟩
    have HB1:=LH (hb.out.trans (hb1.mono hb.out.size))
    clear hb1 hb d0 d1 d2 d3 d4 d5 d6
    go_wp2_with fail
    go_roundg (m - p)
    case measure=>omega
    case rel=>exact ⟨p,m,by omega,by omega,rfl,rfl,by go_num,hlo,HHI,HB1⟩
  ·obtain rfl:p=q:=by omega
   have hlt':¬ (p:Int) < (p:Int):=by omega
   by_cases hpn:p < n
   ·have m4:(0:Int)≤(p:Int):=by omega
    have m5:(p:Int) < (n:Int):=by omega
    obtain ⟨bb,off,ha,hcc⟩:=HD.out (by rw [← HN.out];omega)
    subst ha
    have hkl:p < pl.length:=by rw [← HN.out];exact hpn
    have hkl2:p < l.length:=by rw [HLN.out];exact hkl
    have h1:=(hcc p hkl).keep hb.out
    have hs1:=HS.out pl[p] (List.getElem_mem hkl)
    have HSM:=LH (HU.out.2 l[p] (List.getElem_mem hkl2))
    have HR:=HE2.out p _ hqn hlo.out hhi.out rfl
    rw [dif_pos hkl2,HGT.out p hkl hkl2] at HR
    rw [HGT.out p hkl hkl2] at HSM
    obtain ⟨x,hx⟩:∃ x,x=pl[p]:=⟨_,rfl⟩
    rw [← hx] at h1 hs1 HSM HR
    clear hx hcc
    obtain ⟨u1,x⟩:=x
    simp only at hs1 HSM HR
    obtain ⟨a1,n1',q1,rfl⟩:=hs1
    obtain ⟨c,hc⟩:∃ c,c=x.msg.id - id:=⟨_,rfl⟩
    have L:=fun w=>find1_any (.slice a1 n1' q1) x id HSM.out HI.out w
    rw [← hc] at L
    have HLL:=LH L
    have HRR:=LH (show R=(p,c == 0) by rw [HR,hc];congr 1;rw [Bool.eq_iff_iff];simp only [beq_iff_eq];omega)
    clear L hc HR
    obtain ⟨⟨xi,xg,xt,xk,xb⟩,xm,xf⟩:=x
    simp only [wtVal] at HLL
    simp only [WtAt] at h1
    obtain ⟨⟨d0,d1,d2,d3⟩,d4,d5,d6⟩:=h1
    go_wp2_with fail
    refine (HLL.out _).mono ?_
    rintro e w1 ⟨rfl,hb1⟩
    have HB1:=LH (hb.out.trans (hb1.mono hb.out.size))
    clear hb1 hb d0 d1 d2 d3 d4 d5 d6
    go_wp2_with fail
    go_ret2
    exact ⟨by rw [HRR.out];rfl,HB1.out⟩
   ·obtain rfl:p=n:=by omega
    have HR:=HE2.out p _ hqn hlo.out hhi.out rfl
    rw [dif_neg (by rw [HLN.out,← HN.out];omega)] at HR
    have HRR:=LH HR
    clear HR
    go_wp2_with fail
    go_ret2
    exact ⟨by rw [HRR.out];rfl,hb.out⟩
end Go.Proofs.YtdfmcgekfogpbabGreatDoor
