/-
  Proved here: Plain: what is read of a model is what is read of the topics that it s stream.asked, Fetch, Committed, End. No condition but that the topics  keep.Trim where something may be let go. No condition but that the top
-/
import Derived.Test.YtdfmcgekfogpbabGreatDoorY15
import Derived.Test.YtdfmcgekfogpbabGreatDoorY20
import Derived.Lib.MinMax
set_option maxRecDepth 100000
set_option maxRecDepth 100000
namespace Go.Proofs.YtdfmcgekfogpbabGreatDoor
open Go.RowKit
theorem askM_str {m:Mdl} (hm:mayM m) (n:Int):askS (streamM m) n=askM m n:=by
 rw [askS,askM,if_pos (mayM_str hm),if_pos hm]
theorem topN_str {m:Mdl} {n:Int} (hm:mayM m) (h0:0≤n) (h1:n < 4):topN (streamM m) n=topM (plN m n):=by
 have:=hm.1.1
 exact getD_map_top (by omega)
theorem preP_find {p:Pl} (h:∀ i,i < p.all.length→entAt p i) {o:Int} (h0:0≤o):∀ k,k≤p.all.length →
  (preP p k).find? (fun x=>x.off == o)=if o.toNat < k∧keptI p o.toNat=true then some (p.all.getD o.toNat default) else none
 |0,_=>by rw [if_neg (show ¬ (o.toNat < 0∧keptI p o.toNat=true) from fun hh=>absurd hh.1 (Nat.not_lt_zero _))];rfl
 |k+1,hk=>by
  have ih:=preP_find h h0 k (by omega)
  have ho:=(h k (by omega)).1
  have hone:o.toNat≠k→[p.all.getD k default].find? (fun x=>x.off == o)=none:=fun hne=>by
   rw [List.find?_cons_of_neg,List.find?_nil]
   rw [ho,beq_iff_eq]
   omega
  rw [preP,List.find?_append,ih]
  have P1:∀ q,o.toNat < q∧keptI p o.toNat=true→(if o.toNat < q∧keptI p o.toNat=true then some (p.all.getD o.toNat default) else none)=some (p.all.getD o.toNat default):=fun q hq=>if_pos hq
  have N1:∀ q,¬ (o.toNat < q∧keptI p o.toNat=true)→(if o.toNat < q∧keptI p o.toNat=true then some (p.all.getD o.toNat default) else none)=none:=fun q hq=>if_neg hq
  by_cases hok:o.toNat < k
  ·by_cases hkp:keptI p o.toNat=true
   ·rw [P1 k ⟨hok,hkp⟩,P1 (k+1) ⟨by omega,hkp⟩];rfl
   ·rw [N1 k (fun hh=>hkp hh.2),N1 (k+1) (fun hh=>hkp hh.2)]
    split
    ·exact hone (by omega)
    ·rfl
  ·rw [N1 k (fun hh=>hok hh.1)]
   by_cases hoe:o.toNat=k
   ·by_cases hkp:keptI p k=true
    ·rw [P1 (k+1) ⟨by omega,by rw [hoe];exact hkp⟩,if_pos hkp,List.find?_cons_of_pos (by rw [ho,beq_iff_eq];omega),hoe];rfl
    ·rw [N1 (k+1) (fun hh=>hkp (by rw [← hoe];exact hh.2)),if_neg hkp];rfl
   ·rw [N1 (k+1) (fun hh=>absurd hh.1 (by omega))]
    split
    ·exact hone hoe
    ·rfl
theorem fetchL_top {p:Pl} (h:shapedP p) (hl:(entP p).length≤200) (o:Int):fetchP (topM p) o=fetchL p o:=by
 have hmay:=(topM_may h).2 hl
 rw [fetchP,if_pos hmay,fetchL]
 by_cases h0:o < 0
 ·rw [if_pos h0,if_pos h0]
 rw [if_neg h0,if_neg h0]
 by_cases h1:(p.all.length:Int)≤o
 ·rw [if_pos (show (topM p).next≤o from h1),if_pos h1]
 rw [if_neg (show ¬ (topM p).next≤o from h1),if_neg h1]
 by_cases h2:o < p.base
 ·rw [if_pos (show o < (topM p).base from h2),if_pos h2]
 rw [if_neg (show ¬ o < (topM p).base from h2),if_neg h2]
 have hf:=preP_find h.1 (o:=o) (by omega) p.all.length (Nat.le_refl _)
 rw [preP_all] at hf
 rw [show (topM p).ents=entP p from rfl,hf]
 by_cases hk:keptI p o.toNat=true
 ·rw [if_pos ⟨by omega,hk⟩,if_pos hk]
 ·rw [if_neg (fun hh=>hk hh.2),if_neg hk]
theorem fetchM_str {m:Mdl} (hm:mayM m) (n o:Int):fetchS (streamM m) n o=fetchM m n o:=by
 rw [fetchS,fetchM,askM_str hm]
 by_cases ha:askM m n=0
 ·obtain ⟨_,h0,h1⟩:=askM_zero.1 ha
  have hp:=hm.1.2 _ (plN_mem hm h0 h1)
  rw [if_pos ha,if_pos ha,topN_str hm h0 h1,fetchL_top hp.1 hp.2]
 ·rw [if_neg ha,if_neg ha]
theorem endM_str {m:Mdl} (hm:mayM m) (n:Int):endS (streamM m) n=endM m n:=by
 rw [endS,endM,askM_str hm]
 by_cases ha:askM m n=0
 ·obtain ⟨_,h0,h1⟩:=askM_zero.1 ha
  rw [if_pos ha,if_pos ha,topN_str hm h0 h1]
  rfl
 ·rw [if_neg ha,if_neg ha]
theorem farM_str {m:Mdl} (hm:mayM m) (n k:Int):farS (streamM m) n k=farM m n k:=by
 rw [farS,farM,if_pos (mayM_str hm),if_pos hm]
 have e:(streamM m).coms=m.coms:=rfl
 rw [e]
 by_cases h:(0≤n∧n < 4)∧0≤k∧k < 8
 ·rw [if_pos h,askC_yes hm.2.1 h.1.1 h.1.2 h.2.1 h.2.2,if_pos rfl]
 ·have ha:askC m.coms n k=2:=by
   unfold askC
   rw [if_pos hm.2.1,if_neg (fun hh=>h (by simp [inTW] at hh;omega))]
  rw [if_neg h,ha,if_neg (by decide)]
theorem shaped_pair {p:Pl} (h:shapedP p):risesS p.all:=by
 rw [risesS,List.pairwise_iff_getElem]
 intro i j hi hj hij
 have h1:=(h.1 i hi).1
 have h2:=(h.1 j hj).1
 rw [getD_at hi] at h1
 rw [getD_at hj] at h2
 omega
theorem keep_from {n b:Int}:∀ {l:List Ent},risesS l→keepF n (fromE b l)=fromE b (keepF n l)
 |[],_=>rfl
 |x :: l,h=>by
  have hr:risesS l:=(List.pairwise_cons.1 h).2
  have hx:∀ y∈l,x.off < y.off:=(List.pairwise_cons.1 h).1
  by_cases hb:b≤x.off
  ·rw [fromE_all (l:=x :: l) (fun y hy=>by
    rcases List.mem_cons.1 hy with rfl|hy
    ·exact hb
    ·have:=hx y hy;omega)]
   rw [fromE_all (fun y hy=>by
    have hy2:=(keepF_sub n (x :: l)).mem hy
    rcases List.mem_cons.1 hy2 with rfl|hy2
    ·exact hb
    ·have:=hx y hy2;omega)]
  ·have e1:fromE b (x :: l)=fromE b l:=by simp [fromE,hb]
   rw [e1,keep_from hr]
   by_cases hk:x.off < n∧hasL n x.key l=true
   ·rw [keepF_skip hk.1 hk.2]
   ·rw [keepF_keep hk]
    simp [fromE,hb]
theorem keepF_snoc {n:Int} {x:Ent} (hx:n≤x.off):∀ l:List Ent,keepF n (l++[x])=keepF n l++[x]
 |[]=>by
  rw [List.nil_append,keepF_keep (by rintro ⟨h,_⟩;omega)]
  rfl
 |y :: l=>by
  have hh:hasL n y.key (l++[x])=hasL n y.key l:=by
   have:¬ x.off < n:=by omega
   simp [hasL,this]
  rw [List.cons_append]
  by_cases hk:y.off < n∧hasL n y.key l=true
  ·rw [keepF_skip hk.1 (by rw [hh];exact hk.2),keepF_skip hk.1 hk.2,keepF_snoc hx l]
  ·rw [keepF_keep (by rw [hh];exact hk),keepF_keep hk,keepF_snoc hx l]
   rfl
theorem topM_add {p:Pl} (h:shapedP p) (id:Int) (k b:ByteArray) :
  topM ⟨p.all++[⟨(p.all.length:Int),id,k,b⟩],p.base,p.mark⟩=addT (topM p) id k b:=by
 obtain ⟨h1,h2,⟨h3,h4⟩,h5,h6⟩:=h
 unfold topM addT entP
 simp only [Top.mk.injEq,true_and]
 refine ⟨by simp,?_⟩
 rw [keepF_snoc (by exact h6),fromE_append,fromE_all (l:=[_]) (fun y hy=>by rw [List.mem_singleton.1 hy];exact h4)]
theorem topM_trim {p:Pl} (n:Int):topM ⟨p.all,max p.base (min n (p.all.length:Int)),p.mark⟩=⟨trimTo (topM p) n,(topM p).next,(topM p).mark,fromE (trimTo (topM p) n) (topM p).ents⟩:=by
 have e:trimTo (topM p) n=max p.base (min n (p.all.length:Int)):=rfl
 rw [e]
 unfold topM entP
 simp only
 rw [from_from (by omega)]
theorem topM_comp {p:Pl} (h:shapedP p) (n:Int):topM ⟨p.all,p.base,max p.mark (min n (p.all.length:Int))⟩=compT (topM p) n:=by
 have e:markC (topM p) n=max p.mark (min n (p.all.length:Int)):=rfl
 unfold compT
 rw [e]
 unfold topM entP
 simp only
 rw [keep_from ((shaped_pair h).sublist (keepF_sub _ _)),keep_keep (by omega)]
theorem map_set_top {l:List Pl} {i:Nat} {p:Pl}:(l.set i p).map topM=(l.map topM).set i (topM p):=by rw [List.map_set]
theorem putM_str {m u:Mdl} {id topic n e:Int} {k b:ByteArray} (hm:mayM m) (hfull:0≤topic→topic < 4→(plN m topic).all.length≠600) (h:putM m id topic k b=(u,n,e)) :
  putS (streamM m) id topic k b=(if e=0 then streamM u else Str.zero,n,e)∧(e=0→mayM u):=by
 have hS:=mayM_str hm
 rw [putM] at h
 rw [putS,askM_str hm]
 by_cases ha:askM m topic=0
 ·obtain ⟨_,h0,h1⟩:=askM_zero.1 ha
  have hpm:=plN_mem hm h0 h1
  obtain ⟨hp1,hp2⟩:=hm.1.2 _ hpm
  have hmay:=(topM_may hp1).2 hp2
  have hf:=hfull h0 h1
  have hl6:=hp1.2.1
  rw [if_pos ha] at h
  rw [if_pos ha,topN_str hm h0 h1,addP,if_pos hmay]
  by_cases c1:id < 0∨6291456≤id
  ·rw [if_pos c1] at h;cases h
   rw [if_pos c1]
   exact ⟨rfl,fun h=>by cases h⟩
  rw [if_neg c1] at h
  rw [if_neg c1]
  by_cases c2:16 < k.size∨64 < b.size
  ·rw [if_pos c2] at h;cases h
   rw [if_pos c2]
   exact ⟨rfl,fun h=>by cases h⟩
  rw [if_neg c2] at h
  rw [if_neg c2]
  by_cases c3:(entP (plN m topic)).length=200
  ·rw [if_pos (Or.inr c3)] at h;cases h
   rw [if_pos (Or.inr (show (topM (plN m topic)).ents.length=200 from c3))]
   exact ⟨rfl,fun h=>by cases h⟩
  have c4:¬ ((plN m topic).all.length=600∨(entP (plN m topic)).length=200):=fun hh=>hh.elim hf c3
  rw [if_neg c4] at h
  cases h
  have c5:¬ ((topM (plN m topic)).next=1073741824∨(topM (plN m topic)).ents.length=200):=by
   rintro (hh|hh)
   ·have:((plN m topic).all.length:Int)=1073741824:=hh
    omega
   ·exact c3 hh
  rw [if_neg c5]
  have hadd:=topM_add hp1 id k b
  have e1:(⟨(topM (plN m topic)).base,(topM (plN m topic)).next+1,(topM (plN m topic)).mark,(topM (plN m topic)).ents++[⟨(topM (plN m topic)).next,id,k,b⟩]⟩:Top)=addT (topM (plN m topic)) id k b:=rfl
  have e2:streamM ⟨m.tops.set topic.toNat ⟨(plN m topic).all++[⟨((plN m topic).all.length:Int),id,k,b⟩],(plN m topic).base,(plN m topic).mark⟩,m.coms⟩=⟨(streamM m).tops.set topic.toNat (addT (topM (plN m topic)) id k b),(streamM m).coms⟩:=by
   show (⟨_,_⟩:Str)=_
   rw [map_set_top,hadd];rfl
  refine ⟨?_,fun _=>?_⟩
  ·rw [e1,if_pos rfl,if_pos rfl,e2]
   rfl
  ·refine (mayM_iff (fun p hp=>?_)).1 ?_
   ·rcases List.mem_or_eq_of_mem_set hp with hp|rfl
    ·exact mayM_shaped hm p hp
    ·obtain ⟨s1,s2,⟨s3,s4⟩,s5,s6⟩:=hp1
     refine ⟨fun i hi=>?_,by show (_++[_]).length≤600;simp;omega,⟨s3,by show (plN m topic).base≤((_++[_]).length:Int);simp;omega⟩,s5,by show (plN m topic).mark≤((_++[_]).length:Int);simp;omega⟩
     have hi':i < (plN m topic).all.length+1:=by simpa using hi
     unfold entAt
     simp only
     by_cases hil:i < (plN m topic).all.length
     ·rw [Top.getD_pre hil]
      exact s1 i hil
     ·obtain rfl:i=(plN m topic).all.length:=by omega
      rw [Top.getD_mid]
      exact ⟨rfl,by show (0:Int)≤id;omega,by show id < 6291456;omega,by show k.size≤16;omega,by show b.size≤64;omega⟩
   ·rw [e2]
    refine may_set hS (add_may hmay (by omega) (fun hh=>c5 (Or.inl hh)) (fun hh=>c5 (Or.inr hh))) ?_
    rw [show (streamM m).tops.getD topic.toNat default=topM (plN m topic) from topN_str hm h0 h1]
    show (topM (plN m topic)).next≤(topM (plN m topic)).next+1
    omega
 ·rw [if_neg ha] at h
  cases h
  rw [if_neg ha]
  rw [if_neg ha]
  exact ⟨rfl,fun h=>absurd h ha⟩
theorem doM_str {m u:Mdl} {kind topic who n e:Int} (hm:mayM m) (h:doM m kind topic who n=(u,e)) :
  doS (streamM m) kind topic who n=(if e=0 then streamM u else Str.zero,e)∧(e=0→mayM u):=by
 have hS:=mayM_str hm
 rw [doM,if_pos hm] at h
 by_cases hr:rightD kind topic who n
 ·rw [if_neg (fun hh=>hh hr)] at h
  obtain ⟨hk,⟨h0,h1⟩,h2,h3⟩:=id hr
  have ha:askS (streamM m) topic=0:=askS_zero.2 ⟨hS,h0,h1⟩
  have hpm:=plN_mem hm h0 h1
  obtain ⟨hp1,hp2⟩:=hm.1.2 _ hpm
  have hmay:=(topM_may hp1).2 hp2
  have hnb:¬ (n < 0∨1073741824 < n):=by omega
  obtain ⟨s1,s2,⟨s3,s4⟩,s5,s6⟩:=id hp1
  have hmem:∀ (q:Pl),shapedP q→∀ p∈(⟨m.tops.set topic.toNat q,m.coms⟩:Mdl).tops,shapedP p:=fun q hq p hp=>by
   rcases List.mem_or_eq_of_mem_set hp with hp|rfl
   ·exact mayM_shaped hm p hp
   ·exact hq
  have hst:∀ (q:Pl),streamM ⟨m.tops.set topic.toNat q,m.coms⟩=⟨(streamM m).tops.set topic.toNat (topM q),(streamM m).coms⟩:=fun q=>by
   show (⟨_,_⟩:Str)=_
   rw [map_set_top];rfl
  have hset:∀ (q:Pl),shapedP q→(topM q).may→(topM (plN m topic)).next≤(topM q).next→mayM ⟨m.tops.set topic.toNat q,m.coms⟩:=fun q hq hqm hn=>by
   refine (mayM_iff (hmem q hq)).1 ?_
   rw [hst]
   refine may_set hS hqm ?_
   rw [show (streamM m).tops.getD topic.toNat default=topM (plN m topic) from topN_str hm h0 h1]
   exact hn
  rw [doS,if_pos ha,topN_str hm h0 h1]
  by_cases k4:kind=4
  ·rw [if_pos k4] at h
   rw [if_pos k4,commitS,if_neg (by omega),topN_str hm h0 h1]
   by_cases hn:((plN m topic).all.length:Int) < n
   ·rw [if_pos hn] at h;cases h
    rw [if_pos (show (topM (plN m topic)).next < n from hn)]
    exact ⟨rfl,fun h=>by cases h⟩
   ·rw [if_neg hn] at h;cases h
    rw [if_neg (show ¬ (topM (plN m topic)).next < n from hn)]
    refine ⟨rfl,fun _=>(mayM_iff (m:=⟨m.tops,setC m.coms topic who n⟩) (mayM_shaped (m:=m) hm)).1 ?_⟩
    have hc:=may_com (s:=streamM m) (i:=topic.toNat) (who:=who) (n:=n) hS (by omega) (by omega) (by omega) h2 h3 (by
     rw [show (streamM m).tops.getD topic.toNat default=topM (plN m topic) from topN_str hm h0 h1]
     show n≤((plN m topic).all.length:Int)
     omega)
    rw [show ((topic.toNat:Nat):Int)=topic by omega] at hc
    exact hc
  ·rw [if_neg k4] at h
   rw [if_neg k4]
   by_cases k5:kind=5
   ·rw [if_pos k5] at h;cases h
    have ht:=topM_trim (p:=plN m topic) n
    rw [if_pos k5,trimP_yes hmay hnb,turnS,if_pos rfl,← ht]
    refine ⟨by rw [if_pos rfl,hst],fun _=>hset _ ⟨s1,s2,⟨by show 0≤max _ _;omega,by show max (plN m topic).base (min n ((plN m topic).all.length:Int))≤((plN m topic).all.length:Int);omega⟩,s5,s6⟩ ?_ (Int.le_refl _)⟩
    rw [ht]
    exact trim_may hmay h2
   ·have k6:kind=6:=by omega
    rw [if_neg k5] at h;cases h
    have ht:=topM_comp hp1 n
    rw [if_neg k5,if_pos k6,compactP_T hmay hnb,turnS,if_pos rfl,← ht]
    refine ⟨by rw [if_pos rfl,hst],fun _=>hset _ ⟨s1,s2,⟨s3,s4⟩,by show 0≤max _ _;omega,by show max (plN m topic).mark (min n ((plN m topic).all.length:Int))≤((plN m topic).all.length:Int);omega⟩ ?_ (Int.le_refl _)⟩
    rw [ht]
    exact comp_may n hmay
 ·rw [if_pos hr] at h;cases h
  rw [doS_no hS hr]
  exact ⟨rfl,fun h=>by cases h⟩
theorem strAsked_any {v:Value} {s:Str} {w:World} {c:Int} (n:Int) (h:StrR w v s) (hk:strKeys s) (hc:askS s n=c) :
  Calls Tryz.prog 31 #[v,.int .i64 n] w fun e w'=>e=.returned (.int .i64 c)∧Below w.heap.size w w':=by
 have HS:=LH h
 have HK:=LH hk
 obtain ⟨a,cap,b,nc,cc,rfl,_,_⟩:=h.shape
 obtain ⟨d,hd⟩:∃ d:Int,d=if mayS s then 0 else 8:=⟨_,rfl⟩
 have HD:=LH hd
 have hall:(d=8∧c=8)∨(d=0∧((n < 0∧c=2)∨(0≤n∧4≤n∧c=2)∨(0≤n∧n < 4∧c=0))):=by
  subst hc
  unfold askS
  by_cases hm:mayS s
  ·rw [if_pos hm] at hd ⊢
   refine Or.inr ⟨hd,?_⟩
   split <;> omega
  ·rw [if_neg hm] at hd ⊢
   exact Or.inl ⟨hd,rfl⟩
 clear h hk hc hd
 obtain ⟨nt,hnt⟩:∃ nt,nt=s.tops.length:=⟨_,rfl⟩
 rw [← hnt] at HS ⊢
 clear hnt
 rcases hall with ⟨rfl,rfl⟩|⟨rfl,(⟨h1,rfl⟩|⟨h1,h2,rfl⟩|⟨h1,h2,rfl⟩)⟩
 all_goals
  go_enter Tryz.func31,Tryz.ntmps31
  go_wp2_with fail
  refine Calls.mono (strCheck_any ?_ HK.out _ HD.out) ?_
  ·exact HS.out.below (by repeat (first|with_reducible (first|exact Below.refl _ _|apply Below.drew|apply below_alloc)|((first|with_reducible refine Below.alloc ?_ ?_ _|with_reducible refine Below.setCell ?_ ?_ _);rotate_left;focus (first|(simp <;> omega)|omega))))
  rintro e w1 ⟨rfl,hb⟩
  have HB:Hid (Below w.heap.size w _):=below_step (by repeat (first|with_reducible (first|exact Below.refl _ _|apply Below.drew|apply below_alloc)|((first|with_reducible refine Below.alloc ?_ ?_ _|with_reducible refine Below.setCell ?_ ?_ _);rotate_left;focus (first|(simp <;> omega)|omega)))) hb
  clear hb
  go_wp2_with fail
  go_ret
  exact ⟨rfl,HB.out⟩
theorem strEnd_any {v:Value} {s:Str} {w:World} {x y:Int} (n:Int) (h:StrR w v s) (hk:strKeys s) (hu:endS s n=(x,y)) :
  Calls Tryz.prog 13 #[v,.int .i64 n] w fun e w'=>e=.returned (.tuple #[.int .i64 x,.int .i64 y])∧Below w.heap.size w w':=by
 have HS:=LH h
 have HK:=LH hk
 obtain ⟨a,cap,b,nc,cc,rfl,hT,_⟩:=h.shape
 obtain ⟨nt,hnt⟩:∃ nt,nt=s.tops.length:=⟨_,rfl⟩
 rw [← hnt] at HS hT ⊢
 by_cases ha:askS s n=0
 ·rw [endS,if_pos ha] at hu
  cases hu
  have HA:=LH ha
  obtain ⟨hm,h0,h1⟩:=askS_zero.1 ha
  have h4:=hm.1.1
  obtain rfl:nt=4:=by omega
  obtain ⟨⟨-,hcap,hmx⟩,g,off,rfl,ea,ecap,⟨⟨⟨_,c1⟩,_⟩,_⟩,_⟩:=StrR.top hT (i:=n) h0 (by omega)
  obtain ⟨nx,hnx⟩:∃ nx,nx=(topN s n).next:=⟨_,rfl⟩
  rw [show s.tops.getD n.toNat default=topN s n from rfl,← hnx] at c1
  rw [← hnx]
  unfold maxLen at hmx
  clear h hk hT hnt ha hm h4 hnx
  go_enter Tryz.func13,Tryz.ntmps13
  go_wp2_with fail
  refine Calls.mono (strAsked_any n ?_ HK.out HA.out) ?_
  ·exact HS.out.below (by repeat (first|with_reducible (first|exact Below.refl _ _|apply Below.drew|apply below_alloc)|((first|with_reducible refine Below.alloc ?_ ?_ _|with_reducible refine Below.setCell ?_ ?_ _);rotate_left;focus (first|(simp <;> omega)|omega))))
  rintro e w1 ⟨rfl,hb⟩
  have HB:Hid (Below w.heap.size w _):=below_step (by repeat (first|with_reducible (first|exact Below.refl _ _|apply Below.drew|apply below_alloc)|((first|with_reducible refine Below.alloc ?_ ?_ _|with_reducible refine Below.setCell ?_ ?_ _);rotate_left;focus (first|(simp <;> omega)|omega)))) hb
  have P:Blk _ (w.heap.size) _ _:=Blk.step (by repeat (first|((with_reducible apply Blk.new);focus (first|rfl|(simp <;> omega)))|with_reducible (first|apply Blk.drew|apply Blk.alloc|apply Blk.set_)|((with_reducible apply Blk.far);rotate_left;focus (first|(simp <;> omega)|omega)))) hb
  obtain ⟨p0,p1,pz⟩:=cells2 P
  have pl:=Blk.lt P
  have HP:=LH P
  clear P
  have d1:=keep HB.out c1
  clear hb c1
  go_wp2_with fail
  go_ret2
  exact ⟨rfl,HB.out⟩
 ·rw [endS,if_neg ha] at hu
  injection hu with hx hy
  subst hx
  have HA:=LH hy
  have hd:(y != 0)=true:=by rw [← hy];simpa using ha
  clear h hk hT hnt ha hy
  go_enter Tryz.func13,Tryz.ntmps13
  go_wp2_with fail
  refine Calls.mono (strAsked_any n ?_ HK.out HA.out) ?_
  ·exact HS.out.below (by repeat (first|with_reducible (first|exact Below.refl _ _|apply Below.drew|apply below_alloc)|((first|with_reducible refine Below.alloc ?_ ?_ _|with_reducible refine Below.setCell ?_ ?_ _);rotate_left;focus (first|(simp <;> omega)|omega))))
  rintro e w1 ⟨rfl,hb⟩
  have HB:Hid (Below w.heap.size w _):=below_step (by repeat (first|with_reducible (first|exact Below.refl _ _|apply Below.drew|apply below_alloc)|((first|with_reducible refine Below.alloc ?_ ?_ _|with_reducible refine Below.setCell ?_ ?_ _);rotate_left;focus (first|(simp <;> omega)|omega)))) hb
  clear hb
  go_wp2_with fail
  go_ret2
  exact ⟨rfl,HB.out⟩
theorem strFar_any {v:Value} {s:Str} {w:World} {x y:Int} (n k:Int) (h:StrR w v s) (hk:strKeys s) (hu:farS s n k=(x,y)) :
  Calls Tryz.prog 11 #[v,.int .i64 n,.int .i64 k] w fun e w'=>e=.returned (.tuple #[.int .i64 x,.int .i64 y])∧Below w.heap.size w w':=by
 have HS:=LH h
 have HK:=LH hk
 obtain ⟨a,cap,b,nc,cc,rfl,_,hR⟩:=h.shape
 have RR:=LH hR
 obtain ⟨nt,hnt⟩:∃ nt,nt=s.tops.length:=⟨_,rfl⟩
 rw [← hnt] at HS ⊢
 by_cases hm:mayS s
 ·rw [farS,if_pos hm] at hu
  injection hu with hx hy
  have HG:=LH (show ∀ W,RowsR W (.slice b nc cc) s.coms→Calls Tryz.prog 36 #[.slice b nc cc,.int .i64 n,.int .i64 k] W fun e w'=>e=.returned (.tuple #[.int .i64 x,.int .i64 y])∧Below W.heap.size W w' from fun W hW=>by
   have:=get_any n k hW
   rw [hx,hy] at this
   exact this)
  have HM:=LH (show (0:Int)=if mayS s then 0 else 8 by rw [if_pos hm])
  clear h hk hR hnt hm hx hy
  go_enter Tryz.func11,Tryz.ntmps11
  go_wp2_with fail
  refine Calls.mono (strCheck_any ?_ HK.out _ HM.out) ?_
  ·exact HS.out.below (by repeat (first|with_reducible (first|exact Below.refl _ _|apply Below.drew|apply below_alloc)|((first|with_reducible refine Below.alloc ?_ ?_ _|with_reducible refine Below.setCell ?_ ?_ _);rotate_left;focus (first|(simp <;> omega)|omega))))
  rintro e w1 ⟨rfl,hb⟩
  have HB:Hid (Below w.heap.size w _):=below_step (by repeat (first|with_reducible (first|exact Below.refl _ _|apply Below.drew|apply below_alloc)|((first|with_reducible refine Below.alloc ?_ ?_ _|with_reducible refine Below.setCell ?_ ?_ _);rotate_left;focus (first|(simp <;> omega)|omega)))) hb
  have P:Blk _ (w.heap.size) _ _:=Blk.step (by repeat (first|((with_reducible apply Blk.new);focus (first|rfl|(simp <;> omega)))|with_reducible (first|apply Blk.drew|apply Blk.alloc|apply Blk.set_)|((with_reducible apply Blk.far);rotate_left;focus (first|(simp <;> omega)|omega)))) hb
  obtain ⟨p0,p1,pz⟩:=cells2 P
  have pl:=Blk.lt P
  have HP:=LH P
  clear P
  clear hb
  go_wp2_with fail
  refine Calls.mono (HG.out _ (RR.out.below HB.out)) ?_
  rintro e w2 ⟨rfl,hb⟩
  replace HB:Hid (Below w.heap.size w _):=below_step (by repeat (first|with_reducible (first|exact HB.out|exact Below.refl _ _|apply Below.drew|apply below_alloc)|((first|with_reducible refine Below.alloc ?_ ?_ _|with_reducible refine Below.setCell ?_ ?_ _);rotate_left;focus (first|(simp <;> omega)|omega)))) hb
  clear hb
  go_wp2_with fail
  go_ret2
  exact ⟨rfl,HB.out⟩
 ·rw [farS,if_neg hm] at hu
  cases hu
  have HM:=LH (show (8:Int)=if mayS s then 0 else 8 by rw [if_neg hm])
  clear h hk hR hnt hm
  go_enter Tryz.func11,Tryz.ntmps11
  go_wp2_with fail
  refine Calls.mono (strCheck_any ?_ HK.out _ HM.out) ?_
  ·exact HS.out.below (by repeat (first|with_reducible (first|exact Below.refl _ _|apply Below.drew|apply below_alloc)|((first|with_reducible refine Below.alloc ?_ ?_ _|with_reducible refine Below.setCell ?_ ?_ _);rotate_left;focus (first|(simp <;> omega)|omega))))
  rintro e w1 ⟨rfl,hb⟩
  have HB:Hid (Below w.heap.size w _):=below_step (by repeat (first|with_reducible (first|exact Below.refl _ _|apply Below.drew|apply below_alloc)|((first|with_reducible refine Below.alloc ?_ ?_ _|with_reducible refine Below.setCell ?_ ?_ _);rotate_left;focus (first|(simp <;> omega)|omega)))) hb
  clear hb
  go_wp2_with fail
  go_ret2
  exact ⟨rfl,HB.out⟩
set_option maxRecDepth 100000 in
theorem strFetch_any {v:Value} {s:Str} {w:World} {x:Ent} {y:Int} (n o:Int) (h:StrR w v s) (hk:strKeys s) (hu:fetchS s n o=(x,y)) :
  Calls Tryz.prog 9 #[v,.int .i64 n,.int .i64 o] w (EntEnd x y w):=by
 have HS:=LH h
 have HK:=LH hk
 obtain ⟨a,cap,b,nc,cc,rfl,hT,_⟩:=h.shape
 obtain ⟨nt,hnt⟩:∃ nt,nt=s.tops.length:=⟨_,rfl⟩
 rw [← hnt] at HS hT ⊢
 by_cases ha:askS s n=0
 ·rw [fetchS,if_pos ha] at hu
  have HF:=LH hu
  have HA:=LH ha
  obtain ⟨hm,h0,h1⟩:=askS_zero.1 ha
  have h4:=hm.1.1
  have HKT:=LH (hk _ (topN_mem hm h0 h1))
  obtain rfl:nt=4:=by omega
  obtain ⟨⟨-,hcap,hmx⟩,g,off,rfl,hat⟩:=StrR.top hT (i:=n) h0 (by omega)
  rw [show s.tops.getD n.toNat default=topN s n from rfl] at hat
  obtain ⟨t,ht⟩:∃ t,t=topN s n:=⟨_,rfl⟩
  rw [← ht] at hat HF HKT
  unfold maxLen at hmx
  have HAT:=LH hat
  clear h hk hT hnt ha hm h4 hu ht hat
  go_enter Tryz.func9,Tryz.ntmps9
  go_wp2_with fail
  refine Calls.mono (strAsked_any n ?_ HK.out HA.out) ?_
  ·exact HS.out.below (by repeat (first|with_reducible (first|exact Below.refl _ _|apply Below.drew|apply below_alloc)|((first|with_reducible refine Below.alloc ?_ ?_ _|with_reducible refine Below.setCell ?_ ?_ _);rotate_left;focus (first|(simp <;> omega)|omega))))
  rintro e w1 ⟨rfl,hb⟩
  have HB:Hid (Below w.heap.size w _):=below_step (by repeat (first|with_reducible (first|exact Below.refl _ _|apply Below.drew|apply below_alloc)|((first|with_reducible refine Below.alloc ?_ ?_ _|with_reducible refine Below.setCell ?_ ?_ _);rotate_left;focus (first|(simp <;> omega)|omega)))) hb
  have P:Blk _ (w.heap.size) _ _:=Blk.step (by repeat (first|((with_reducible apply Blk.new);focus (first|rfl|(simp <;> omega)))|with_reducible (first|apply Blk.drew|apply Blk.alloc|apply Blk.set_)|((with_reducible apply Blk.far);rotate_left;focus (first|(simp <;> omega)|omega)))) hb
  obtain ⟨p0,p1,pz⟩:=cells2 P
  have pl:=Blk.lt P
  have HP:=LH P
  clear P
  have R:Blk _ (w.heap.size+1) _ _:=Blk.step (by repeat (first|((with_reducible apply Blk.new);focus (first|rfl|(simp <;> omega)))|with_reducible (first|apply Blk.drew|apply Blk.alloc|apply Blk.set_)|((with_reducible apply Blk.far);rotate_left;focus (first|(simp <;> omega)|omega)))) hb
  obtain ⟨r0,r1,r2,r3,rz⟩:=cells4 R
  have rl:=Blk.lt R
  have HR:=LH R
  clear R
  obtain ⟨ea,ecap,⟨⟨⟨c0,c1⟩,c2⟩,c3⟩,hTT⟩:=HAT.out.keep HB.out
  have T:=LH hTT
  clear hb hTT
  go_wp2_with fail
  refine Calls.mono (fetch_any o ?_ HKT.out HF.out) ?_
  ·exact T.out.below (by repeat (first|with_reducible (first|exact Below.refl _ _|apply Below.drew|apply below_alloc)|((first|with_reducible refine Below.alloc ?_ ?_ _|with_reducible refine Below.setCell ?_ ?_ _);rotate_left;focus (first|(simp <;> omega)|omega))))
  rintro e w2 ⟨rfl,hb⟩
  replace HB:Hid (Below w.heap.size w _):=below_step (by repeat (first|with_reducible (first|exact HB.out|exact Below.refl _ _|apply Below.drew|apply below_alloc)|((first|with_reducible refine Below.alloc ?_ ?_ _|with_reducible refine Below.setCell ?_ ?_ _);rotate_left;focus (first|(simp <;> omega)|omega)))) hb
  clear r0 r1 r2 r3 rz rl
  replace HR:Hid (Blk _ (w.heap.size+1) _ _):=Blk.step (by repeat (first|with_reducible exact HR.out|((with_reducible apply Blk.new);focus (first|rfl|(simp <;> omega)))|with_reducible (first|apply Blk.drew|apply Blk.alloc|apply Blk.set_)|((with_reducible apply Blk.far);rotate_left;focus (first|(simp <;> omega)|omega)))) hb
  obtain ⟨r0,r1,r2,r3,rz⟩:=cells4 HR.out
  have rl:=Blk.lt HR.out
  clear hb
  go_wp2_with fail
  refine bodyPost_ret (v:=.tuple #[.agg #[.int .i64 x.off,.int .i64 x.id,.string x.key,.string x.body],.int .i64 y]) (by simp [results,Tryz.results9,go_sem,r0,r1,r2,r3]) rfl ⟨rfl,?_⟩
  repeat (first|with_reducible (first|exact HB.out|exact Below.refl _ _|apply Below.drew|apply below_alloc)|((first|with_reducible refine Below.alloc ?_ ?_ _|with_reducible refine Below.setCell ?_ ?_ _);rotate_left;focus (first|(simp <;> omega)|omega)))
 ·rw [fetchS,if_neg ha] at hu
  injection hu with hx hy
  subst hx
  have HA:=LH hy
  have hd:(y != 0)=true:=by rw [← hy];simpa using ha
  clear h hk hT hnt ha hy
  go_enter Tryz.func9,Tryz.ntmps9
  go_wp2_with fail
  refine Calls.mono (strAsked_any n ?_ HK.out HA.out) ?_
  ·exact HS.out.below (by repeat (first|with_reducible (first|exact Below.refl _ _|apply Below.drew|apply below_alloc)|((first|with_reducible refine Below.alloc ?_ ?_ _|with_reducible refine Below.setCell ?_ ?_ _);rotate_left;focus (first|(simp <;> omega)|omega))))
  rintro e w1 ⟨rfl,hb⟩
  have HB:Hid (Below w.heap.size w _):=below_step (by repeat (first|with_reducible (first|exact Below.refl _ _|apply Below.drew|apply below_alloc)|((first|with_reducible refine Below.alloc ?_ ?_ _|with_reducible refine Below.setCell ?_ ?_ _);rotate_left;focus (first|(simp <;> omega)|omega)))) hb
  have R:Blk _ (w.heap.size+1) _ _:=Blk.step (by repeat (first|((with_reducible apply Blk.new);focus (first|rfl|(simp <;> omega)))|with_reducible (first|apply Blk.drew|apply Blk.alloc|apply Blk.set_)|((with_reducible apply Blk.far);rotate_left;focus (first|(simp <;> omega)|omega)))) hb
  obtain ⟨r0,r1,r2,r3,rz⟩:=cells4 R
  have rl:=Blk.lt R
  have HR:=LH R
  clear R
  clear hb
  go_wp2_with fail
  refine bodyPost_ret (v:=.tuple #[.agg #[.int .i64 0,.int .i64 0,.string ⟨#[]⟩,.string ⟨#[]⟩],.int .i64 y]) (by simp [results,Tryz.results9,go_sem,r0,r1,r2,r3]) rfl ⟨rfl,?_⟩
  repeat (first|with_reducible (first|exact HB.out|exact Below.refl _ _|apply Below.drew|apply below_alloc)|((first|with_reducible refine Below.alloc ?_ ?_ _|with_reducible refine Below.setCell ?_ ?_ _);rotate_left;focus (first|(simp <;> omega)|omega)))
def TrimEnd (t:Top) (tq:Int) (w:World) (e:Ending) (w':World):Prop :=
 ∃ a cap,e=.returned (.tuple #[.agg #[.int .i64 (trimTo t tq),.int .i64 t.next,.int .i64 t.mark,.slice a (fromE (trimTo t tq) t.ents).length cap],.int .i64 0]) ∧
  OwnE w' w.heap.size (.slice a (fromE (trimTo t tq) t.ents).length cap) (fromE (trimTo t tq) t.ents)∧Below w.heap.size w w'
set_option maxHeartbeats 2000000 in
set_option maxRecDepth 100000 in
theorem trim_yes {v:Value} {t:Top} {w:World} (tq:Int) (h:TopR w v t) (hk:∀ x∈t.ents,x.key.size≤maxLen) (hm:t.may) (h1:0≤tq) (h2:tq≤1073741824) :
  Calls Tryz.prog 128 #[v,.int .i64 tq] w (TrimEnd t tq w):=by
 have hb0:∀ o o':Obj,Below w.heap.size w ((w.alloc o).alloc o'):=fun o o'=>((Below.refl _ _).alloc (Nat.le_refl _) o).alloc (by simp) o'
 have K:=fun (o o':Obj)=>check_yes (h.below (hb0 o o')) hk hm
 have HK:=LH K
 have HB:=LH hb0
 have HT:=LH h
 have HL:=LH (show t.ents.length≤1000000 by have:=hm.1.2.2.2.2.2.2;omega)
 obtain ⟨a,cap,rfl,_⟩:=h
 have HRI:=LH (may_rises hm)
 clear K hb0 hk hm
 go_enter Tryz.func128,Tryz.ntmps128
 go_wp2_with fail
 refine (HK.out _ _).mono ?_
 rintro e w2 ⟨rfl,hb⟩
 have s2:w.heap.size+2≤w2.heap.size:=by have:=(hb).size;first|omega|(simp at this;omega)
 have HB2:Hid (Below w.heap.size w _):=below_step (by repeat (first|with_reducible (first|exact Below.refl _ _|apply Below.drew|apply below_alloc)|((first|with_reducible refine Below.alloc ?_ ?_ _|with_reducible refine Below.setCell ?_ ?_ _);rotate_left;focus (first|(simp <;> omega)|omega)))) hb
 have A2:Blk _ (w.heap.size) _ _:=Blk.step (by repeat (first|((with_reducible apply Blk.new);focus (first|rfl|(simp <;> omega)))|with_reducible (first|apply Blk.drew|apply Blk.alloc|apply Blk.set_)|((with_reducible apply Blk.far);rotate_left;focus (first|(simp <;> omega)|omega)))) hb
 obtain ⟨a20,a21,a22,a23,a2z⟩:=cells4 A2
 have a2l:=Blk.lt A2
 have HA2:=LH A2
 clear A2
 have R2:Blk _ (w.heap.size+1) _ _:=Blk.step (by repeat (first|((with_reducible apply Blk.new);focus (first|rfl|(simp <;> omega)))|with_reducible (first|apply Blk.drew|apply Blk.alloc|apply Blk.set_)|((with_reducible apply Blk.far);rotate_left;focus (first|(simp <;> omega)|omega)))) hb
 obtain ⟨r20,r21,r22,r23,r2z⟩:=cells4 R2
 have r2l:=Blk.lt R2
 have HR2:=LH R2
 clear R2
 clear hb
 go_wp2_with fail
 refine (topTwin_any (HT.out.below HB2.out) HL.out).mono ?_
 rintro e w3 ⟨a3,cap3,rfl,o3,hb⟩
 have s3:w2.heap.size≤w3.heap.size:=by have:=(hb).size;first|omega|(simp at this;omega)
 have HB3:Hid (Below w.heap.size w _):=below_step (by repeat (first|with_reducible (first|exact HB2.out|exact Below.refl _ _|apply Below.drew|apply below_alloc)|((first|with_reducible refine Below.alloc ?_ ?_ _|with_reducible refine Below.setCell ?_ ?_ _);rotate_left;focus (first|(simp <;> omega)|omega)))) hb
 have A3:Blk _ (w.heap.size) _ _:=Blk.step (by repeat (first|with_reducible exact HA2.out|((with_reducible apply Blk.new);focus (first|rfl|(simp <;> omega)))|with_reducible (first|apply Blk.drew|apply Blk.alloc|apply Blk.set_)|((with_reducible apply Blk.far);rotate_left;focus (first|(simp <;> omega)|omega)))) hb
 try simp only [List.set_cons_zero,List.set_cons_succ] at A3
 obtain ⟨a30,a31,a32,a33,a3z⟩:=cells4 A3
 have a3l:=Blk.lt A3
 have HA3:=LH A3
 clear A3
 have R3:Blk _ (w.heap.size+1) _ _:=Blk.step (by repeat (first|with_reducible exact HR2.out|((with_reducible apply Blk.new);focus (first|rfl|(simp <;> omega)))|with_reducible (first|apply Blk.drew|apply Blk.alloc|apply Blk.set_)|((with_reducible apply Blk.far);rotate_left;focus (first|(simp <;> omega)|omega)))) hb
 try simp only [List.set_cons_zero,List.set_cons_succ] at R3
 obtain ⟨r30,r31,r32,r33,r3z⟩:=cells4 R3
 have r3l:=Blk.lt R3
 have HR3:=LH R3
 clear R3
 have O3:=LH o3
 clear hb o3
 go_wp2_with fail
 refine at_world (C:=fun W=>Hid (OwnE W w2.heap.size (.slice a3 t.ents.length cap3) t.ents)) (by refine LH ?_;show OwnE _ w2.heap.size (.slice a3 t.ents.length cap3) t.ents;repeat (first|with_reducible (first|exact O3.out|apply own_drew|apply own_alloc)|((with_reducible apply own_set);rotate_left;focus (first|(simp <;> omega)|omega)))) (fun O4=>?_)
 refine (idx18_any O4.out.reads w.heap.size (trimTo t tq) (by go_simp;rfl)).mono ?_
 rintro e w5 ⟨⟨i,rfl,hi⟩,hb⟩
 have s5:w3.heap.size≤w5.heap.size:=by have:=(hb).size;first|omega|(simp at this;omega)
 have HB5:Hid (Below w.heap.size w _):=below_step (by repeat (first|with_reducible (first|exact HB3.out|exact Below.refl _ _|apply Below.drew|apply below_alloc)|((first|with_reducible refine Below.alloc ?_ ?_ _|with_reducible refine Below.setCell ?_ ?_ _);rotate_left;focus (first|(simp <;> omega)|omega)))) hb
 have A5:Blk _ (w.heap.size) _ _:=Blk.step (by repeat (first|with_reducible exact HA3.out|((with_reducible apply Blk.new);focus (first|rfl|(simp <;> omega)))|with_reducible (first|apply Blk.drew|apply Blk.alloc|apply Blk.set_)|((with_reducible apply Blk.far);rotate_left;focus (first|(simp <;> omega)|omega)))) hb
 try simp only [List.set_cons_zero,List.set_cons_succ] at A5
 obtain ⟨a50,a51,a52,a53,a5z⟩:=cells4 A5
 have a5l:=Blk.lt A5
 have HA5:=LH A5
 clear A5
 have R5:Blk _ (w.heap.size+1) _ _:=Blk.step (by repeat (first|with_reducible exact HR3.out|((with_reducible apply Blk.new);focus (first|rfl|(simp <;> omega)))|with_reducible (first|apply Blk.drew|apply Blk.alloc|apply Blk.set_)|((with_reducible apply Blk.far);rotate_left;focus (first|(simp <;> omega)|omega)))) hb
 try simp only [List.set_cons_zero,List.set_cons_succ] at R5
 obtain ⟨r50,r51,r52,r53,r5z⟩:=cells4 R5
 have r5l:=Blk.lt R5
 have HR5:=LH R5
 clear R5
 have S5:=LH (O4.out.reads.below entCells_len hb)
 have HI:=LH hi
 clear hb hi
 have cut:∃ k:Nat,k≤t.ents.length∧t.ents.drop k=fromE (trimTo t tq) t.ents∧((i < 0∧k=t.ents.length)∨(0≤i∧i=(k:Int))):=by
  have h0:=drop_from HRI.out HI.out
  by_cases i0:i < 0
  ·rw [if_pos i0] at h0
   exact ⟨_,Nat.le_refl _,h0,Or.inl ⟨i0,rfl⟩⟩
  ·rw [if_neg i0] at h0
   refine ⟨i.toNat,?_,h0,Or.inr ⟨by omega,by omega⟩⟩
   rcases HI.out with ⟨h,_⟩|⟨k,hk,h,_⟩ <;> omega
 obtain ⟨k,hk,hd,hi⟩:=cut
 obtain ⟨A',hsl,S6⟩:=slice_from S5.out k hk
 rw [hd] at S6
 have HLF:=LH (show (fromE (trimTo t tq) t.ents).length≤1000000 from Nat.le_trans (fromE_len _ _) HL.out)
 have HD:=LH hd
 have H6:=LH S6
 have HKL:=LH hk
 clear hd S6 hk
 rcases hi with ⟨i0,rfl⟩|⟨i0,rfl⟩
 all_goals
  go_wp2_with fail
  refine (clone_any (l:=fromE (trimTo t tq) t.ents) (by first|exact H6.out|(have h:=H6.out;rw [Nat.sub_self] at h;exact h)) HLF.out).mono ?_
  rintro e w6 ⟨a6,cap6,rfl,o6,hb⟩
  have s6:w5.heap.size≤w6.heap.size:=by have:=(hb).size;first|omega|(simp at this;omega)
  have HB6:Hid (Below w.heap.size w _):=below_step (by repeat (first|with_reducible (first|exact HB5.out|exact Below.refl _ _|apply Below.drew|apply below_alloc)|((first|with_reducible refine Below.alloc ?_ ?_ _|with_reducible refine Below.setCell ?_ ?_ _);rotate_left;focus (first|(simp <;> omega)|omega)))) hb
  have A6:Blk _ (w.heap.size) _ _:=Blk.step (by repeat (first|with_reducible exact HA5.out|((with_reducible apply Blk.new);focus (first|rfl|(simp <;> omega)))|with_reducible (first|apply Blk.drew|apply Blk.alloc|apply Blk.set_)|((with_reducible apply Blk.far);rotate_left;focus (first|(simp <;> omega)|omega)))) hb
  try simp only [List.set_cons_zero,List.set_cons_succ] at A6
  obtain ⟨a60,a61,a62,a63,a6z⟩:=cells4 A6
  have a6l:=Blk.lt A6
  have HA6:=LH A6
  clear A6
  have R6:Blk _ (w.heap.size+1) _ _:=Blk.step (by repeat (first|with_reducible exact HR5.out|((with_reducible apply Blk.new);focus (first|rfl|(simp <;> omega)))|with_reducible (first|apply Blk.drew|apply Blk.alloc|apply Blk.set_)|((with_reducible apply Blk.far);rotate_left;focus (first|(simp <;> omega)|omega)))) hb
  try simp only [List.set_cons_zero,List.set_cons_succ] at R6
  obtain ⟨r60,r61,r62,r63,r6z⟩:=cells4 R6
  have r6l:=Blk.lt R6
  have HR6:=LH R6
  clear R6
  have O6:=LH o6
  clear o6 hb
  go_wp2_with fail
  refine bodyPost_ret (v:=.tuple #[.agg #[.int .i64 (trimTo t tq),.int .i64 t.next,.int .i64 t.mark,.slice a6 (fromE (trimTo t tq) t.ents).length cap6],.int .i64 0]) (by simp [results,Tryz.results128,go_sem,r60,r61,r62,r63,trimTo]) rfl ⟨a6,cap6,rfl,?_,?_⟩
  ·refine own_base (B:=w5.heap.size) ?_ (by omega)
   repeat (first|with_reducible (first|exact O6.out|apply own_drew|apply own_alloc)|((with_reducible apply own_set);rotate_left;focus (first|(simp <;> omega)|omega)))
  ·repeat (first|with_reducible (first|exact HB6.out|exact Below.refl _ _|apply Below.drew|apply below_alloc)|((first|with_reducible refine Below.alloc ?_ ?_ _|with_reducible refine Below.setCell ?_ ?_ _);rotate_left;focus (first|(simp <;> omega)|omega)))
theorem trim_any {v:Value} {t u:Top} {w:World} {x:Int} (tq:Int) (h:TopR w v t) (hk:∀ x∈t.ents,x.key.size≤maxLen) (hu:trimP t tq=(u,x)) :
  Calls Tryz.prog 128 #[v,.int .i64 tq] w (TopEnd1 u x w):=by
 by_cases hm:t.may
 ·by_cases ht:tq < 0∨1073741824 < tq
  ·rw [trimP_arg hm ht] at hu
   cases hu
   exact (trim_arg tq h hk hm ht).mono fun _ _ ⟨h1,h2⟩=>topEnd1_zero 2 h1 h2
  ·rw [trimP_yes hm ht] at hu
   cases hu
   exact trim_yes tq h hk hm (by omega) (by omega)
 ·rw [trimP_bad hm] at hu
  cases hu
  exact (trim_bad tq h hk hm).mono fun _ _ ⟨h1,h2⟩=>topEnd1_zero 8 h1 h2
end Go.Proofs.YtdfmcgekfogpbabGreatDoor
