/-
  Proved here: Plain: what is read of a model is what is read of the topics that it s stream.Do.
-/
import Derived.Test.YtkkohllhebdlcaaGreatDoorY18
import Derived.Test.YtkkohllhebdlcaaGreatDoorY20
set_option maxRecDepth 100000
set_option maxRecDepth 100000
namespace Go.Proofs.YtkkohllhebdlcaaGreatDoor
open Go.RowKit
theorem askM_str {m:Mdl} (hm:mayM m) (n:Int):askS (streamM m) n=askM m n:=by
 rw [askS,askM,if_pos (mayM_str hm),if_pos hm]
theorem topN_str {m:Mdl} {n:Int} (hm:mayM m) (h0:0≤n) (h1:n < 4):topN (streamM m) n=topM (plN m n):=by
 have:=hm.1.1
 exact getD_map_top (by omega)
theorem shaped_pair {p:Pl} (h:shapedP p):risesS p.all:=by
 rw [risesS,List.pairwise_iff_getElem]
 intro i j hi hj hij
 have h1:=(h.1 i hi).1
 have h2:=(h.1 j hj).1
 rw [getD_at hi] at h1
 rw [getD_at hj] at h2
 omega
theorem keep_from {n b:Int}:∀ {l:List Ent},risesS l→keepF n (fromE b l)=fromE b (keepF n l)
 |[],_=>rfl
 |x :: l,h=>by
  have hr:risesS l:=(List.pairwise_cons.1 h).2
  have hx:∀ y∈l,x.off < y.off:=(List.pairwise_cons.1 h).1
  by_cases hb:b≤x.off
  ·rw [fromE_all (l:=x :: l) (fun y hy=>by
    rcases List.mem_cons.1 hy with rfl|hy
    ·exact hb
    ·have:=hx y hy;omega)]
   rw [fromE_all (fun y hy=>by
    have hy2:=(keepF_sub n (x :: l)).mem hy
    rcases List.mem_cons.1 hy2 with rfl|hy2
    ·exact hb
    ·have:=hx y hy2;omega)]
  ·have e1:fromE b (x :: l)=fromE b l:=by simp [fromE,hb]
   rw [e1,keep_from hr]
   by_cases hk:x.off < n∧hasL n x.key l=true
   ·rw [keepF_skip hk.1 hk.2]
   ·rw [keepF_keep hk]
    simp [fromE,hb]
theorem keepF_snoc {n:Int} {x:Ent} (hx:n≤x.off):∀ l:List Ent,keepF n (l++[x])=keepF n l++[x]
 |[]=>by
  rw [List.nil_append,keepF_keep (by rintro ⟨h,_⟩;omega)]
  rfl
 |y :: l=>by
  have hh:hasL n y.key (l++[x])=hasL n y.key l:=by
   have:¬ x.off < n:=by omega
   simp [hasL,this]
  rw [List.cons_append]
  by_cases hk:y.off < n∧hasL n y.key l=true
  ·rw [keepF_skip hk.1 (by rw [hh];exact hk.2),keepF_skip hk.1 hk.2,keepF_snoc hx l]
  ·rw [keepF_keep (by rw [hh];exact hk),keepF_keep hk,keepF_snoc hx l]
   rfl
theorem topM_add {p:Pl} (h:shapedP p) (id:Int) (k b:ByteArray) :
  topM ⟨p.all++[⟨(p.all.length:Int),id,k,b⟩],p.base,p.mark⟩=addT (topM p) id k b:=by
 obtain ⟨h1,h2,⟨h3,h4⟩,h5,h6⟩:=h
 unfold topM addT entP
 simp only [Top.mk.injEq,true_and]
 refine ⟨by simp,?_⟩
 rw [keepF_snoc (by exact h6),fromE_append,fromE_all (l:=[_]) (fun y hy=>by rw [List.mem_singleton.1 hy];exact h4)]
theorem topM_trim {p:Pl} (n:Int):topM ⟨p.all,max p.base (min n (p.all.length:Int)),p.mark⟩=⟨trimTo (topM p) n,(topM p).next,(topM p).mark,fromE (trimTo (topM p) n) (topM p).ents⟩:=by
 have e:trimTo (topM p) n=max p.base (min n (p.all.length:Int)):=rfl
 rw [e]
 unfold topM entP
 simp only
 rw [from_from (by omega)]
theorem topM_comp {p:Pl} (h:shapedP p) (n:Int):topM ⟨p.all,p.base,max p.mark (min n (p.all.length:Int))⟩=compT (topM p) n:=by
 have e:markC (topM p) n=max p.mark (min n (p.all.length:Int)):=rfl
 unfold compT
 rw [e]
 unfold topM entP
 simp only
 rw [keep_from ((shaped_pair h).sublist (keepF_sub _ _)),keep_keep (by omega)]
theorem map_set_top {l:List Pl} {i:Nat} {p:Pl}:(l.set i p).map topM=(l.map topM).set i (topM p):=by rw [List.map_set]
theorem putM_str {m u:Mdl} {id topic n e:Int} {k b:ByteArray} (hm:mayM m) (hfull:0≤topic→topic < 4→(plN m topic).all.length≠600) (h:putM m id topic k b=(u,n,e)) :
  putS (streamM m) id topic k b=(if e=0 then streamM u else Str.zero,n,e)∧(e=0→mayM u):=by
 have hS:=mayM_str hm
 rw [putM] at h
 rw [putS,askM_str hm]
 by_cases ha:askM m topic=0
 ·obtain ⟨_,h0,h1⟩:=askM_zero.1 ha
  have hpm:=plN_mem hm h0 h1
  obtain ⟨hp1,hp2⟩:=hm.1.2 _ hpm
  have hmay:=(topM_may hp1).2 hp2
  have hf:=hfull h0 h1
  have hl6:=hp1.2.1
  rw [if_pos ha] at h
  rw [if_pos ha,topN_str hm h0 h1,addP,if_pos hmay]
  by_cases c1:id < 0∨6291456≤id
  ·rw [if_pos c1] at h;cases h
   rw [if_pos c1]
   exact ⟨rfl,fun h=>by cases h⟩
  rw [if_neg c1] at h
  rw [if_neg c1]
  by_cases c2:16 < k.size∨64 < b.size
  ·rw [if_pos c2] at h;cases h
   rw [if_pos c2]
   exact ⟨rfl,fun h=>by cases h⟩
  rw [if_neg c2] at h
  rw [if_neg c2]
  by_cases c3:(entP (plN m topic)).length=200
  ·rw [if_pos (Or.inr c3)] at h;cases h
   rw [if_pos (Or.inr (show (topM (plN m topic)).ents.length=200 from c3))]
   exact ⟨rfl,fun h=>by cases h⟩
  have c4:¬ ((plN m topic).all.length=600∨(entP (plN m topic)).length=200):=fun hh=>hh.elim hf c3
  rw [if_neg c4] at h
  cases h
  have c5:¬ ((topM (plN m topic)).next=1073741824∨(topM (plN m topic)).ents.length=200):=by
   rintro (hh|hh)
   ·have:((plN m topic).all.length:Int)=1073741824:=hh
    omega
   ·exact c3 hh
  rw [if_neg c5]
  have hadd:=topM_add hp1 id k b
  have e1:(⟨(topM (plN m topic)).base,(topM (plN m topic)).next+1,(topM (plN m topic)).mark,(topM (plN m topic)).ents++[⟨(topM (plN m topic)).next,id,k,b⟩]⟩:Top)=addT (topM (plN m topic)) id k b:=rfl
  have e2:streamM ⟨m.tops.set topic.toNat ⟨(plN m topic).all++[⟨((plN m topic).all.length:Int),id,k,b⟩],(plN m topic).base,(plN m topic).mark⟩,m.coms⟩=⟨(streamM m).tops.set topic.toNat (addT (topM (plN m topic)) id k b),(streamM m).coms⟩:=by
   show (⟨_,_⟩:Str)=_
   rw [map_set_top,hadd];rfl
  refine ⟨?_,fun _=>?_⟩
  ·rw [e1,if_pos rfl,if_pos rfl,e2]
   rfl
  ·refine (mayM_iff (fun p hp=>?_)).1 ?_
   ·rcases List.mem_or_eq_of_mem_set hp with hp|rfl
    ·exact mayM_shaped hm p hp
    ·obtain ⟨s1,s2,⟨s3,s4⟩,s5,s6⟩:=hp1
     refine ⟨fun i hi=>?_,by show (_++[_]).length≤600;simp;omega,⟨s3,by show (plN m topic).base≤((_++[_]).length:Int);simp;omega⟩,s5,by show (plN m topic).mark≤((_++[_]).length:Int);simp;omega⟩
     have hi':i < (plN m topic).all.length+1:=by simpa using hi
     unfold entAt
     simp only
     by_cases hil:i < (plN m topic).all.length
     ·rw [Top.getD_pre hil]
      exact s1 i hil
     ·obtain rfl:i=(plN m topic).all.length:=by omega
      rw [Top.getD_mid]
      exact ⟨rfl,by show (0:Int)≤id;omega,by show id < 6291456;omega,by show k.size≤16;omega,by show b.size≤64;omega⟩
   ·rw [e2]
    refine may_set hS (add_may hmay (by omega) (fun hh=>c5 (Or.inl hh)) (fun hh=>c5 (Or.inr hh))) ?_
    rw [show (streamM m).tops.getD topic.toNat default=topM (plN m topic) from topN_str hm h0 h1]
    show (topM (plN m topic)).next≤(topM (plN m topic)).next+1
    omega
 ·rw [if_neg ha] at h
  cases h
  rw [if_neg ha]
  rw [if_neg ha]
  exact ⟨rfl,fun h=>absurd h ha⟩
theorem doM_str {m u:Mdl} {kind topic who n e:Int} (hm:mayM m) (h:doM m kind topic who n=(u,e)) :
  doS (streamM m) kind topic who n=(if e=0 then streamM u else Str.zero,e)∧(e=0→mayM u):=by
 have hS:=mayM_str hm
 rw [doM,if_pos hm] at h
 by_cases hr:rightD kind topic who n
 ·rw [if_neg (fun hh=>hh hr)] at h
  obtain ⟨hk,⟨h0,h1⟩,h2,h3⟩:=id hr
  have ha:askS (streamM m) topic=0:=askS_zero.2 ⟨hS,h0,h1⟩
  have hpm:=plN_mem hm h0 h1
  obtain ⟨hp1,hp2⟩:=hm.1.2 _ hpm
  have hmay:=(topM_may hp1).2 hp2
  have hnb:¬ (n < 0∨1073741824 < n):=by omega
  obtain ⟨s1,s2,⟨s3,s4⟩,s5,s6⟩:=id hp1
  have hmem:∀ (q:Pl),shapedP q→∀ p∈(⟨m.tops.set topic.toNat q,m.coms⟩:Mdl).tops,shapedP p:=fun q hq p hp=>by
   rcases List.mem_or_eq_of_mem_set hp with hp|rfl
   ·exact mayM_shaped hm p hp
   ·exact hq
  have hst:∀ (q:Pl),streamM ⟨m.tops.set topic.toNat q,m.coms⟩=⟨(streamM m).tops.set topic.toNat (topM q),(streamM m).coms⟩:=fun q=>by
   show (⟨_,_⟩:Str)=_
   rw [map_set_top];rfl
  have hset:∀ (q:Pl),shapedP q→(topM q).may→(topM (plN m topic)).next≤(topM q).next→mayM ⟨m.tops.set topic.toNat q,m.coms⟩:=fun q hq hqm hn=>by
   refine (mayM_iff (hmem q hq)).1 ?_
   rw [hst]
   refine may_set hS hqm ?_
   rw [show (streamM m).tops.getD topic.toNat default=topM (plN m topic) from topN_str hm h0 h1]
   exact hn
  rw [doS,if_pos ha,topN_str hm h0 h1]
  by_cases k4:kind=4
  ·rw [if_pos k4] at h
   rw [if_pos k4,commitS,if_neg (by omega),topN_str hm h0 h1]
   by_cases hn:((plN m topic).all.length:Int) < n
   ·rw [if_pos hn] at h;cases h
    rw [if_pos (show (topM (plN m topic)).next < n from hn)]
    exact ⟨rfl,fun h=>by cases h⟩
   ·rw [if_neg hn] at h;cases h
    rw [if_neg (show ¬ (topM (plN m topic)).next < n from hn)]
    refine ⟨rfl,fun _=>(mayM_iff (m:=⟨m.tops,setC m.coms topic who n⟩) (mayM_shaped (m:=m) hm)).1 ?_⟩
    have hc:=may_com (s:=streamM m) (i:=topic.toNat) (who:=who) (n:=n) hS (by omega) (by omega) (by omega) h2 h3 (by
     rw [show (streamM m).tops.getD topic.toNat default=topM (plN m topic) from topN_str hm h0 h1]
     show n≤((plN m topic).all.length:Int)
     omega)
    rw [show ((topic.toNat:Nat):Int)=topic by omega] at hc
    exact hc
  ·rw [if_neg k4] at h
   rw [if_neg k4]
   by_cases k5:kind=5
   ·rw [if_pos k5] at h;cases h
    have ht:=topM_trim (p:=plN m topic) n
    rw [if_pos k5,trimP_yes hmay hnb,turnS,if_pos rfl,← ht]
    refine ⟨by rw [if_pos rfl,hst],fun _=>hset _ ⟨s1,s2,⟨by show 0≤max _ _;omega,by show max (plN m topic).base (min n ((plN m topic).all.length:Int))≤((plN m topic).all.length:Int);omega⟩,s5,s6⟩ ?_ (Int.le_refl _)⟩
    rw [ht]
    exact trim_may hmay h2
   ·have k6:kind=6:=by omega
    rw [if_neg k5] at h;cases h
    have ht:=topM_comp hp1 n
    rw [if_neg k5,if_pos k6,compactP_T hmay hnb,turnS,if_pos rfl,← ht]
    refine ⟨by rw [if_pos rfl,hst],fun _=>hset _ ⟨s1,s2,⟨s3,s4⟩,by show 0≤max _ _;omega,by show max (plN m topic).mark (min n ((plN m topic).all.length:Int))≤((plN m topic).all.length:Int);omega⟩ ?_ (Int.le_refl _)⟩
    rw [ht]
    exact comp_may n hmay
 ·rw [if_pos hr] at h;cases h
  rw [doS_no hS hr]
  exact ⟨rfl,fun h=>by cases h⟩
end Go.Proofs.YtkkohllhebdlcaaGreatDoor
set_option maxRecDepth 100000
namespace Go.Proofs.YtkkohllhebdlcaaGreatDoor
open Go.RowKit
set_option maxHeartbeats 8000000 in
set_option maxRecDepth 100000 in
theorem strDo_any {v:Value} {s u:Str} {w:World} {x kind mid mt id time:Int} {ga ma:Option Addr} {gn gc mn mc:Nat} {mk mb:ByteArray} (topic who n:Int) (h:StrR w v s) (hk:strKeys s) (hu:doS s kind topic who n=(u,x)) :
  Calls Tryz.prog 66 #[v,.agg #[.int .u8 kind,.int .i64 mid,.slice ga gn gc,.int .i64 mt,.string mk,.string mb,.int .i64 id,.int .i64 time,.slice ma mn mc,.int .i64 topic,.int .i64 who,.int .i64 n]] w (DoEnd u x w):=by
 have HS:=LH h
 have HK:=LH hk
 obtain ⟨a,cap,bb,nc,cc,rfl,hT,-⟩:=h.shape
 by_cases ha:askS s topic=0
 ·rw [doS,if_pos ha] at hu
  have HA:=LH ha
  by_cases k4:kind=4
  ·rw [if_pos k4] at hu
   subst k4
   have HU:=LH hu
   clear h hk hT ha hu
   go_enter Tryz.func66,Tryz.ntmps66
   go_wp2_with fail
   refine Calls.mono (strAsked_any topic ?_ HK.out HA.out) ?_
   ·exact HS.out.below (by repeat (first|with_reducible (first|exact Below.refl _ _|apply Below.drew|apply below_alloc)|((first|with_reducible refine Below.alloc ?_ ?_ _|with_reducible refine Below.setCell ?_ ?_ _);rotate_left;focus (first|(simp <;> omega)|omega))))
   rintro e w1 ⟨rfl,hb⟩
   have HB:Hid (Below w.heap.size w _):=below_step (by repeat (first|with_reducible (first|exact Below.refl _ _|apply Below.drew|apply below_alloc)|((first|with_reducible refine Below.alloc ?_ ?_ _|with_reducible refine Below.setCell ?_ ?_ _);rotate_left;focus (first|(simp <;> omega)|omega)))) hb
   have P:Blk _ (w.heap.size) _ _:=Blk.step (by repeat (first|((with_reducible apply Blk.new);focus (first|rfl|(simp <;> omega)))|with_reducible (first|apply Blk.drew|apply Blk.alloc|apply Blk.set_)|((with_reducible apply Blk.far);rotate_left;focus (first|(simp <;> omega)|omega)))) hb
   obtain ⟨p0,p1,pz⟩:=cells2 P
   have pl:=Blk.lt P
   have HP:=LH P
   clear P
   have HC:Hid (Blk w1 (w.heap.size+1) 58 [.int .u8 4,.int .i64 mid,.slice ga gn gc,.int .i64 mt,.string mk,.string mb,.int .i64 id,.int .i64 time,.slice ma mn mc,.int .i64 topic,.int .i64 who,.int .i64 n]):=Blk.step (by repeat (first|with_reducible exact Blk.new rfl|((with_reducible apply Blk.new);focus (first|rfl|(simp <;> omega)))|with_reducible (first|apply Blk.drew|apply Blk.alloc|apply Blk.set_)|((with_reducible apply Blk.far);rotate_left;focus (first|(simp <;> omega)|omega)))) hb
   have R:Blk _ (w.heap.size+2) _ _:=Blk.step (by repeat (first|((with_reducible apply Blk.new);focus (first|rfl|(simp <;> omega)))|with_reducible (first|apply Blk.drew|apply Blk.alloc|apply Blk.set_)|((with_reducible apply Blk.far);rotate_left;focus (first|(simp <;> omega)|omega)))) hb
   obtain ⟨r0,r1,rz⟩:=cells2 R
   have rl:=Blk.lt R
   have HR:=LH R
   clear R
   obtain ⟨⟨⟨d0,d1,d2,d3⟩,⟨d4,d5,d6,d7⟩,d8,d9,d10,d11⟩,dz⟩:=cells12 HC.out
   have cl:=HC.out.lt
   clear hb
   go_wp2_with fail
   refine Calls.mono (strCommit_any topic who n ?_ HA.out HU.out) ?_
   ·exact HS.out.below (by repeat (first|with_reducible (first|exact HB.out|exact Below.refl _ _|apply Below.drew|apply below_alloc)|((first|with_reducible refine Below.alloc ?_ ?_ _|with_reducible refine Below.setCell ?_ ?_ _);rotate_left;focus (first|(simp <;> omega)|omega))))
   rintro e w2 ⟨ta,tc,rfl,os,hb⟩
   obtain ⟨a3,cap3,b3,nc3,cc3,ev,-,-⟩:=os.reads.shape
   cases ev
   clear p0 p1 pz pl d0 d1 d2 d3 d4 d5 d6 d7 d8 d9 d10 d11 dz cl r0 r1 rz
   have HB2:Hid (Below w.heap.size w _):=below_step (by repeat (first|with_reducible (first|exact HB.out|exact Below.refl _ _|apply Below.drew|apply below_alloc)|((first|with_reducible refine Below.alloc ?_ ?_ _|with_reducible refine Below.setCell ?_ ?_ _);rotate_left;focus (first|(simp <;> omega)|omega)))) hb
   have hz:w.heap.size+2 < w1.heap.size:=rl
   clear rl
   have R:Blk _ (w.heap.size+2) _ _:=Blk.step (by repeat (first|with_reducible exact HR.out|((with_reducible apply Blk.new);focus (first|rfl|(simp <;> omega)))|with_reducible (first|apply Blk.drew|apply Blk.alloc|apply Blk.set_)|((with_reducible apply Blk.far);rotate_left;focus (first|(simp <;> omega)|omega)))) hb
   try simp only [List.set_cons_zero,List.set_cons_succ] at R
   obtain ⟨r0,r1,rz⟩:=cells2 R
   have rl:=Blk.lt R
   have HR:=LH R
   clear R
   have OS:Hid (OwnS w2 w.heap.size _ u):=LH (os.le (by omega))
   clear hb os
   go_wp2_with fail
   have HR3:=HR.out.set_ 0 (.slice a3 u.tops.length cap3)
   obtain ⟨t0,t1,-⟩:=cells2 (HR3.set_ 1 (.slice b3 nc3 cc3))
   refine bodyPost_ret (v:=.tuple #[.agg #[.slice a3 u.tops.length cap3,.slice b3 nc3 cc3],.int .i64 x]) (by simp [results,Tryz.results66,go_sem,t0,t1]) rfl ⟨_,_,rfl,?_,?_⟩
   ·exact (OS.out.blk HR.out (by decide) (by decide) (by decide) (by decide)).blk HR3 (by decide) (by decide) (by decide) (by decide)
   ·exact (HB2.out.setCell (p:=⟨w.heap.size+2,0,none⟩) (by simp) _).setCell (p:=⟨w.heap.size+2,1,none⟩) (by simp) _
  ·rw [if_neg k4] at hu
   have hd4:¬ kind=4:=k4
   by_cases k56:kind=5∨kind=6
   ·obtain ⟨r,hr⟩:∃ r,(if kind=5 then trimP (topN s topic) n else compactP (topN s topic) n)=r:=⟨_,rfl⟩
    have hu':turnS s topic r=(u,x):=by
     rw [← hr]
     rcases k56 with k|k
     ·rw [if_pos k] at hu ⊢;exact hu
     ·rw [if_neg (by omega:¬ kind=5),if_pos k] at hu;rw [if_neg (by omega:¬ kind=5)];exact hu
    obtain ⟨t',f⟩:=r
    obtain ⟨hm,h0,h1⟩:=askS_zero.1 ha
    have h4:=hm.1.1
    have HF:=LH (few_of_may hm)
    have HKT:=LH (hk _ (topN_mem hm h0 h1))
    obtain ⟨i,rfl⟩:∃ i:Nat,topic=(i:Int):=⟨topic.toNat,by omega⟩
    have HI:=LH (show i < s.tops.length by omega)
    obtain ⟨⟨-,hcap,hmx⟩,g,off,rfl,hat⟩:=StrR.top hT (i:=i) h0 (by omega)
    rw [show s.tops.getD (i:Int).toNat default=topN s i from rfl] at hat
    obtain ⟨t,ht⟩:∃ t,t=topN s i:=⟨_,rfl⟩
    rw [← ht] at hat hr HKT
    rw [turnS] at hu'
    simp only [Int.toNat_natCast] at hu' hat
    have HU:=LH hu'
    unfold maxLen at hmx
    have HAT:=LH hat
    have h5:(i:Int) < (s.tops.length:Int):=by omega
    have h6:(s.tops.length:Int)=4:=by omega
    have hgw:g < w.heap.size:=World.block_lt_of_cell? w _ hat.choose_spec.choose_spec.1.1.1.1
    have HR0:=LH hr
    have HK56:=LH k56
    clear h hk hT ha hm h4 hu hu' ht hat hr k56 hd4 k4
    rcases HK56.out with rfl|rfl
    all_goals
     first
      |(have CT:Hid (∀ W:World,∀ {v:Value},TopR W v t→Calls Tryz.prog 96 #[v,.int .i64 n] W (TopEnd1 t' f W)):=LH (fun W v hW=>trim_any n hW HKT.out (by have:=HR0.out;rwa [if_pos rfl] at this)))
      |(have CT:Hid (∀ W:World,∀ {v:Value},TopR W v t→Calls Tryz.prog 97 #[v,.int .i64 n] W (TopEnd1 t' f W)):=LH (fun W v hW=>compact_any n hW HKT.out (by have:=HR0.out;rwa [if_neg (by decide)] at this)))
     go_enter Tryz.func66,Tryz.ntmps66
     go_wp2_with fail
     refine Calls.mono (strAsked_any (i:Int) ?_ HK.out HA.out) ?_
     ·exact HS.out.below (by repeat (first|with_reducible (first|exact Below.refl _ _|apply Below.drew|apply below_alloc)|((first|with_reducible refine Below.alloc ?_ ?_ _|with_reducible refine Below.setCell ?_ ?_ _);rotate_left;focus (first|(simp <;> omega)|omega))))
     rintro e w1 ⟨rfl,hb⟩
     have HB:Hid (Below w.heap.size w _):=below_step (by repeat (first|with_reducible (first|exact Below.refl _ _|apply Below.drew|apply below_alloc)|((first|with_reducible refine Below.alloc ?_ ?_ _|with_reducible refine Below.setCell ?_ ?_ _);rotate_left;focus (first|(simp <;> omega)|omega)))) hb
     have P:Blk _ (w.heap.size) _ _:=Blk.step (by repeat (first|((with_reducible apply Blk.new);focus (first|rfl|(simp <;> omega)))|with_reducible (first|apply Blk.drew|apply Blk.alloc|apply Blk.set_)|((with_reducible apply Blk.far);rotate_left;focus (first|(simp <;> omega)|omega)))) hb
     obtain ⟨p0,p1,pz⟩:=cells2 P
     have pl:=Blk.lt P
     have HP:=LH P
     clear P
     have HC:Hid (Blk w1 (w.heap.size+1) 58 _):=Blk.step (by repeat (first|with_reducible exact Blk.new rfl|((with_reducible apply Blk.new);focus (first|rfl|(simp <;> omega)))|with_reducible (first|apply Blk.drew|apply Blk.alloc|apply Blk.set_)|((with_reducible apply Blk.far);rotate_left;focus (first|(simp <;> omega)|omega)))) hb
     have R:Blk _ (w.heap.size+2) _ _:=Blk.step (by repeat (first|((with_reducible apply Blk.new);focus (first|rfl|(simp <;> omega)))|with_reducible (first|apply Blk.drew|apply Blk.alloc|apply Blk.set_)|((with_reducible apply Blk.far);rotate_left;focus (first|(simp <;> omega)|omega)))) hb
     obtain ⟨r0,r1,rz⟩:=cells2 R
     have rl:=Blk.lt R
     have HR:=LH R
     clear R
     obtain ⟨⟨⟨d0,d1,d2,d3⟩,⟨d4,d5,d6,d7⟩,d8,d9,d10,d11⟩,dz⟩:=cells12 HC.out
     have cl:=HC.out.lt
     clear d1 d2 d3 d4 d5 d6 d7 d8 d10
     obtain ⟨ea,ecap,⟨⟨⟨c0,c1⟩,c2⟩,c3⟩,hTT⟩:=HAT.out.keep HB.out
     have T:=LH hTT
     clear hb hTT
     go_wp2_with fail
     have KS:Hid (∀ W':World,Below w1.heap.size w1 W'→(W'.cell? ⟨w.heap.size,0,none⟩=some (.slice (some ⟨g,off,none⟩) s.tops.length cap)∧(W'.cell? ⟨w.heap.size+1,9,none⟩=some (.int .i64 (i:Int))∧W'.cell? ⟨w.heap.size+1,11,none⟩=some (.int .i64 n)))∧((W'.cell? ⟨g,off+i * 4,none⟩=some (.int .i64 t.base)∧W'.cell? ⟨g,off+i * 4+1,none⟩=some (.int .i64 t.next))∧W'.cell? ⟨g,off+i * 4+2,none⟩=some (.int .i64 t.mark)∧W'.cell? ⟨g,off+i * 4+3,none⟩=some (.slice ea t.ents.length ecap))):=fun W' hb=>by
      have c:=fun (p:Addr) (hp:p.block < w1.heap.size)=>hb.cell hp
      refine ⟨⟨(c _ ?_).trans p0,(c _ ?_).trans d9,(c _ ?_).trans d11⟩,⟨(c _ ?_).trans c0,(c _ ?_).trans c1⟩,(c _ ?_).trans c2,(c _ ?_).trans c3⟩ <;> (simp only [];omega)
     have KT:=KS.out w1 (Below.refl _ _)
     go_region_held3 (fun W'=>(W'.cell? ⟨w.heap.size,0,none⟩=some (.slice (some ⟨g,off,none⟩) s.tops.length cap)∧(W'.cell? ⟨w.heap.size+1,9,none⟩=some (.int .i64 (i:Int))∧W'.cell? ⟨w.heap.size+1,11,none⟩=some (.int .i64 n)))∧((W'.cell? ⟨g,off+i * 4,none⟩=some (.int .i64 t.base)∧W'.cell? ⟨g,off+i * 4+1,none⟩=some (.int .i64 t.next))∧W'.cell? ⟨g,off+i * 4+2,none⟩=some (.int .i64 t.mark)∧W'.cell? ⟨g,off+i * 4+3,none⟩=some (.slice ea t.ents.length ecap)))
      (first|with_reducible exact KT|(refine KS.out _ ?_;done)|(refine KS.out _ ?_;(repeat (first|with_reducible (first|exact Below.refl _ _|apply Below.drew|apply below_alloc)|((first|with_reducible refine Below.alloc ?_ ?_ _|with_reducible refine Below.setCell ?_ ?_ _);rotate_left;focus (first|(simp <;> omega)|omega))));done)|(refine KS.out _ ?_;(repeat (first|with_reducible (first|exact HQ.out|exact Below.refl _ _|apply Below.drew|apply below_alloc)|((first|with_reducible refine Below.alloc ?_ ?_ _|with_reducible refine Below.setCell ?_ ?_ _);rotate_left;focus (first|(simp <;> omega)|omega))));done))
      (first|(go_at_call 96;refine (CT.out _ (T.out.below (Below.drew (Below.refl _ _)))).mono ?_;rintro e w2 ⟨ad2,cp2,rfl,ow2,hb⟩;have HQ:Hid (Below w1.heap.size w1 w2):=below_step (Below.drew (Below.refl _ _)) hb;have O2:Hid (OwnE w2 w1.heap.size _ _):=LH (own_base ow2 (by simp));clear hb ow2)|(go_at_call 96;refine (CT.out _ (T.out.below (Below.drew (below_alloc (Below.refl _ _))))).mono ?_;rintro e w2 ⟨ad2,cp2,rfl,ow2,hb⟩;have HQ:Hid (Below w1.heap.size w1 w2):=below_step (Below.drew (below_alloc (Below.refl _ _))) hb;have HY:=LH (Blk.step (Blk.drew (Blk.new (w:=w1) (t:=156) (cs:=[.int .i64 0,.int .i64 0,.int .i64 0,.slice none 0 0]) rfl)) hb);obtain ⟨y0,y1,y2,y3,yz⟩:=cells4 HY.out;have O2:Hid (OwnE w2 (w1.heap.size+1) _ _):=LH (own_base ow2 (by simp));clear hb ow2)|(go_at_call 97;refine (CT.out _ (T.out.below (Below.drew (Below.refl _ _)))).mono ?_;rintro e w2 ⟨ad2,cp2,rfl,ow2,hb⟩;have HQ:Hid (Below w1.heap.size w1 w2):=below_step (Below.drew (Below.refl _ _)) hb;have O2:Hid (OwnE w2 w1.heap.size _ _):=LH (own_base ow2 (by simp));clear hb ow2)|(go_at_call 97;refine (CT.out _ (T.out.below (Below.drew (below_alloc (Below.refl _ _))))).mono ?_;rintro e w2 ⟨ad2,cp2,rfl,ow2,hb⟩;have HQ:Hid (Below w1.heap.size w1 w2):=below_step (Below.drew (below_alloc (Below.refl _ _))) hb;have HY:=LH (Blk.step (Blk.drew (Blk.new (w:=w1) (t:=156) (cs:=[.int .i64 0,.int .i64 0,.int .i64 0,.slice none 0 0]) rfl)) hb);obtain ⟨y0,y1,y2,y3,yz⟩:=cells4 HY.out;have O2:Hid (OwnE w2 (w1.heap.size+1) _ _):=LH (own_base ow2 (by simp));clear hb ow2))
     all_goals
      have HP2:=LH (HP.out.below HQ.out pl)
      have HC2:=LH (HC.out.below HQ.out cl)
      have HR2:=LH (HR.out.below HQ.out rl)
      have HB2:Hid (Below w.heap.size w w2):=LH (HB.out.trans (HQ.out.mono (by omega)))
      have hw2:w1.heap.size≤w2.heap.size:=HQ.out.size
      clear p0 p1 pz d0 d9 d11 dz r0 r1 rz c0 c1 c2 c3 HP HC HR KS KT
      obtain ⟨p0,p1,pz⟩:=cells2 HP2.out
      obtain ⟨⟨-,-,-,d9,-,-⟩,dz⟩:=cells12 HC2.out
      obtain ⟨r0,r1,rz⟩:=cells2 HR2.out
      have pl2:=HP2.out.lt
      have cl2:=HC2.out.lt
      have rl2:=HR2.out.lt
      have hu:=HU.out
      by_cases hf:f=0
      ·subst hf
       simp only [if_true] at hu
       cases hu
       go_wp2_with fail
       refine Calls.mono (with_any (B:=w.heap.size) i ?_ HF.out HI.out ?_ ?_) ?_
       ·exact HS.out.below (by repeat (first|with_reducible (first|exact HB2.out|exact Below.refl _ _|apply Below.drew|apply below_alloc)|((first|with_reducible refine Below.alloc ?_ ?_ _|with_reducible refine Below.setCell ?_ ?_ _);rotate_left;focus (first|(simp <;> omega)|omega))))
       ·first
         |(refine own_base (B:=w1.heap.size+1) ?_ (by omega);(repeat (first|with_reducible (first|exact O2.out|apply own_drew|apply own_alloc)|((with_reducible apply own_set);rotate_left;focus (first|(simp <;> omega)|omega))));done)
         |(refine own_base (B:=w1.heap.size) ?_ (by omega);(repeat (first|with_reducible (first|exact O2.out|apply own_drew|apply own_alloc)|((with_reducible apply own_set);rotate_left;focus (first|(simp <;> omega)|omega))));done)
       ·first|omega|(simp;omega)
       rintro e w3 ⟨ta,tc,rfl,os,hb⟩
       obtain ⟨a3,cap3,b3,nc3,cc3,ev,-,-⟩:=os.reads.shape
       cases ev
       clear r0 r1 rz
       have HB3:Hid (Below w.heap.size w _):=below_step (by repeat (first|with_reducible (first|exact HB2.out|exact Below.refl _ _|apply Below.drew|apply below_alloc)|((first|with_reducible refine Below.alloc ?_ ?_ _|with_reducible refine Below.setCell ?_ ?_ _);rotate_left;focus (first|(simp <;> omega)|omega)))) hb
       have R:Blk _ (w.heap.size+2) _ _:=Blk.step (by repeat (first|with_reducible exact HR2.out|((with_reducible apply Blk.new);focus (first|rfl|(simp <;> omega)))|with_reducible (first|apply Blk.drew|apply Blk.alloc|apply Blk.set_)|((with_reducible apply Blk.far);rotate_left;focus (first|(simp <;> omega)|omega)))) hb
       try simp only [List.set_cons_zero,List.set_cons_succ] at R
       obtain ⟨r0,r1,rz⟩:=cells2 R
       have rl:=Blk.lt R
       have HR:=LH R
       clear R
       have e3:(s.tops.set i t').length=s.tops.length:=List.length_set ..
       have OS:Hid (OwnS w3 w.heap.size (.agg #[.slice a3 s.tops.length cap3,.slice b3 nc3 cc3]) ⟨s.tops.set i t',s.coms⟩):=LH (by rw [← e3];exact os)
       clear hb os e3
       go_wp2_with fail
       have HR3:=HR.out.set_ 0 (.slice a3 s.tops.length cap3)
       obtain ⟨t0,t1,-⟩:=cells2 (HR3.set_ 1 (.slice b3 nc3 cc3))
       refine bodyPost_ret (v:=.tuple #[.agg #[.slice a3 s.tops.length cap3,.slice b3 nc3 cc3],.int .i64 0]) (by simp [results,Tryz.results66,go_sem,t0,t1]) rfl ⟨_,_,rfl,?_,?_⟩
       ·exact (OS.out.blk HR.out (by decide) (by decide) (by decide) (by decide)).blk HR3 (by decide) (by decide) (by decide) (by decide)
       ·exact (HB3.out.setCell (p:=⟨w.heap.size+2,0,none⟩) (by simp) _).setCell (p:=⟨w.heap.size+2,1,none⟩) (by simp) _
      ·have hd:(f != 0)=true:=by simpa using hf
       rw [if_neg hf] at hu
       cases hu
       go_wp2_with fail
       first
        |(obtain ⟨t0,t1,-⟩:=cells2 (((HR2.out.set_ 0 (.slice none 0 0)).set_ 1 (.slice none 0 0)).alloc (.cells #[.int .i64 t'.base,.int .i64 t'.next,.int .i64 t'.mark,.slice ad2 t'.ents.length cp2] 156));refine bodyPost_ret (v:=.tuple #[.agg #[.slice none 0 0,.slice none 0 0],.int .i64 x]) ?_ rfl ⟨_,_,rfl,OwnS.zero _ _,?_⟩;focus (simp [results,Tryz.results66,go_sem,t0,t1];done))
        |(obtain ⟨t0,t1,-⟩:=cells2 ((((((HR2.out.far (b:=w1.heap.size) (o:=0) (by omega) (.int .i64 t'.base)).far (b:=w1.heap.size) (o:=1) (by omega) (.int .i64 t'.next)).far (b:=w1.heap.size) (o:=2) (by omega) (.int .i64 t'.mark)).far (b:=w1.heap.size) (o:=3) (by omega) (.slice ad2 t'.ents.length cp2)).set_ 0 (.slice none 0 0)).set_ 1 (.slice none 0 0));refine bodyPost_ret (v:=.tuple #[.agg #[.slice none 0 0,.slice none 0 0],.int .i64 x]) ?_ rfl ⟨_,_,rfl,OwnS.zero _ _,?_⟩;focus (simp [results,Tryz.results66,go_sem,t0,t1];done))
       repeat (first|with_reducible (first|exact HB2.out|exact Below.refl _ _|apply Below.drew|apply below_alloc)|((first|with_reducible refine Below.alloc ?_ ?_ _|with_reducible refine Below.setCell ?_ ?_ _);rotate_left;focus (first|(simp <;> omega)|omega)))
   ·have k5:¬ kind=5:=by omega
    have k6:¬ kind=6:=by omega
    rw [if_neg k5,if_neg k6] at hu
    cases hu
    clear h hk hT ha k56 hd4
    go_enter Tryz.func66,Tryz.ntmps66
    go_wp2_with fail
    refine Calls.mono (strAsked_any topic ?_ HK.out HA.out) ?_
    ·exact HS.out.below (by repeat (first|with_reducible (first|exact Below.refl _ _|apply Below.drew|apply below_alloc)|((first|with_reducible refine Below.alloc ?_ ?_ _|with_reducible refine Below.setCell ?_ ?_ _);rotate_left;focus (first|(simp <;> omega)|omega))))
    rintro e w1 ⟨rfl,hb⟩
    have HB:Hid (Below w.heap.size w _):=below_step (by repeat (first|with_reducible (first|exact Below.refl _ _|apply Below.drew|apply below_alloc)|((first|with_reducible refine Below.alloc ?_ ?_ _|with_reducible refine Below.setCell ?_ ?_ _);rotate_left;focus (first|(simp <;> omega)|omega)))) hb
    have HC:Hid (Blk w1 (w.heap.size+1) 58 _):=Blk.step (by repeat (first|with_reducible exact Blk.new rfl|((with_reducible apply Blk.new);focus (first|rfl|(simp <;> omega)))|with_reducible (first|apply Blk.drew|apply Blk.alloc|apply Blk.set_)|((with_reducible apply Blk.far);rotate_left;focus (first|(simp <;> omega)|omega)))) hb
    have R:Blk _ (w.heap.size+2) _ _:=Blk.step (by repeat (first|((with_reducible apply Blk.new);focus (first|rfl|(simp <;> omega)))|with_reducible (first|apply Blk.drew|apply Blk.alloc|apply Blk.set_)|((with_reducible apply Blk.far);rotate_left;focus (first|(simp <;> omega)|omega)))) hb
    obtain ⟨r0,r1,rz⟩:=cells2 R
    have rl:=Blk.lt R
    have HR:=LH R
    clear R
    obtain ⟨⟨⟨d0,-,-,-⟩,-,-,-,-,-⟩,dz⟩:=cells12 HC.out
    clear hb
    go_wp2_with fail
    refine bodyPost_ret (v:=.tuple #[.agg #[.slice none 0 0,.slice none 0 0],.int .i64 2]) (by simp [results,Tryz.results66,go_sem,r0,r1]) rfl ⟨_,_,rfl,OwnS.zero _ _,?_⟩
    repeat (first|with_reducible (first|exact HB.out|exact Below.refl _ _|apply Below.drew|apply below_alloc)|((first|with_reducible refine Below.alloc ?_ ?_ _|with_reducible refine Below.setCell ?_ ?_ _);rotate_left;focus (first|(simp <;> omega)|omega)))
 ·rw [doS,if_neg ha] at hu
  injection hu with hx hz
  subst hx
  have HA:=LH hz
  have hd:(x != 0)=true:=by rw [← hz];simpa using ha
  clear h hk hT ha hz
  go_enter Tryz.func66,Tryz.ntmps66
  go_wp2_with fail
  refine Calls.mono (strAsked_any topic ?_ HK.out HA.out) ?_
  ·exact HS.out.below (by repeat (first|with_reducible (first|exact Below.refl _ _|apply Below.drew|apply below_alloc)|((first|with_reducible refine Below.alloc ?_ ?_ _|with_reducible refine Below.setCell ?_ ?_ _);rotate_left;focus (first|(simp <;> omega)|omega))))
  rintro e w1 ⟨rfl,hb⟩
  have HB:Hid (Below w.heap.size w _):=below_step (by repeat (first|with_reducible (first|exact Below.refl _ _|apply Below.drew|apply below_alloc)|((first|with_reducible refine Below.alloc ?_ ?_ _|with_reducible refine Below.setCell ?_ ?_ _);rotate_left;focus (first|(simp <;> omega)|omega)))) hb
  have R:Blk _ (w.heap.size+2) _ _:=Blk.step (by repeat (first|((with_reducible apply Blk.new);focus (first|rfl|(simp <;> omega)))|with_reducible (first|apply Blk.drew|apply Blk.alloc|apply Blk.set_)|((with_reducible apply Blk.far);rotate_left;focus (first|(simp <;> omega)|omega)))) hb
  obtain ⟨r0,r1,rz⟩:=cells2 R
  have rl:=Blk.lt R
  have HR:=LH R
  clear R
  clear hb
  go_wp2_with fail
  refine bodyPost_ret (v:=.tuple #[.agg #[.slice none 0 0,.slice none 0 0],.int .i64 x]) (by simp [results,Tryz.results66,go_sem,r0,r1]) rfl ⟨_,_,rfl,OwnS.zero _ _,?_⟩
  repeat (first|with_reducible (first|exact HB.out|exact Below.refl _ _|apply Below.drew|apply below_alloc)|((first|with_reducible refine Below.alloc ?_ ?_ _|with_reducible refine Below.setCell ?_ ?_ _);rotate_left;focus (first|(simp <;> omega)|omega)))
end Go.Proofs.YtkkohllhebdlcaaGreatDoor
