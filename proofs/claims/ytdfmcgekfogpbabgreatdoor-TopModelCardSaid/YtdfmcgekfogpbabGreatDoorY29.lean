/-
  Proved here: command.plain at every command; command.Check. No condition. Plain: skeen.Apply, and what Check tells. No program in sight but its  Plain: what a log makes of a group: the clock, the model of its topics stream.New. No condition. model.Check: may a model be. No condition but that the model reads and
-/
import Derived.Test.YtdfmcgekfogpbabGreatDoorY21
import Derived.Test.YtdfmcgekfogpbabGreatDoorY23
import Derived.Test.YtdfmcgekfogpbabGreatDoorY24
import Derived.Test.YtdfmcgekfogpbabGreatDoorY25
set_option maxRecDepth 100000
namespace Go.Proofs.YtdfmcgekfogpbabGreatDoor
open Go.RowKit
theorem plain_any {v:Value} {c:PC} {w:World} (h:ComR w v c):Calls Tryz.prog 96 #[v] w (PlainEnd (pC c) (okP c) w):=by
 by_cases h0:c.kind=0
 ·exact plain_k0 h h0
 by_cases h1:c.kind=1
 ·exact plain_k1 h h1
 by_cases h2:c.kind=2
 ·exact plain_k2 h h2
 by_cases h3:c.kind=3
 ·exact plain_k3 h h3
 by_cases h4:c.kind=4
 ·exact plain_k4 h h4
 by_cases h5:c.kind=5
 ·exact plain_k5 h h5
 by_cases h6:c.kind=6
 ·exact plain_k6 h h6
 exact plain_k9 h ⟨h0,h1,h2,h3,h4,h5,h6⟩
instance:DecidableEq PM:=fun a b=>decidable_of_iff (a.id=b.id∧a.groups=b.groups∧a.topic=b.topic∧a.key=b.key∧a.body=b.body) (by cases a;cases b;simp)
instance:DecidableEq PC:=fun _ _=>decidable_of_iff _ pc_ext.symm
def okCom (c:PC):Bool:=okP c && decide (pC c=c)
set_option maxHeartbeats 4000000 in
set_option maxRecDepth 100000 in
theorem chkCom_any {v:Value} {c:PC} {w:World} {x:Int} (h:ComR w v c) (hx:x=if okCom c=true then 0 else 120) :
  Calls Tryz.prog 54 #[v] w fun e w'=>e=.returned (.int .i64 x)∧Below w.heap.size w w':=by
 have S:=LH h
 obtain ⟨a,cap,b,bc,rfl,-,-⟩:=h
 obtain ⟨ok,hok⟩:∃ ok,ok=okP c:=⟨_,rfl⟩
 obtain ⟨sm,hsm⟩:∃ sm:Bool,sm=true↔pC c=c:=⟨decide (pC c=c),by simp⟩
 have HX:=LH (show x=if (ok && sm)=true then 0 else 120 by
  rw [hx,okCom,← hok]
  have:decide (pC c=c)=sm:=by
   cases sm
   ·exact decide_eq_false (fun e=>by have:=hsm.2 e;cases this)
   ·exact decide_eq_true (hsm.1 rfl)
  rw [this])
 have HSM:=LH hsm
 have HP:=LH (show ∀ (u:Value) (W:World),ComR W u c→Calls Tryz.prog 96 #[u] W (PlainEnd (pC c) ok W) from fun u W hh=>by rw [hok];exact plain_any hh)
 obtain ⟨gn,hgn⟩:∃ n,n=c.msg.groups.length:=⟨_,rfl⟩
 obtain ⟨mn,hmn⟩:∃ n,n=c.members.length:=⟨_,rfl⟩
 rw [← hgn,← hmn] at S ⊢
 obtain ⟨kd,hkd⟩:∃ x,x=c.kind:=⟨_,rfl⟩
 clear hx hok hsm hgn hmn hkd kd
 obtain ⟨pc,hpc⟩:∃ pc,pc=pC c:=⟨_,rfl⟩
 rw [← hpc] at HP HSM
 obtain ⟨kd,⟨i1,g1,t1,k1,b1⟩,ci,ct,ml,cp,cw,cn⟩:=c
 simp only at S ⊢
 clear hpc
 go_enter Tryz.func54,Tryz.ntmps54
 go_wp2_with fail
 refine Calls.mono (HP.out _ _ (S.out.below (by repeat (first|with_reducible (first|exact Below.refl _ _|apply Below.drew|apply below_alloc)|((first|with_reducible refine Below.alloc ?_ ?_ _|with_reducible refine Below.setCell ?_ ?_ _);rotate_left;focus (first|(simp <;> omega)|omega)))))) ?_
 rintro e w1 ⟨v,rfl,hv,hb⟩
 have HB:Hid (Below w.heap.size w _):=below_step (by repeat (first|with_reducible (first|exact Below.refl _ _|apply Below.drew|apply below_alloc)|((first|with_reducible refine Below.alloc ?_ ?_ _|with_reducible refine Below.setCell ?_ ?_ _);rotate_left;focus (first|(simp <;> omega)|omega)))) hb
 have HQ:Hid (Blk w1 w.heap.size 79 [.int .u8 kd,.int .i64 i1,.slice a gn cap,.int .i64 t1,.string k1,.string b1,.int .i64 ci,.int .i64 ct,.slice b mn bc,.int .i64 cp,.int .i64 cw,.int .i64 cn]):=LH (Blk.step (Blk.new rfl) hb)
 have V:=LH hv
 obtain ⟨a',cap',b',bc',rfl,-,-⟩:=hv
 obtain ⟨pk,⟨j1,h1,s1,l1,m1⟩,pi,pt,pm,pp,pw,pn⟩:=pc
 simp only at V ⊢
 obtain ⟨gn',hgn'⟩:∃ n,n=h1.length:=⟨_,rfl⟩
 obtain ⟨mn',hmn'⟩:∃ n,n=pm.length:=⟨_,rfl⟩
 rw [← hgn',← hmn'] at V ⊢
 have ql:=HQ.out.lt
 obtain ⟨⟨⟨d0,d1,d2,d3⟩,⟨d4,d5,d6,d7⟩,d8,d9,d10,d11⟩,dz⟩:=cells12 HQ.out
 clear hb hgn' hmn'
 cases ok
 ·obtain rfl:x=120:=by rw [HX.out];rfl
  go_wp2_with fail
  go_ret
  refine ⟨rfl,?_⟩
  repeat (first|with_reducible (first|exact HB.out|exact Below.refl _ _|apply Below.drew|apply below_alloc)|((first|with_reducible refine Below.alloc ?_ ?_ _|with_reducible refine Below.setCell ?_ ?_ _);rotate_left;focus (first|(simp <;> omega)|omega)))
 ·go_wp2_with fail
  refine Calls.mono (sameCom_any (z:=sm) (c:=⟨pk,⟨j1,h1,s1,l1,m1⟩,pi,pt,pm,pp,pw,pn⟩) (c':=⟨kd,⟨i1,g1,t1,k1,b1⟩,ci,ct,ml,cp,cw,cn⟩) ?_ ?_ HSM.out) ?_
  ·exact V.out.below (by repeat (first|with_reducible (first|exact Below.refl _ _|apply Below.drew|apply below_alloc)|((first|with_reducible refine Below.alloc ?_ ?_ _|with_reducible refine Below.setCell ?_ ?_ _);rotate_left;focus (first|(simp <;> omega)|omega))))
  ·exact S.out.below (by repeat (first|with_reducible (first|exact HB.out|exact Below.refl _ _|apply Below.drew|apply below_alloc)|((first|with_reducible refine Below.alloc ?_ ?_ _|with_reducible refine Below.setCell ?_ ?_ _);rotate_left;focus (first|(simp <;> omega)|omega))))
  rintro e w2 ⟨rfl,hb⟩
  replace HB:Hid (Below w.heap.size w _):=below_step (by repeat (first|with_reducible (first|exact HB.out|exact Below.refl _ _|apply Below.drew|apply below_alloc)|((first|with_reducible refine Below.alloc ?_ ?_ _|with_reducible refine Below.setCell ?_ ?_ _);rotate_left;focus (first|(simp <;> omega)|omega)))) hb
  clear hb
  cases sm
  ·obtain rfl:x=120:=by rw [HX.out];rfl
   go_wp2_with fail
   go_ret
   exact ⟨rfl,HB.out⟩
  ·obtain rfl:x=0:=by rw [HX.out];rfl
   go_wp2_with fail
   go_ret
   exact ⟨rfl,HB.out⟩
def skZ:Sk:=⟨0,[],[]⟩
def stepS (group:Int) (c:PC) (s:Sk):Int × Sk:=if c.kind=1 then assignS group c.msg s else if c.kind=2 then (0,finalS c.id c.time s) else (0,s)
def endK (s:Sk):Int × Sk × List PM:=if 200 < (delS s.waits.length s []).1.done.length then (9,skZ,[]) else (0,delS s.waits.length s [])
def apS (group:Int) (c:PC) (s:Sk):Int × Sk × List PM :=
 if chkS s=false then (8,skZ,[]) else if group < 0∨4≤group then (2,skZ,[]) else if okCom c=false then (120,skZ,[])
 else if (stepS group c s).1≠0 then ((stepS group c s).1,skZ,[]) else endK (stepS group c s).2
theorem okCom_kind {c:PC} (h:okCom c=true):okP c=true:=by
 rw [okCom,Bool.and_eq_true] at h
 exact h.1
theorem idB_small {n:Int} (h:idB n=true):smallI n:=by
 simp only [idB,inB,Bool.and_eq_true,decide_eq_true_eq] at h
 exact ⟨by omega,by omega⟩
theorem msgB_id {m:PM} (h:msgB m=true):smallI m.id:=by
 simp only [msgB,Bool.and_eq_true] at h
 exact idB_small h.2.1
theorem msgB_groups {m:PM} (h:msgB m=true):m.groups.length≤4:=by
 simp only [msgB,grpB,Bool.and_eq_true,decide_eq_true_eq] at h
 exact h.1.1.2
theorem okCom_assign {c:PC} (h:okCom c=true) (hk:c.kind=1):msgB c.msg=true:=by
 have:=okCom_kind h
 rw [okP,hk] at this
 simpa using this
theorem okCom_final {c:PC} (h:okCom c=true) (hk:c.kind=2):smallI c.id:=by
 have:=okCom_kind h
 rw [okP,hk] at this
 simp only [Bool.and_eq_true,show (2:Int)≠0 by decide,show (2:Int)≠1 by decide,if_false,if_true] at this
 exact idB_small this.1
theorem chkW_up {ck:Int} {ids:List Int} {d:Option (Int × Int)}:∀ {l:List Wt} {prev:Option Int},chkW ck ids d prev l=true→(l.Pairwise fun x y=>x.msg.id < y.msg.id)∧(∀ x∈l,msgB x.msg=true∧∀ p,prev=some p→p < x.msg.id)
 |[],prev,_=>⟨List.Pairwise.nil,fun _ h=>by cases h⟩
 |y :: l,prev,h=>by
  simp only [chkW,Bool.and_eq_true] at h
  obtain ⟨h1,h2⟩:=h
  obtain ⟨i1,i2⟩:=chkW_up h2
  have hp:∀ p,prev=some p→p < y.msg.id:=fun p hp=>by
   subst hp
   have:=h1.1.1.2
   simp at this
   exact this
  refine ⟨List.pairwise_cons.2 ⟨fun x hx=>(i2 x hx).2 _ rfl,i1⟩,fun x hx=>?_⟩
  rcases List.mem_cons.1 hx with rfl|hx
  ·exact ⟨h1.1.1.1.1.1,hp⟩
  ·exact ⟨(i2 x hx).1,fun p hpp=>Int.lt_trans (hp p hpp) ((i2 x hx).2 _ rfl)⟩
structure OkS (s:Sk):Prop where
 c0:0≤s.clock
 c1:s.clock≤1073741824
 w:s.waits.length≤200
 d:s.done.length≤200
 up:idsUp s.waits
 m:∀ x∈s.waits,msgB x.msg=true
theorem chkS_ok {s:Sk} (h:chkS s=true):OkS s:=by
 simp only [chkS,headS,Bool.and_eq_true,Bool.not_eq_true',decide_eq_false_iff_not] at h
 obtain ⟨⟨⟨⟨⟨⟨h1,h2⟩,h3⟩,h4⟩,h5⟩,h6⟩,h7⟩:=h
 obtain ⟨i1,i2⟩:=chkW_up h6
 exact ⟨by omega,by omega,by omega,by omega,⟨i1,fun x hx=>msgB_id (i2 x hx).1⟩,fun x hx=>(i2 x hx).1⟩
theorem OkS.few {s:Sk} (h:OkS s):fewK s:=⟨by have:=h.w;omega,by have:=h.d;omega,fun x hx=>by have:=msgB_groups (h.m x hx);omega⟩
theorem idsUp_ids {l l':List Wt} (h:idsUp l) (he:l'.map (fun x=>x.msg.id)=l.map (fun x=>x.msg.id)):idsUp l':=by
 constructor
 ·have h1:(l.map (fun x=>x.msg.id)).Pairwise (· < ·):=List.pairwise_map.2 h.1
  rw [← he] at h1
  exact List.pairwise_map.1 h1
 ·intro x hx
  have:x.msg.id∈l.map (fun x=>x.msg.id):=by rw [← he];exact List.mem_map.2 ⟨x,hx,rfl⟩
  obtain ⟨y,hy,e⟩:=List.mem_map.1 this
  rw [← e]
  exact h.2 y hy
theorem final_up {id time:Int} {s:Sk} (h:idsUp s.waits):idsUp (finalS id time s).waits∧(finalS id time s).waits.length=s.waits.length∧(finalS id time s).done=s.done:=by
 unfold finalS
 split
 ·exact ⟨h,rfl,rfl⟩
 ·refine ⟨idsUp_ids h ?_,by simp,rfl⟩
  rw [List.map_set]
  apply List.ext_getElem?
  intro j
  rw [List.getElem?_set]
  split
  ·next hj =>
   subst hj
   by_cases hp:posW s.waits id < s.waits.length
   ·simp [hp,List.getD]
   ·simp [hp]
  ·rfl
theorem tw_take {α:Type} (p:α→Bool):∀ l:List α,l.take (l.takeWhile p).length=l.takeWhile p∧l.drop (l.takeWhile p).length=l.dropWhile p
 |[]=>⟨rfl,rfl⟩
 |y :: l=>by
  by_cases hy:p y=true
  ·rw [List.takeWhile_cons_of_pos hy,List.dropWhile_cons_of_pos hy]
   simp [tw_take p l]
  ·rw [List.takeWhile_cons_of_neg hy,List.dropWhile_cons_of_neg hy]
   simp
theorem tw_mem {α:Type} (p:α→Bool):∀ (l:List α) (x:α),x∈l.takeWhile p→p x=true
 |[],x,h=>by cases h
 |y :: l,x,h=>by
  by_cases hy:p y=true
  ·rw [List.takeWhile_cons_of_pos hy] at h
   rcases List.mem_cons.1 h with rfl|h
   ·exact hy
   ·exact tw_mem p l x h
  ·rw [List.takeWhile_cons_of_neg hy] at h
   cases h
theorem takeWhile_eq_take {l:List Wt} {id:Int}:l.take (posW l id)=l.takeWhile (fun x=>decide (x.msg.id < id))∧l.drop (posW l id)=l.dropWhile (fun x=>decide (x.msg.id < id)):=tw_take _ l
theorem dropWhile_ge {l:List Wt} {id:Int} (h:l.Pairwise fun x y=>x.msg.id < y.msg.id):∀ x∈l.dropWhile (fun x=>decide (x.msg.id < id)),id≤x.msg.id:=by
 induction l with
 |nil=>intro x hx;cases hx
 |cons y l ih =>
  rw [List.pairwise_cons] at h
  intro x hx
  by_cases hy:y.msg.id < id
  ·rw [List.dropWhile_cons_of_pos (by simpa using hy)] at hx
   exact ih h.2 x hx
  ·rw [List.dropWhile_cons_of_neg (by simpa using hy)] at hx
   rcases List.mem_cons.1 hx with rfl|hx
   ·omega
   ·have:=h.1 x hx;omega
theorem insert_up {l:List Wt} {x:Wt} (h:idsUp l) (hn:hasW l x.msg.id=false) (hx:smallI x.msg.id):idsUp (insW l (posW l x.msg.id) x):=by
 constructor
 ·obtain ⟨e1,e2⟩:=takeWhile_eq_take (l:=l) (id:=x.msg.id)
  have hp:=h.1
  rw [← List.take_append_drop (posW l x.msg.id) l] at hp
  obtain ⟨p1,p2,p3⟩:=List.pairwise_append.1 hp
  have a1:∀ y∈l.take (posW l x.msg.id),y.msg.id < x.msg.id:=fun y hy=>by
   rw [e1] at hy
   have:=tw_mem _ _ _ hy
   simpa using this
  have a2:∀ y∈l.drop (posW l x.msg.id),x.msg.id < y.msg.id:=fun y hy=>by
   have h1:=dropWhile_ge (id:=x.msg.id) h.1 y (by rw [← e2];exact hy)
   have h2:y.msg.id≠x.msg.id:=fun e=>by
    have:hasW l x.msg.id=true:=by
     rw [hasW,List.any_eq_true]
     exact ⟨y,List.mem_of_mem_drop hy,by simp [e]⟩
    rw [hn] at this
    cases this
   omega
  refine List.pairwise_append.2 ⟨p1,List.pairwise_cons.2 ⟨a2,p2⟩,fun y hy z hz=>?_⟩
  rcases List.mem_cons.1 hz with rfl|hz
  ·exact a1 y hy
  ·exact p3 y hy z hz
 ·intro y hy
  rcases insW_mem hy with rfl|hy
  ·exact hx
  ·exact h.2 y hy
theorem assign_up {group:Int} {m:PM} {s:Sk} (h:idsUp s.waits) (hm:smallI m.id):idsUp (assignS group m s).2.waits∧(assignS group m s).2.waits.length≤s.waits.length+1∧(assignS group m s).2.done=s.done:=by
 unfold assignS
 split
 ·exact ⟨h,Nat.le_succ _,rfl⟩
 ·next hno =>
  split
  ·exact ⟨h,Nat.le_succ _,rfl⟩
  ·refine ⟨insert_up (x:=⟨m,s.clock+1,false⟩) h ?_ hm,?_,rfl⟩
   ·cases hh:hasW s.waits m.id
    ·rfl
    ·exact absurd (Or.inl hh) hno
   ·show (insW _ _ _).length≤_
    rw [insW_len (posW_le _ _)]
    exact Nat.le_refl _
theorem step_up {group:Int} {c:PC} {s:Sk} (h:OkS s) (hc:okCom c=true):idsUp (stepS group c s).2.waits∧(stepS group c s).2.waits.length+(stepS group c s).2.done.length≤1000:=by
 have h1:=h.w
 have h2:=h.d
 unfold stepS
 split
 ·next hk =>
  obtain ⟨a,b,d⟩:=assign_up (group:=group) h.up (msgB_id (okCom_assign hc hk))
  exact ⟨a,by rw [d];omega⟩
 ·split
  ·obtain ⟨a,b,d⟩:=final_up (id:=c.id) (time:=c.time) h.up
   exact ⟨a,by rw [d,b];omega⟩
  ·exact ⟨h.up,by show s.waits.length+s.done.length≤1000;omega⟩
abbrev Tk:=Int × Int × Int
structure Gs where
 sk:Sk
 m:Mdl
 last:List Int
def onTopM (c:PC) (last:List Int) (m:Mdl):List Int × Mdl :=
 if c.id % 1048576 < last.getD (c.id / 1048576).toNat 0 then (last,m)
 else (last.set (c.id / 1048576).toNat (c.id % 1048576+1),if (doM m c.kind c.topic c.who c.n).2=0 then (doM m c.kind c.topic c.who c.n).1 else m)
def putsM:Mdl→List Tk→List PM→Mdl × List Tk
 |m,tk,[]=>(m,tk)
 |m,tk,x :: l=>if (putM m x.id x.topic x.key x.body).2.2=0 then putsM (putM m x.id x.topic x.key x.body).1 (tk++[(x.id,x.topic,(putM m x.id x.topic x.key x.body).2.1)]) l else putsM m tk l
def stepQ (g:Int) (c:PC) (s:Gs):Gs × List Tk × Int :=
 if 4≤c.kind then (⟨s.sk,(onTopM c s.last s.m).2,(onTopM c s.last s.m).1⟩,[],0)
 else if (apS g c s.sk).1≠0 then (s,[],(apS g c s.sk).1)
 else (⟨(apS g c s.sk).2.1,(putsM s.m [] (apS g c s.sk).2.2).1,s.last⟩,(putsM s.m [] (apS g c s.sk).2.2).2,0)
def runQ (g:Int):List PC→Gs→List Tk→Gs × List Tk
 |[],s,o=>(s,o)
 |c :: l,s,o=>runQ g l (stepQ g c s).1 (o++(stepQ g c s).2.1)
def lenM (m:Mdl) (D:Nat):Prop:=∀ i:Int,0≤i→i < 4→(plN m i).all.length≤D
theorem plN_set {m:Mdl} {t i:Int} {p:Pl} {c:List (List Int)} (h:m.tops.length=4) (h0:0≤t) (h1:t < 4) (i0:0≤i) (i1:i < 4):plN ⟨m.tops.set t.toNat p,c⟩ i=if t=i then p else plN m i:=by
 unfold plN
 by_cases e:t=i
 ·subst e
  rw [if_pos rfl,getD_lt (by rw [List.length_set];omega),List.getElem_set_self]
 ·rw [if_neg e,getD_lt (by rw [List.length_set];omega),List.getElem_set_ne (by omega),getD_lt (show i.toNat < m.tops.length by omega)]
theorem putM_len {m u:Mdl} {id t n:Int} {k b:ByteArray} {D:Nat} (hm:mayM m) (h:putM m id t k b=(u,n,0)) (hl:lenM m D):lenM u (D+1):=by
 rw [putM] at h
 split at h
 ·next ha =>
  obtain ⟨_,h0,h1⟩:=askM_zero.1 ha
  split at h
  ·cases h
  ·split at h
   ·cases h
   ·split at h
    ·cases h
    ·have e:u=_:=(congrArg (·.1) h).symm
     subst e
     intro i i0 i1
     simp only
     rw [plN_set hm.1.1 h0 h1 i0 i1]
     split
     ·next e=>subst e;have:=hl t i0 i1;simp;omega
     ·have:=hl i i0 i1;omega
 ·next ha =>
  have:askM m t=0:=congrArg (·.2.2) h
  exact absurd this ha
theorem doM_len {m u:Mdl} {kd t who n:Int} {D:Nat} (hm:mayM m) (h:doM m kd t who n=(u,0)) (hl:lenM m D):lenM u D:=by
 rw [doM,if_pos hm] at h
 split at h
 ·cases h
 ·next hr =>
  obtain ⟨_,⟨h0,h1⟩,_⟩:=Classical.not_not.1 hr
  split at h
  ·split at h
   ·cases h
   ·have e:u=_:=(congrArg (·.1) h).symm
    subst e
    intro i i0 i1
    exact hl i i0 i1
  ·split at h
   all_goals
    have e:u=_:=(congrArg (·.1) h).symm
    subst e
    intro i i0 i1
    simp only
    rw [plN_set hm.1.1 h0 h1 i0 i1]
    split
    ·next e=>subst e;exact hl t i0 i1
    ·exact hl i i0 i1
theorem putM_may {m u:Mdl} {id t n:Int} {k b:ByteArray} {D:Nat} (hm:mayM m) (hl:lenM m D) (hD:D < 600) (h:putM m id t k b=(u,n,0)):mayM u :=
 (putM_str hm (fun h0 h1 e=>by have:=hl t h0 h1;omega) h).2 rfl
theorem putsM_ok:∀ (l:List PM) (m:Mdl) (tk:List Tk) (D:Nat),mayM m→lenM m D→D+l.length≤500→mayM (putsM m tk l).1∧lenM (putsM m tk l).1 (D+l.length)
 |[],m,tk,D,hm,hl,_=>⟨hm,hl⟩
 |x :: l,m,tk,D,hm,hl,hD=>by
  rw [putsM]
  simp only [List.length_cons] at hD ⊢
  split
  ·next h0 =>
   have hp:putM m x.id x.topic x.key x.body=((putM m x.id x.topic x.key x.body).1,(putM m x.id x.topic x.key x.body).2.1,0):=by rw [← h0]
   have:=putsM_ok l _ (tk++[(x.id,x.topic,(putM m x.id x.topic x.key x.body).2.1)]) (D+1) (putM_may hm hl (by omega) hp) (putM_len hm hp hl) (by omega)
   rw [show D+(l.length+1)=D+1+l.length by omega]
   exact this
  ·have:=putsM_ok l m tk D hm hl (by omega)
   exact ⟨this.1,fun i i0 i1=>by have:=this.2 i i0 i1;omega⟩
theorem delS_len:∀ (f:Nat) (s:Sk) (out:List PM),(delS f s out).2.length+s.done.length=(delS f s out).1.done.length+out.length
 |0,s,out=>by rw [delS];exact Nat.add_comm _ _
 |f+1,s,out=>by
  rw [delS]
  split
  ·exact Nat.add_comm _ _
  ·next x l he =>
   split
   ·have:=delS_len f ⟨s.clock,delW s.waits (posW s.waits (minW x l).msg.id),s.done++[ofW (minW x l)]⟩ (out++[(minW x l).msg])
    simp only [List.length_append,List.length_cons,List.length_nil] at this
    omega
   ·exact Nat.add_comm _ _
theorem step_done {g:Int} {c:PC} {s:Sk}:(stepS g c s).2.done=s.done:=by
 unfold stepS
 split
 ·unfold assignS
  split
  ·rfl
  ·split <;> rfl
 ·split
  ·unfold finalS
   split <;> rfl
  ·rfl
theorem apS_len {g:Int} {c:PC} {s:Sk} (h:(apS g c s).1=0):(apS g c s).2.2.length+s.done.length=(apS g c s).2.1.done.length∧(apS g c s).2.1.done.length≤200:=by
 unfold apS at h ⊢
 split at h
 ·cases h
 ·split at h
  ·cases h
  ·split at h
   ·cases h
   ·split at h
    ·next hx=>exact absurd h hx
    ·next h1 h2 h3 h4 =>
     rw [if_neg h1,if_neg h2,if_neg h3,if_neg h4]
     unfold endK at h ⊢
     split at h
     ·cases h
     ·next h5 =>
      rw [if_neg h5]
      have:=delS_len (stepS g c s).2.waits.length (stepS g c s).2 []
      rw [step_done] at this
      exact ⟨by simpa using this,Nat.le_of_not_lt h5⟩
structure OkG (s:Gs):Prop where
 may:mayM s.m
 len:lenM s.m s.sk.done.length
 done:s.sk.done.length≤200
 six:s.last.length=6
 low:∀ x∈s.last,0≤x∧x≤1048576
theorem onTopM_ok {c:PC} {last:List Int} {m:Mdl} {D:Nat} (hm:mayM m) (hl:lenM m D) (h6:last.length=6) (hx:∀ x∈last,0≤x∧x≤1048576) :
  mayM (onTopM c last m).2∧lenM (onTopM c last m).2 D∧(onTopM c last m).1.length=6∧∀ x∈(onTopM c last m).1,0≤x∧x≤1048576:=by
 unfold onTopM
 split
 ·exact ⟨hm,hl,h6,hx⟩
 ·have hl2:∀ x∈last.set (c.id / 1048576).toNat (c.id % 1048576+1),0≤x∧x≤1048576:=fun x hm=>by
   rcases List.mem_or_eq_of_mem_set hm with h|rfl
   ·exact hx x h
   ·omega
  refine ⟨?_,?_,by simpa using h6,hl2⟩
  ·simp only
   split
   ·next h0=>exact (doM_str hm (show doM m c.kind c.topic c.who c.n=((doM m c.kind c.topic c.who c.n).1,0) by rw [← h0])).2 rfl
   ·exact hm
  ·simp only
   split
   ·next h0=>exact doM_len hm (show doM m c.kind c.topic c.who c.n=((doM m c.kind c.topic c.who c.n).1,0) by rw [← h0]) hl
   ·exact hl
theorem stepQ_ok {g:Int} {c:PC} {s:Gs} (h:OkG s):OkG (stepQ g c s).1:=by
 unfold stepQ
 split
 ·obtain ⟨a,b,d,e⟩:=onTopM_ok (c:=c) h.may h.len h.six h.low
  exact ⟨a,b,h.done,d,e⟩
 ·split
  ·exact h
  ·next h4 h0 =>
   obtain ⟨e1,e2⟩:=apS_len (Classical.not_not.1 h0)
   obtain ⟨a,b⟩:=putsM_ok (apS g c s.sk).2.2 s.m [] _ h.may h.len (by omega)
   refine ⟨a,?_,e2,h.six,h.low⟩
   show lenM _ (apS g c s.sk).2.1.done.length
   rw [← e1,Nat.add_comm]
   exact b
end Go.Proofs.YtdfmcgekfogpbabGreatDoor
set_option maxRecDepth 100000
namespace Go.Proofs.YtdfmcgekfogpbabGreatDoor
open Go.RowKit
def newS:Str:=⟨List.replicate 4 Top.zero,newC⟩
set_option maxHeartbeats 8000000 in
set_option maxRecDepth 100000 in
theorem strNew_any (w:World):Calls Tryz.prog 45 #[] w (StrEnd newS w):=by
 obtain ⟨i0,hi,hz0,hz1,hz2⟩:=info_parts info_top
 go_enter Tryz.func45,Tryz.ntmps45
 go_wp2_with fail
 refine Calls.mono (comNew_any _) ?_
 rintro e w1 ⟨vc,rfl,oc,hb⟩
 obtain ⟨ac,nac,cac,rfl⟩:=oc.reads.shape
 have HB:Hid (Below w.heap.size w _):=below_step (by repeat (first|with_reducible (first|exact Below.refl _ _|apply Below.drew|apply below_alloc)|((first|with_reducible refine Below.alloc ?_ ?_ _|with_reducible refine Below.setCell ?_ ?_ _);rotate_left;focus (first|(simp <;> omega)|omega)))) hb
 have R:Blk _ (w.heap.size) _ _:=Blk.step (by repeat (first|((with_reducible apply Blk.new);focus (first|rfl|(simp <;> omega)))|with_reducible (first|apply Blk.drew|apply Blk.alloc|apply Blk.set_)|((with_reducible apply Blk.far);rotate_left;focus (first|(simp <;> omega)|omega)))) hb
 obtain ⟨r0,r1,rz⟩:=cells2 R
 have rl:=Blk.lt R
 have HR:=LH R
 clear R
 have OC:Hid (OwnC w1 (w.heap.size+1) _ _):=oc.le (by simp)
 have s1:w.heap.size+1≤w1.heap.size:=rl
 clear hb oc
 go_wp2_with fail
 go_loopg [4] 4 (fun g i wr=>∃ (k:Nat) (al:Option Addr) (capl:Nat),k≤4∧g=4 - k∧i=.int .i64 (k:Int)∧Hid (OwnT wr (w1.heap.size+1) (.slice al k capl) (List.replicate k Top.zero))∧Hid (OwnC wr (w.heap.size+1) (.slice ac nac cac) newC)∧Hid (Below w.heap.size w wr) ∧
  Hid (Blk wr w.heap.size 33 [.slice none 0 0,.slice none 0 0])∧Hid (Blk wr w1.heap.size 33 [.slice al k capl,.slice ac nac cac]))
 case atStart =>
  refine ⟨0,none,0,Nat.zero_le _,rfl,rfl,OwnT.nil _ _,OC.out.alloc _,?_,?_,?_⟩
  ·show Below _ _ _
   repeat (first|with_reducible (first|exact HB.out|exact Below.refl _ _|apply Below.drew|apply below_alloc)|((first|with_reducible refine Below.alloc ?_ ?_ _|with_reducible refine Below.setCell ?_ ?_ _);rotate_left;focus (first|(simp <;> omega)|omega)))
  ·show Blk _ _ _ _
   repeat (first|with_reducible exact HR.out|((with_reducible apply Blk.new);focus (first|rfl|(simp <;> omega)))|with_reducible (first|apply Blk.drew|apply Blk.alloc|apply Blk.set_)|((with_reducible apply Blk.far);rotate_left;focus (first|(simp <;> omega)|omega)))
  ·show Blk _ _ _ _
   exact Blk.new rfl
 case round =>
  clear OC HB HR r0 r1 rz rl
  obtain ⟨k,al,capl,hk,rfl,rfl,OT,OC,HB,HR,HQ⟩:=hrel
  obtain ⟨q0,q1,qz⟩:=cells2 HQ.out
  obtain ⟨r0,r1,rz⟩:=cells2 HR.out
  have ql:=HQ.out.lt
  have rl:=HR.out.lt
  by_cases hlt:k < 4
  ·have hk0:(0:Int)≤(k:Int):=by omega
   have hk1:(k:Int) < 4:=by omega
   have hlk:(List.replicate k Top.zero).length=k:=List.length_replicate
   have HLK:=LH hlk
   obtain ⟨ps,hpl,hrow,hent⟩:=OT.out
   rw [hlk] at hrow
   have HROW:=LH hrow
   have HPL:=LH hpl
   have HENT:=LH hent
   clear hlk hpl hrow hent
   go_wp2_with fail
   go_region_law (first|(go_simp;go_at_call 86;refine (new_any _).mono ?_;rintro e w4 ⟨rfl,hb⟩;have HQ4:=LH (Blk.step (Blk.drew HQ.out) hb);have HW4:Hid (Below wr.heap.size wr w4):=below_step (by repeat (first|with_reducible (first|exact Below.refl _ _|apply Below.drew|apply below_alloc)|((first|with_reducible refine Below.alloc ?_ ?_ _|with_reducible refine Below.setCell ?_ ?_ _);rotate_left;focus (first|(simp <;> omega)|omega)))) hb;have hz4:wr.heap.size≤w4.heap.size:=HW4.out.size;have hy4:w1.heap.size < w4.heap.size:=HQ4.out.lt;obtain ⟨m0,m1,mz⟩:=cells2 HQ4.out;clear hb)|(refine step_append_lies _ rfl _ _ 30 rfl (w1.heap.size+1) 103 i0 _ 4 48 Tryz.underlying30 hi hz0 hz1 hz2 rfl (by decide) _ k _ rfl ((ownsRow_keep HROW.out HW4.out).alloc _) ⟨w4.heap.size,0,none⟩ 1 1 (topCells (.slice none 0 0,Top.zero)) rfl rfl (news_top _ Top.zero rfl) (topCells_one _ _ _ Top.zero) (by decide) (by unfold maxLen;omega) (by omega) (by simp;omega) _ rfl ?_;intro g5 cap5 w5 hown hgrow hat5 hlt5;have HQ5:=LH (Blk.grown (HQ4.out.alloc _) hgrow (fun e=>Nat.lt_irrefl _ (HROW.out.lt _ e).1));obtain ⟨m0,m1,mz⟩:=cells2 HQ5.out))
   all_goals
    have OT5:Hid (OwnT w5 (w1.heap.size+1) (.slice (some ⟨g5,0,none⟩) (k+1) cap5) (List.replicate (k+1) Top.zero)):=by
     rw [List.replicate_succ']
     exact OwnT.snoc2 HPL.out ((ownsRow_keep HROW.out HW4.out).alloc _) (fun p hp=>own_below (own_below (HENT.out p hp) HW4.out) ((Below.refl _ _).alloc (Nat.le_refl _) _)) (World.ownsRow_nil _ _ _ _) hgrow hown HLK.out.symm
    have OC5:=LH (OwnC.grown (OwnC.alloc (show OwnC w4 _ _ _ from OC.out.keep HW4.out) _) hgrow ((ownsRow_keep HROW.out HW4.out).alloc _) rfl (by decide) (by decide))
    have HB5:Hid (Below w.heap.size w w5):=Below.grown ((Below.step HB.out HW4.out (by omega)).alloc (by omega) _) hgrow (by simp;omega) (fun j hj=>by have:=(HROW.out.lt j hj).1;omega)
    have HR5:=LH (Blk.grown ((HR.out.step HW4.out).alloc _) hgrow (fun e=>by have:=(HROW.out.lt _ e).1;omega))
    have hl5:w1.heap.size < w5.heap.size:=HQ5.out.lt
    clear hown hgrow
    go_wp2_with fail
    go_roundg (4 - (k+1))
    case measure=>omega
    case rel =>
     refine ⟨k+1,some ⟨g5,0,none⟩,cap5,by omega,rfl,by go_num,?_,?_,?_,?_,?_⟩
     ·show OwnT _ _ _ _
      exact OT5.out.far (by omega)
     ·exact LH (OwnC.blk OC5.out HQ5.out (by decide) (by decide))
     ·show Below _ _ _
      exact HB5.out.setCell (by show w.heap.size≤w1.heap.size;omega) _
     ·show Blk _ _ _ _
      exact HR5.out.far (by omega) _
     ·show Blk _ _ _ _
      exact HQ5.out.set_ 0 _
  ·obtain rfl:k=4:=by omega
   go_wp2_with fail
   obtain ⟨t0,t1,-⟩:=cells2 ((HR.out.set_ 0 (.slice al 4 capl)).set_ 1 (.slice ac nac cac))
   refine bodyPost_ret (v:=.agg #[.slice al 4 capl,.slice ac nac cac]) (by simp [results,Tryz.results45,go_sem,t0,t1]) rfl ⟨_,_,rfl,⟨_,_,rfl,?_,?_⟩,?_⟩
   ·exact OwnT.le ((OT.out.far (by omega)).far (by omega)) (by omega)
   ·exact OwnRows.le (OwnC.far (OwnC.far OC.out (by omega)) (by omega)) (by omega)
   ·exact (HB.out.setCell (by simp) _).setCell (by simp) _
def plBad (p:Pl):Bool:=!decide (shapedP p)
theorem plBad_any {v:Value} {p:Pl} {w:World} (h:PlR w v p):Calls Tryz.prog 73 #[v] w fun e w'=>e=.returned (.bool (plBad p))∧Below w.heap.size w w':=by
 have PP:=LH h
 obtain ⟨a,cap,rfl,_⟩:=h
 obtain ⟨q,hq⟩:∃ q,q=decide (shapedP p):=⟨_,rfl⟩
 have K:Hid (∀ (W:World) {v:Value},PlR W v p→Calls Tryz.prog 74 #[v] W fun e w'=>e=.returned (.bool q)∧Below W.heap.size W w'):=LH (fun W v hW=>by rw [hq];exact shaped_any hW)
 rw [plBad,← hq]
 clear hq
 go_enter Tryz.func73,Tryz.ntmps73
 go_wp2_with fail
 refine Calls.mono (K.out _ ?_) ?_
 ·exact PP.out.below (by repeat (first|with_reducible (first|exact Below.refl _ _|apply Below.drew|apply below_alloc)|((first|with_reducible refine Below.alloc ?_ ?_ _|with_reducible refine Below.setCell ?_ ?_ _);rotate_left;focus (first|(simp <;> omega)|omega))))
 rintro e w1 ⟨rfl,hb⟩
 have HB:Hid (Below w.heap.size w _):=below_step (by repeat (first|with_reducible (first|exact Below.refl _ _|apply Below.drew|apply below_alloc)|((first|with_reducible refine Below.alloc ?_ ?_ _|with_reducible refine Below.setCell ?_ ?_ _);rotate_left;focus (first|(simp <;> omega)|omega)))) hb
 clear hb
 go_wp2_with fail
 go_ret
 exact ⟨rfl,HB.out⟩
def SomePl (l:List Pl) (w:World) (e:Ending) (w':World):Prop:=(∃ i:Int,e=.returned (.int .i64 i)∧(if l.any plBad then 0≤i else i=-1))∧Below w.heap.size w w'
set_option maxHeartbeats 1000000 in
set_option maxRecDepth 100000 in
theorem idxPl_any {v:Value} {l:List Pl} {w:World} (h:PlsR w v l) :
  Calls Tryz.prog 118 #[v,.func (.func 73) #[] #[]] w (SomePl l w):=by
 obtain ⟨a,cap,rfl,hcap,hm,_,hd⟩:=h.shape
 unfold maxLen at hm
 have HD:=LH hd
 obtain ⟨n,hn⟩:∃ n,n=l.length:=⟨_,rfl⟩
 rw [← hn] at HD hcap ⊢
 have HN:=LH hn
 have hn':(n:Int)≤9223372036854775807:=by omega
 clear hd h hn
 go_enter Tryz.func118,Tryz.ntmps118
 go_wp2_with fail
 go_loopg [5,8] n (fun g _ i wr=>∃ k:Nat,k≤n∧g=n - k∧i=.int .i64 (k:Int)∧Hid (∀ j,j < k→plBad (l.getD j default)=false)∧Hid (Below w.heap.size w wr))
 case atStart=>exact ⟨0,Nat.zero_le _,rfl,rfl,(fun j hj=>absurd hj (Nat.not_lt_zero _)),Below.refl _ _⟩
 case round =>
  obtain ⟨k,hk,rfl,rfl,hno,HB⟩:=hrel
  by_cases hlt:k < n
  ·have hk0:(0:Int)≤(k:Int):=by omega
   have hk1:(k:Int) < (n:Int):=by omega
   obtain ⟨bb,off,ha,hat⟩:=HD.out (by omega)
   subst ha
   obtain ⟨x,hx⟩:∃ x,x=l.getD k default:=⟨_,rfl⟩
   have hat2:=hat k hlt
   rw [← hx] at hat2
   obtain ⟨ea,ecap,⟨⟨c0,c1⟩,c2⟩,hT⟩:=hat2.keep HB.out
   have T:=LH hT
   have HX:=LH hx
   obtain ⟨q,hq⟩:∃ q,q=plBad x:=⟨_,rfl⟩
   have L:∀ W,PlR W (.agg #[.slice ea x.all.length ecap,.int .i64 x.base,.int .i64 x.mark]) x→Calls Tryz.prog 73 #[.agg #[.slice ea x.all.length ecap,.int .i64 x.base,.int .i64 x.mark]] W fun e w'=>e=.returned (.bool q)∧Below W.heap.size W w':=fun W hW=>by rw [hq];exact plBad_any hW
   have HL:=LH L
   have HQ:=LH hq
   clear hat hat2 hT hx hq L
   cases q
   all_goals
    go_wp2_with fail
    refine Calls.mono (HL.out _ ?_) ?_
    ·exact T.out.below (by repeat (first|with_reducible (first|exact Below.refl _ _|apply Below.drew|apply below_alloc)|((first|with_reducible refine Below.alloc ?_ ?_ _|with_reducible refine Below.setCell ?_ ?_ _);rotate_left;focus (first|(simp <;> omega)|omega))))
    rintro e w1 ⟨rfl,hb⟩
    replace HB:Hid (Below w.heap.size w _):=below_step (by repeat (first|with_reducible (first|exact HB.out|exact Below.refl _ _|apply Below.drew|apply below_alloc)|((first|with_reducible refine Below.alloc ?_ ?_ _|with_reducible refine Below.setCell ?_ ?_ _);rotate_left;focus (first|(simp <;> omega)|omega)))) hb
    clear hb c0 c1 c2
    go_wp2_with fail
   ·go_roundg (n - (k+1))
    case measure=>omega
    case rel =>
     refine ⟨k+1,by omega,rfl,by go_num,fun j hj=>?_,HB⟩
     by_cases hjk:j < k
     ·exact hno.out j hjk
     ·obtain rfl:j=k:=by omega
      rw [← HX.out,← HQ.out]
   ·go_ret
    refine ⟨⟨k,rfl,?_⟩,HB.out⟩
    have:l.any plBad=true:=by
     rw [List.any_eq_true]
     have h1:=HN.out
     refine ⟨x,?_,HQ.out.symm⟩
     rw [HX.out,show l.getD k default=l[k]'(by omega) by simp [List.getD,show k < l.length by omega]]
     exact List.getElem_mem _
    rw [if_pos this]
    omega
  ·obtain rfl:k=n:=by omega
   have hlt':¬ (k:Int) < (k:Int):=by omega
   go_wp2_with fail
   go_ret
   refine ⟨⟨-1,rfl,?_⟩,HB.out⟩
   have:l.any plBad=false:=by
    rw [List.any_eq_false]
    intro y hy
    obtain ⟨j,hj,rfl⟩:=List.getElem_of_mem hy
    have h1:=HN.out
    have h2:=hno.out j (by omega)
    simpa [List.getD,hj] using h2
   rw [this]
   rfl
theorem contPl_any {v:Value} {l:List Pl} {w:World} (h:PlsR w v l) :
  Calls Tryz.prog 72 #[v,.func (.func 73) #[] #[]] w fun e w'=>e=.returned (.bool (l.any plBad))∧Below w.heap.size w w':=by
 have K:=LH (idxPl_any h)
 obtain ⟨a,cap,rfl,_⟩:=h.shape
 obtain ⟨c,hc⟩:∃ c,c=l.any plBad:=⟨_,rfl⟩
 rw [← hc]
 have HC:=LH hc
 obtain ⟨n,hn⟩:∃ n,n=l.length:=⟨_,rfl⟩
 rw [← hn] at K ⊢
 clear hc h hn
 go_enter Tryz.func72,Tryz.ntmps72
 go_wp2_with fail
 refine K.out.mono ?_
 rintro e w1 ⟨⟨i,rfl,hi⟩,hb⟩
 rw [← HC.out] at hi
 cases c
 ·simp only [Bool.false_eq_true,if_false] at hi
  subst hi
  go_wp2_with fail
  go_ret
  exact ⟨rfl,hb⟩
 ·rw [if_pos rfl] at hi
  go_wp2_with fail
  go_ret
  exact ⟨rfl,hb⟩
theorem entP_mem {p:Pl} {x:Ent} (h:x∈entP p):x∈p.all:=(keepF_sub _ _).subset (List.mem_filter.1 h).1
theorem shaped_ok {p:Pl} (h:shapedP p) {x:Ent} (hx:x∈p.all):Top.okEnt x:=by
 obtain ⟨i,hi,rfl⟩:=List.getElem_of_mem hx
 have:=(h.1 i hi).2
 rwa [getD_at hi] at this
theorem mdl_keys {m:Mdl} (h:∀ p∈m.tops,shapedP p):strKeys (streamM m):=fun t ht x hx=>by
 obtain ⟨p,hp,rfl⟩:=List.mem_map.1 ht
 have:=(shaped_ok (h p hp) (entP_mem hx)).2.2.1
 exact Nat.le_trans this (by unfold maxLen;omega)
set_option maxHeartbeats 4000000 in
set_option maxRecDepth 100000 in
theorem mdlCheck_any {v:Value} {m:Mdl} {w:World} (h:MdlR w v m) (hf:few m.coms) (c:Int) (hc:c=if mayM m then 0 else 8) :
  Calls Tryz.prog 37 #[v] w fun e w'=>e=.returned (.int .i64 c)∧Below w.heap.size w w':=by
 have S:=LH h
 have HF:=LH hf
 obtain ⟨a,cap,b,nc,cc,rfl,hT,-⟩:=h.shape
 have TT:=LH hT
 obtain ⟨q,hq⟩:∃ q,q=m.tops.any plBad:=⟨_,rfl⟩
 have HQ:=LH hq
 have K:=LH (fun (W:World) (v:Value) (hW:PlsR W v m.tops)=>contPl_any hW)
 rw [← hq] at K
 obtain ⟨n,hn⟩:∃ n,n=m.tops.length:=⟨_,rfl⟩
 have HN:=LH hn
 rw [← hn] at S TT ⊢
 have HC:=LH hc
 clear h hf hT hq hn hc
 by_cases h4:4 < (n:Int)
 ·have e:c=8:=by rw [HC.out,if_neg (fun hm=>by have:=hm.1.1;have:=HN.out;omega)]
  subst e
  go_enter Tryz.func37,Tryz.ntmps37
  go_wp2_with fail
  go_ret
  refine ⟨rfl,?_⟩
  repeat (first|with_reducible (first|exact Below.refl _ _|apply Below.drew|apply below_alloc)|((first|with_reducible refine Below.alloc ?_ ?_ _|with_reducible refine Below.setCell ?_ ?_ _);rotate_left;focus (first|(simp <;> omega)|omega)))
 ·cases q
  ·have hs:∀ p∈m.tops,shapedP p:=fun p hp=>by
    have h1:=List.any_eq_false.1 HQ.out.symm p hp
    simpa [plBad] using h1
   have HSH:=LH hs
   have HC2:=LH (show c=if mayS (streamM m) then 0 else 8 by
    rw [HC.out]
    by_cases hm:mayM m
    ·rw [if_pos hm,if_pos ((mayM_iff hs).2 hm)]
    ·rw [if_neg hm,if_neg (fun h=>hm ((mayM_iff hs).1 h))])
   have HFF:=LH (show m.tops.length≤1000000∧few m.coms from ⟨by have:=HN.out;omega,HF.out⟩)
   clear hs
   go_enter Tryz.func37,Tryz.ntmps37
   go_wp2_with fail
   refine Calls.mono (K.out _ _ ?_) ?_
   ·exact TT.out.below (by repeat (first|with_reducible (first|exact Below.refl _ _|apply Below.drew|apply below_alloc)|((first|with_reducible refine Below.alloc ?_ ?_ _|with_reducible refine Below.setCell ?_ ?_ _);rotate_left;focus (first|(simp <;> omega)|omega))))
   rintro e w1 ⟨rfl,hb⟩
   have HB:Hid (Below w.heap.size w _):=below_step (by repeat (first|with_reducible (first|exact Below.refl _ _|apply Below.drew|apply below_alloc)|((first|with_reducible refine Below.alloc ?_ ?_ _|with_reducible refine Below.setCell ?_ ?_ _);rotate_left;focus (first|(simp <;> omega)|omega)))) hb
   have P:Blk _ (w.heap.size) _ _:=Blk.step (by repeat (first|((with_reducible apply Blk.new);focus (first|rfl|(simp <;> omega)))|with_reducible (first|apply Blk.drew|apply Blk.alloc|apply Blk.set_)|((with_reducible apply Blk.far);rotate_left;focus (first|(simp <;> omega)|omega)))) hb
   obtain ⟨p0,p1,pz⟩:=cells2 P
   have pl:=Blk.lt P
   have HP:=LH P
   clear P
   clear hb
   go_wp2_with fail
   refine Calls.mono (streamed_any (m:=m) ?_ HSH.out HFF.out) ?_
   ·exact S.out.below (by repeat (first|with_reducible (first|exact HB.out|exact Below.refl _ _|apply Below.drew|apply below_alloc)|((first|with_reducible refine Below.alloc ?_ ?_ _|with_reducible refine Below.setCell ?_ ?_ _);rotate_left;focus (first|(simp <;> omega)|omega))))
   rintro e w2 ⟨ta,tc,rfl,os,hb⟩
   replace HB:Hid (Below w.heap.size w _):=below_step (by repeat (first|with_reducible (first|exact HB.out|exact Below.refl _ _|apply Below.drew|apply below_alloc)|((first|with_reducible refine Below.alloc ?_ ?_ _|with_reducible refine Below.setCell ?_ ?_ _);rotate_left;focus (first|(simp <;> omega)|omega)))) hb
   have SS:=LH os.reads
   clear hb os
   go_wp2_with fail
   refine Calls.mono (strCheck_any SS.out (mdl_keys HSH.out) c HC2.out) ?_
   rintro e w3 ⟨rfl,hb⟩
   replace HB:Hid (Below w.heap.size w _):=below_step (by repeat (first|with_reducible (first|exact HB.out|exact Below.refl _ _|apply Below.drew|apply below_alloc)|((first|with_reducible refine Below.alloc ?_ ?_ _|with_reducible refine Below.setCell ?_ ?_ _);rotate_left;focus (first|(simp <;> omega)|omega)))) hb
   clear hb
   go_wp2_with fail
   go_ret
   exact ⟨rfl,HB.out⟩
  ·have e:c=8:=by
    rw [HC.out,if_neg (fun hm=>?_)]
    obtain ⟨p,hp,hb⟩:=List.any_eq_true.1 HQ.out.symm
    simp [plBad] at hb
    exact hb (mayM_shaped hm p hp)
   subst e
   go_enter Tryz.func37,Tryz.ntmps37
   go_wp2_with fail
   refine Calls.mono (K.out _ _ ?_) ?_
   ·exact TT.out.below (by repeat (first|with_reducible (first|exact Below.refl _ _|apply Below.drew|apply below_alloc)|((first|with_reducible refine Below.alloc ?_ ?_ _|with_reducible refine Below.setCell ?_ ?_ _);rotate_left;focus (first|(simp <;> omega)|omega))))
   rintro e w1 ⟨rfl,hb⟩
   have HB:Hid (Below w.heap.size w _):=below_step (by repeat (first|with_reducible (first|exact Below.refl _ _|apply Below.drew|apply below_alloc)|((first|with_reducible refine Below.alloc ?_ ?_ _|with_reducible refine Below.setCell ?_ ?_ _);rotate_left;focus (first|(simp <;> omega)|omega)))) hb
   clear hb
   go_wp2_with fail
   go_ret
   exact ⟨rfl,HB.out⟩
end Go.Proofs.YtdfmcgekfogpbabGreatDoor
