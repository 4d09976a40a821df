/-
  Proved here: command.plain at every command; command.Check. No condition. Plain: skeen.Apply, and what Check tells. No program in sight but its  Plain: what a log makes of a group: the clock, the model of its topics Plain: what waits in a group's clock stays small, behind any commands.
-/
import Derived.Test.YtkkohllhebdlcaaGreatDoorY19
import Derived.Test.YtkkohllhebdlcaaGreatDoorY22
import Derived.Test.YtkkohllhebdlcaaGreatDoorY23
import Derived.Test.YtkkohllhebdlcaaGreatDoorY24
import Derived.Test.YtkkohllhebdlcaaGreatDoorY25
import Derived.Test.YtkkohllhebdlcaaGreatDoorY26
set_option maxRecDepth 100000
namespace Go.Proofs.YtkkohllhebdlcaaGreatDoor
open Go.RowKit
theorem plain_any {v:Value} {c:PC} {w:World} (h:ComR w v c):Calls Tryz.prog 70 #[v] w (PlainEnd (pC c) (okP c) w):=by
 by_cases h0:c.kind=0
 ·exact plain_k0 h h0
 by_cases h1:c.kind=1
 ·exact plain_k1 h h1
 by_cases h2:c.kind=2
 ·exact plain_k2 h h2
 by_cases h3:c.kind=3
 ·exact plain_k3 h h3
 by_cases h4:c.kind=4
 ·exact plain_k4 h h4
 by_cases h5:c.kind=5
 ·exact plain_k5 h h5
 by_cases h6:c.kind=6
 ·exact plain_k6 h h6
 exact plain_k9 h ⟨h0,h1,h2,h3,h4,h5,h6⟩
instance:DecidableEq PM:=fun a b=>decidable_of_iff (a.id=b.id∧a.groups=b.groups∧a.topic=b.topic∧a.key=b.key∧a.body=b.body) (by cases a;cases b;simp)
instance:DecidableEq PC:=fun _ _=>decidable_of_iff _ pc_ext.symm
def okCom (c:PC):Bool:=okP c && decide (pC c=c)
set_option maxHeartbeats 4000000 in
set_option maxRecDepth 100000 in
theorem chkCom_any {v:Value} {c:PC} {w:World} {x:Int} (h:ComR w v c) (hx:x=if okCom c=true then 0 else 120) :
  Calls Tryz.prog 47 #[v] w fun e w'=>e=.returned (.int .i64 x)∧Below w.heap.size w w':=by
 have S:=LH h
 obtain ⟨a,cap,b,bc,rfl,-,-⟩:=h
 obtain ⟨ok,hok⟩:∃ ok,ok=okP c:=⟨_,rfl⟩
 obtain ⟨sm,hsm⟩:∃ sm:Bool,sm=true↔pC c=c:=⟨decide (pC c=c),by simp⟩
 have HX:=LH (show x=if (ok && sm)=true then 0 else 120 by
  rw [hx,okCom,← hok]
  have:decide (pC c=c)=sm:=by
   cases sm
   ·exact decide_eq_false (fun e=>by have:=hsm.2 e;cases this)
   ·exact decide_eq_true (hsm.1 rfl)
  rw [this])
 have HSM:=LH hsm
 have HP:=LH (show ∀ (u:Value) (W:World),ComR W u c→Calls Tryz.prog 70 #[u] W (PlainEnd (pC c) ok W) from fun u W hh=>by rw [hok];exact plain_any hh)
 obtain ⟨gn,hgn⟩:∃ n,n=c.msg.groups.length:=⟨_,rfl⟩
 obtain ⟨mn,hmn⟩:∃ n,n=c.members.length:=⟨_,rfl⟩
 rw [← hgn,← hmn] at S ⊢
 obtain ⟨kd,hkd⟩:∃ x,x=c.kind:=⟨_,rfl⟩
 clear hx hok hsm hgn hmn hkd kd
 obtain ⟨pc,hpc⟩:∃ pc,pc=pC c:=⟨_,rfl⟩
 rw [← hpc] at HP HSM
 obtain ⟨kd,⟨i1,g1,t1,k1,b1⟩,ci,ct,ml,cp,cw,cn⟩:=c
 simp only at S ⊢
 clear hpc
 go_enter Tryz.func47,Tryz.ntmps47
 go_wp2_with fail
 refine Calls.mono (HP.out _ _ (S.out.below (by repeat (first|with_reducible (first|exact Below.refl _ _|apply Below.drew|apply below_alloc)|((first|with_reducible refine Below.alloc ?_ ?_ _|with_reducible refine Below.setCell ?_ ?_ _);rotate_left;focus (first|(simp <;> omega)|omega)))))) ?_
 rintro e w1 ⟨v,rfl,hv,hb⟩
 have HB:Hid (Below w.heap.size w _):=below_step (by repeat (first|with_reducible (first|exact Below.refl _ _|apply Below.drew|apply below_alloc)|((first|with_reducible refine Below.alloc ?_ ?_ _|with_reducible refine Below.setCell ?_ ?_ _);rotate_left;focus (first|(simp <;> omega)|omega)))) hb
 have HQ:Hid (Blk w1 w.heap.size 58 [.int .u8 kd,.int .i64 i1,.slice a gn cap,.int .i64 t1,.string k1,.string b1,.int .i64 ci,.int .i64 ct,.slice b mn bc,.int .i64 cp,.int .i64 cw,.int .i64 cn]):=LH (Blk.step (Blk.new rfl) hb)
 have V:=LH hv
 obtain ⟨a',cap',b',bc',rfl,-,-⟩:=hv
 obtain ⟨pk,⟨j1,h1,s1,l1,m1⟩,pi,pt,pm,pp,pw,pn⟩:=pc
 simp only at V ⊢
 obtain ⟨gn',hgn'⟩:∃ n,n=h1.length:=⟨_,rfl⟩
 obtain ⟨mn',hmn'⟩:∃ n,n=pm.length:=⟨_,rfl⟩
 rw [← hgn',← hmn'] at V ⊢
 have ql:=HQ.out.lt
 obtain ⟨⟨⟨d0,d1,d2,d3⟩,⟨d4,d5,d6,d7⟩,d8,d9,d10,d11⟩,dz⟩:=cells12 HQ.out
 clear hb hgn' hmn'
 cases ok
 ·obtain rfl:x=120:=by rw [HX.out];rfl
  go_wp2_with fail
  go_ret
  refine ⟨rfl,?_⟩
  repeat (first|with_reducible (first|exact HB.out|exact Below.refl _ _|apply Below.drew|apply below_alloc)|((first|with_reducible refine Below.alloc ?_ ?_ _|with_reducible refine Below.setCell ?_ ?_ _);rotate_left;focus (first|(simp <;> omega)|omega)))
 ·go_wp2_with fail
  refine Calls.mono (sameCom_any (z:=sm) (c:=⟨pk,⟨j1,h1,s1,l1,m1⟩,pi,pt,pm,pp,pw,pn⟩) (c':=⟨kd,⟨i1,g1,t1,k1,b1⟩,ci,ct,ml,cp,cw,cn⟩) ?_ ?_ HSM.out) ?_
  ·exact V.out.below (by repeat (first|with_reducible (first|exact Below.refl _ _|apply Below.drew|apply below_alloc)|((first|with_reducible refine Below.alloc ?_ ?_ _|with_reducible refine Below.setCell ?_ ?_ _);rotate_left;focus (first|(simp <;> omega)|omega))))
  ·exact S.out.below (by repeat (first|with_reducible (first|exact HB.out|exact Below.refl _ _|apply Below.drew|apply below_alloc)|((first|with_reducible refine Below.alloc ?_ ?_ _|with_reducible refine Below.setCell ?_ ?_ _);rotate_left;focus (first|(simp <;> omega)|omega))))
  rintro e w2 ⟨rfl,hb⟩
  replace HB:Hid (Below w.heap.size w _):=below_step (by repeat (first|with_reducible (first|exact HB.out|exact Below.refl _ _|apply Below.drew|apply below_alloc)|((first|with_reducible refine Below.alloc ?_ ?_ _|with_reducible refine Below.setCell ?_ ?_ _);rotate_left;focus (first|(simp <;> omega)|omega)))) hb
  clear hb
  cases sm
  ·obtain rfl:x=120:=by rw [HX.out];rfl
   go_wp2_with fail
   go_ret
   exact ⟨rfl,HB.out⟩
  ·obtain rfl:x=0:=by rw [HX.out];rfl
   go_wp2_with fail
   go_ret
   exact ⟨rfl,HB.out⟩
def skZ:Sk:=⟨0,[],[]⟩
def stepS (group:Int) (c:PC) (s:Sk):Int × Sk:=if c.kind=1 then assignS group c.msg s else if c.kind=2 then (0,finalS c.id c.time s) else (0,s)
def endK (s:Sk):Int × Sk × List PM:=if 200 < (delS s.waits.length s []).1.done.length then (9,skZ,[]) else (0,delS s.waits.length s [])
def apS (group:Int) (c:PC) (s:Sk):Int × Sk × List PM :=
 if chkS s=false then (8,skZ,[]) else if group < 0∨4≤group then (2,skZ,[]) else if okCom c=false then (120,skZ,[])
 else if (stepS group c s).1≠0 then ((stepS group c s).1,skZ,[]) else endK (stepS group c s).2
theorem okCom_kind {c:PC} (h:okCom c=true):okP c=true:=by
 rw [okCom,Bool.and_eq_true] at h
 exact h.1
theorem idB_small {n:Int} (h:idB n=true):smallI n:=by
 simp only [idB,inB,Bool.and_eq_true,decide_eq_true_eq] at h
 exact ⟨by omega,by omega⟩
theorem msgB_id {m:PM} (h:msgB m=true):smallI m.id:=by
 simp only [msgB,Bool.and_eq_true] at h
 exact idB_small h.2.1
theorem msgB_groups {m:PM} (h:msgB m=true):m.groups.length≤4:=by
 simp only [msgB,grpB,Bool.and_eq_true,decide_eq_true_eq] at h
 exact h.1.1.2
theorem okCom_assign {c:PC} (h:okCom c=true) (hk:c.kind=1):msgB c.msg=true:=by
 have:=okCom_kind h
 rw [okP,hk] at this
 simpa using this
theorem okCom_final {c:PC} (h:okCom c=true) (hk:c.kind=2):smallI c.id:=by
 have:=okCom_kind h
 rw [okP,hk] at this
 simp only [Bool.and_eq_true,show (2:Int)≠0 by decide,show (2:Int)≠1 by decide,if_false,if_true] at this
 exact idB_small this.1
theorem chkW_up {ck:Int} {ids:List Int} {d:Option (Int × Int)}:∀ {l:List Wt} {prev:Option Int},chkW ck ids d prev l=true→(l.Pairwise fun x y=>x.msg.id < y.msg.id)∧(∀ x∈l,msgB x.msg=true∧∀ p,prev=some p→p < x.msg.id)
 |[],prev,_=>⟨List.Pairwise.nil,fun _ h=>by cases h⟩
 |y :: l,prev,h=>by
  simp only [chkW,Bool.and_eq_true] at h
  obtain ⟨h1,h2⟩:=h
  obtain ⟨i1,i2⟩:=chkW_up h2
  have hp:∀ p,prev=some p→p < y.msg.id:=fun p hp=>by
   subst hp
   have:=h1.1.1.2
   simp at this
   exact this
  refine ⟨List.pairwise_cons.2 ⟨fun x hx=>(i2 x hx).2 _ rfl,i1⟩,fun x hx=>?_⟩
  rcases List.mem_cons.1 hx with rfl|hx
  ·exact ⟨h1.1.1.1.1.1,hp⟩
  ·exact ⟨(i2 x hx).1,fun p hpp=>Int.lt_trans (hp p hpp) ((i2 x hx).2 _ rfl)⟩
structure OkS (s:Sk):Prop where
 c0:0≤s.clock
 c1:s.clock≤1073741824
 w:s.waits.length≤200
 d:s.done.length≤200
 up:idsUp s.waits
 m:∀ x∈s.waits,msgB x.msg=true
theorem chkS_ok {s:Sk} (h:chkS s=true):OkS s:=by
 simp only [chkS,headS,Bool.and_eq_true,Bool.not_eq_true',decide_eq_false_iff_not] at h
 obtain ⟨⟨⟨⟨⟨⟨h1,h2⟩,h3⟩,h4⟩,h5⟩,h6⟩,h7⟩:=h
 obtain ⟨i1,i2⟩:=chkW_up h6
 exact ⟨by omega,by omega,by omega,by omega,⟨i1,fun x hx=>msgB_id (i2 x hx).1⟩,fun x hx=>(i2 x hx).1⟩
theorem OkS.few {s:Sk} (h:OkS s):fewK s:=⟨by have:=h.w;omega,by have:=h.d;omega,fun x hx=>by have:=msgB_groups (h.m x hx);omega⟩
theorem idsUp_ids {l l':List Wt} (h:idsUp l) (he:l'.map (fun x=>x.msg.id)=l.map (fun x=>x.msg.id)):idsUp l':=by
 constructor
 ·have h1:(l.map (fun x=>x.msg.id)).Pairwise (· < ·):=List.pairwise_map.2 h.1
  rw [← he] at h1
  exact List.pairwise_map.1 h1
 ·intro x hx
  have:x.msg.id∈l.map (fun x=>x.msg.id):=by rw [← he];exact List.mem_map.2 ⟨x,hx,rfl⟩
  obtain ⟨y,hy,e⟩:=List.mem_map.1 this
  rw [← e]
  exact h.2 y hy
theorem final_up {id time:Int} {s:Sk} (h:idsUp s.waits):idsUp (finalS id time s).waits∧(finalS id time s).waits.length=s.waits.length∧(finalS id time s).done=s.done:=by
 unfold finalS
 split
 ·exact ⟨h,rfl,rfl⟩
 ·refine ⟨idsUp_ids h ?_,by simp,rfl⟩
  rw [List.map_set]
  apply List.ext_getElem?
  intro j
  rw [List.getElem?_set]
  split
  ·next hj =>
   subst hj
   by_cases hp:posW s.waits id < s.waits.length
   ·simp [hp,List.getD]
   ·simp [hp]
  ·rfl
theorem tw_take {α:Type} (p:α→Bool):∀ l:List α,l.take (l.takeWhile p).length=l.takeWhile p∧l.drop (l.takeWhile p).length=l.dropWhile p
 |[]=>⟨rfl,rfl⟩
 |y :: l=>by
  by_cases hy:p y=true
  ·rw [List.takeWhile_cons_of_pos hy,List.dropWhile_cons_of_pos hy]
   simp [tw_take p l]
  ·rw [List.takeWhile_cons_of_neg hy,List.dropWhile_cons_of_neg hy]
   simp
theorem tw_mem {α:Type} (p:α→Bool):∀ (l:List α) (x:α),x∈l.takeWhile p→p x=true
 |[],x,h=>by cases h
 |y :: l,x,h=>by
  by_cases hy:p y=true
  ·rw [List.takeWhile_cons_of_pos hy] at h
   rcases List.mem_cons.1 h with rfl|h
   ·exact hy
   ·exact tw_mem p l x h
  ·rw [List.takeWhile_cons_of_neg hy] at h
   cases h
theorem takeWhile_eq_take {l:List Wt} {id:Int}:l.take (posW l id)=l.takeWhile (fun x=>decide (x.msg.id < id))∧l.drop (posW l id)=l.dropWhile (fun x=>decide (x.msg.id < id)):=tw_take _ l
theorem dropWhile_ge {l:List Wt} {id:Int} (h:l.Pairwise fun x y=>x.msg.id < y.msg.id):∀ x∈l.dropWhile (fun x=>decide (x.msg.id < id)),id≤x.msg.id:=by
 induction l with
 |nil=>intro x hx;cases hx
 |cons y l ih =>
  rw [List.pairwise_cons] at h
  intro x hx
  by_cases hy:y.msg.id < id
  ·rw [List.dropWhile_cons_of_pos (by simpa using hy)] at hx
   exact ih h.2 x hx
  ·rw [List.dropWhile_cons_of_neg (by simpa using hy)] at hx
   rcases List.mem_cons.1 hx with rfl|hx
   ·omega
   ·have:=h.1 x hx;omega
theorem insert_up {l:List Wt} {x:Wt} (h:idsUp l) (hn:hasW l x.msg.id=false) (hx:smallI x.msg.id):idsUp (insW l (posW l x.msg.id) x):=by
 constructor
 ·obtain ⟨e1,e2⟩:=takeWhile_eq_take (l:=l) (id:=x.msg.id)
  have hp:=h.1
  rw [← List.take_append_drop (posW l x.msg.id) l] at hp
  obtain ⟨p1,p2,p3⟩:=List.pairwise_append.1 hp
  have a1:∀ y∈l.take (posW l x.msg.id),y.msg.id < x.msg.id:=fun y hy=>by
   rw [e1] at hy
   have:=tw_mem _ _ _ hy
   simpa using this
  have a2:∀ y∈l.drop (posW l x.msg.id),x.msg.id < y.msg.id:=fun y hy=>by
   have h1:=dropWhile_ge (id:=x.msg.id) h.1 y (by rw [← e2];exact hy)
   have h2:y.msg.id≠x.msg.id:=fun e=>by
    have:hasW l x.msg.id=true:=by
     rw [hasW,List.any_eq_true]
     exact ⟨y,List.mem_of_mem_drop hy,by simp [e]⟩
    rw [hn] at this
    cases this
   omega
  refine List.pairwise_append.2 ⟨p1,List.pairwise_cons.2 ⟨a2,p2⟩,fun y hy z hz=>?_⟩
  rcases List.mem_cons.1 hz with rfl|hz
  ·exact a1 y hy
  ·exact p3 y hy z hz
 ·intro y hy
  rcases insW_mem hy with rfl|hy
  ·exact hx
  ·exact h.2 y hy
theorem assign_up {group:Int} {m:PM} {s:Sk} (h:idsUp s.waits) (hm:smallI m.id):idsUp (assignS group m s).2.waits∧(assignS group m s).2.waits.length≤s.waits.length+1∧(assignS group m s).2.done=s.done:=by
 unfold assignS
 split
 ·exact ⟨h,Nat.le_succ _,rfl⟩
 ·next hno =>
  split
  ·exact ⟨h,Nat.le_succ _,rfl⟩
  ·refine ⟨insert_up (x:=⟨m,s.clock+1,false⟩) h ?_ hm,?_,rfl⟩
   ·cases hh:hasW s.waits m.id
    ·rfl
    ·exact absurd (Or.inl hh) hno
   ·show (insW _ _ _).length≤_
    rw [insW_len (posW_le _ _)]
    exact Nat.le_refl _
theorem step_up {group:Int} {c:PC} {s:Sk} (h:OkS s) (hc:okCom c=true):idsUp (stepS group c s).2.waits∧(stepS group c s).2.waits.length+(stepS group c s).2.done.length≤1000:=by
 have h1:=h.w
 have h2:=h.d
 unfold stepS
 split
 ·next hk =>
  obtain ⟨a,b,d⟩:=assign_up (group:=group) h.up (msgB_id (okCom_assign hc hk))
  exact ⟨a,by rw [d];omega⟩
 ·split
  ·obtain ⟨a,b,d⟩:=final_up (id:=c.id) (time:=c.time) h.up
   exact ⟨a,by rw [d,b];omega⟩
  ·exact ⟨h.up,by show s.waits.length+s.done.length≤1000;omega⟩
abbrev Tk:=Int × Int × Int
structure Gs where
 sk:Sk
 m:Mdl
 last:List Int
def onTopM (c:PC) (last:List Int) (m:Mdl):List Int × Mdl :=
 if c.id % 1048576 < last.getD (c.id / 1048576).toNat 0 then (last,m)
 else (last.set (c.id / 1048576).toNat (c.id % 1048576+1),if (doM m c.kind c.topic c.who c.n).2=0 then (doM m c.kind c.topic c.who c.n).1 else m)
def putsM:Mdl→List Tk→List PM→Mdl × List Tk
 |m,tk,[]=>(m,tk)
 |m,tk,x :: l=>if (putM m x.id x.topic x.key x.body).2.2=0 then putsM (putM m x.id x.topic x.key x.body).1 (tk++[(x.id,x.topic,(putM m x.id x.topic x.key x.body).2.1)]) l else putsM m tk l
def stepQ (g:Int) (c:PC) (s:Gs):Gs × List Tk × Int :=
 if 4≤c.kind then (⟨s.sk,(onTopM c s.last s.m).2,(onTopM c s.last s.m).1⟩,[],0)
 else if (apS g c s.sk).1≠0 then (s,[],(apS g c s.sk).1)
 else (⟨(apS g c s.sk).2.1,(putsM s.m [] (apS g c s.sk).2.2).1,s.last⟩,(putsM s.m [] (apS g c s.sk).2.2).2,0)
def runQ (g:Int):List PC→Gs→List Tk→Gs × List Tk
 |[],s,o=>(s,o)
 |c :: l,s,o=>runQ g l (stepQ g c s).1 (o++(stepQ g c s).2.1)
def lenM (m:Mdl) (D:Nat):Prop:=∀ i:Int,0≤i→i < 4→(plN m i).all.length≤D
theorem plN_set {m:Mdl} {t i:Int} {p:Pl} {c:List (List Int)} (h:m.tops.length=4) (h0:0≤t) (h1:t < 4) (i0:0≤i) (i1:i < 4):plN ⟨m.tops.set t.toNat p,c⟩ i=if t=i then p else plN m i:=by
 unfold plN
 by_cases e:t=i
 ·subst e
  rw [if_pos rfl,getD_lt (by rw [List.length_set];omega),List.getElem_set_self]
 ·rw [if_neg e,getD_lt (by rw [List.length_set];omega),List.getElem_set_ne (by omega),getD_lt (show i.toNat < m.tops.length by omega)]
theorem putM_len {m u:Mdl} {id t n:Int} {k b:ByteArray} {D:Nat} (hm:mayM m) (h:putM m id t k b=(u,n,0)) (hl:lenM m D):lenM u (D+1):=by
 rw [putM] at h
 split at h
 ·next ha =>
  obtain ⟨_,h0,h1⟩:=askM_zero.1 ha
  split at h
  ·cases h
  ·split at h
   ·cases h
   ·split at h
    ·cases h
    ·have e:u=_:=(congrArg (·.1) h).symm
     subst e
     intro i i0 i1
     simp only
     rw [plN_set hm.1.1 h0 h1 i0 i1]
     split
     ·next e=>subst e;have:=hl t i0 i1;simp;omega
     ·have:=hl i i0 i1;omega
 ·next ha =>
  have:askM m t=0:=congrArg (·.2.2) h
  exact absurd this ha
theorem doM_len {m u:Mdl} {kd t who n:Int} {D:Nat} (hm:mayM m) (h:doM m kd t who n=(u,0)) (hl:lenM m D):lenM u D:=by
 rw [doM,if_pos hm] at h
 split at h
 ·cases h
 ·next hr =>
  obtain ⟨_,⟨h0,h1⟩,_⟩:=Classical.not_not.1 hr
  split at h
  ·split at h
   ·cases h
   ·have e:u=_:=(congrArg (·.1) h).symm
    subst e
    intro i i0 i1
    exact hl i i0 i1
  ·split at h
   all_goals
    have e:u=_:=(congrArg (·.1) h).symm
    subst e
    intro i i0 i1
    simp only
    rw [plN_set hm.1.1 h0 h1 i0 i1]
    split
    ·next e=>subst e;exact hl t i0 i1
    ·exact hl i i0 i1
theorem putM_may {m u:Mdl} {id t n:Int} {k b:ByteArray} {D:Nat} (hm:mayM m) (hl:lenM m D) (hD:D < 600) (h:putM m id t k b=(u,n,0)):mayM u :=
 (putM_str hm (fun h0 h1 e=>by have:=hl t h0 h1;omega) h).2 rfl
theorem putsM_ok:∀ (l:List PM) (m:Mdl) (tk:List Tk) (D:Nat),mayM m→lenM m D→D+l.length≤500→mayM (putsM m tk l).1∧lenM (putsM m tk l).1 (D+l.length)
 |[],m,tk,D,hm,hl,_=>⟨hm,hl⟩
 |x :: l,m,tk,D,hm,hl,hD=>by
  rw [putsM]
  simp only [List.length_cons] at hD ⊢
  split
  ·next h0 =>
   have hp:putM m x.id x.topic x.key x.body=((putM m x.id x.topic x.key x.body).1,(putM m x.id x.topic x.key x.body).2.1,0):=by rw [← h0]
   have:=putsM_ok l _ (tk++[(x.id,x.topic,(putM m x.id x.topic x.key x.body).2.1)]) (D+1) (putM_may hm hl (by omega) hp) (putM_len hm hp hl) (by omega)
   rw [show D+(l.length+1)=D+1+l.length by omega]
   exact this
  ·have:=putsM_ok l m tk D hm hl (by omega)
   exact ⟨this.1,fun i i0 i1=>by have:=this.2 i i0 i1;omega⟩
theorem delS_len:∀ (f:Nat) (s:Sk) (out:List PM),(delS f s out).2.length+s.done.length=(delS f s out).1.done.length+out.length
 |0,s,out=>by rw [delS];exact Nat.add_comm _ _
 |f+1,s,out=>by
  rw [delS]
  split
  ·exact Nat.add_comm _ _
  ·next x l he =>
   split
   ·have:=delS_len f ⟨s.clock,delW s.waits (posW s.waits (minW x l).msg.id),s.done++[ofW (minW x l)]⟩ (out++[(minW x l).msg])
    simp only [List.length_append,List.length_cons,List.length_nil] at this
    omega
   ·exact Nat.add_comm _ _
theorem step_done {g:Int} {c:PC} {s:Sk}:(stepS g c s).2.done=s.done:=by
 unfold stepS
 split
 ·unfold assignS
  split
  ·rfl
  ·split <;> rfl
 ·split
  ·unfold finalS
   split <;> rfl
  ·rfl
theorem apS_len {g:Int} {c:PC} {s:Sk} (h:(apS g c s).1=0):(apS g c s).2.2.length+s.done.length=(apS g c s).2.1.done.length∧(apS g c s).2.1.done.length≤200:=by
 unfold apS at h ⊢
 split at h
 ·cases h
 ·split at h
  ·cases h
  ·split at h
   ·cases h
   ·split at h
    ·next hx=>exact absurd h hx
    ·next h1 h2 h3 h4 =>
     rw [if_neg h1,if_neg h2,if_neg h3,if_neg h4]
     unfold endK at h ⊢
     split at h
     ·cases h
     ·next h5 =>
      rw [if_neg h5]
      have:=delS_len (stepS g c s).2.waits.length (stepS g c s).2 []
      rw [step_done] at this
      exact ⟨by simpa using this,Nat.le_of_not_lt h5⟩
structure OkG (s:Gs):Prop where
 may:mayM s.m
 len:lenM s.m s.sk.done.length
 done:s.sk.done.length≤200
 six:s.last.length=6
 low:∀ x∈s.last,0≤x∧x≤1048576
theorem onTopM_ok {c:PC} {last:List Int} {m:Mdl} {D:Nat} (hm:mayM m) (hl:lenM m D) (h6:last.length=6) (hx:∀ x∈last,0≤x∧x≤1048576) :
  mayM (onTopM c last m).2∧lenM (onTopM c last m).2 D∧(onTopM c last m).1.length=6∧∀ x∈(onTopM c last m).1,0≤x∧x≤1048576:=by
 unfold onTopM
 split
 ·exact ⟨hm,hl,h6,hx⟩
 ·have hl2:∀ x∈last.set (c.id / 1048576).toNat (c.id % 1048576+1),0≤x∧x≤1048576:=fun x hm=>by
   rcases List.mem_or_eq_of_mem_set hm with h|rfl
   ·exact hx x h
   ·omega
  refine ⟨?_,?_,by simpa using h6,hl2⟩
  ·simp only
   split
   ·next h0=>exact (doM_str hm (show doM m c.kind c.topic c.who c.n=((doM m c.kind c.topic c.who c.n).1,0) by rw [← h0])).2 rfl
   ·exact hm
  ·simp only
   split
   ·next h0=>exact doM_len hm (show doM m c.kind c.topic c.who c.n=((doM m c.kind c.topic c.who c.n).1,0) by rw [← h0]) hl
   ·exact hl
theorem stepQ_ok {g:Int} {c:PC} {s:Gs} (h:OkG s):OkG (stepQ g c s).1:=by
 unfold stepQ
 split
 ·obtain ⟨a,b,d,e⟩:=onTopM_ok (c:=c) h.may h.len h.six h.low
  exact ⟨a,b,h.done,d,e⟩
 ·split
  ·exact h
  ·next h4 h0 =>
   obtain ⟨e1,e2⟩:=apS_len (Classical.not_not.1 h0)
   obtain ⟨a,b⟩:=putsM_ok (apS g c s.sk).2.2 s.m [] _ h.may h.len (by omega)
   refine ⟨a,?_,e2,h.six,h.low⟩
   show lenM _ (apS g c s.sk).2.1.done.length
   rw [← e1,Nat.add_comm]
   exact b
def SkW (s:Sk):Prop:=s.waits.length≤200∧∀ x∈s.waits,x.msg.groups.length≤4
theorem delS_w:∀ (f:Nat) (s:Sk) (out:List PM),SkW s→SkW (delS f s out).1
 |0,s,out,h=>by rw [delS];exact h
 |f+1,s,out,h=>by
  rw [delS]
  split
  ·exact h
  ·next x l he =>
   split
   ·refine delS_w f _ _ ⟨?_,fun y hy=>h.2 y (delW_mem hy)⟩
    exact Nat.le_trans (delW_sub _ _).length_le h.1
   ·exact h
theorem assignS_w {g:Int} {m:PM} {s:Sk} (h:SkW s) (hm:m.groups.length≤4):SkW (assignS g m s).2:=by
 unfold assignS
 split
 ·exact h
 ·split
  ·exact h
  ·next hf =>
   have hf2:s.waits.length≠200:=fun e=>hf (Or.inr e)
   have h1:=h.1
   refine ⟨?_,fun x hx=>?_⟩
   ·show (insW s.waits (posW s.waits m.id) _).length≤200
    rw [insW_len (posW_le _ _)]
    omega
   ·have hx':x∈s.waits.take (posW s.waits m.id)++_ :: s.waits.drop (posW s.waits m.id):=hx
    rcases List.mem_append.1 hx' with hx|hx
    ·exact h.2 x (List.mem_of_mem_take hx)
    ·rcases List.mem_cons.1 hx with rfl|hx
     ·exact hm
     ·exact h.2 x (List.mem_of_mem_drop hx)
theorem finalS_w {id time:Int} {s:Sk} (h:SkW s):SkW (finalS id time s):=by
 unfold finalS
 split
 ·exact h
 ·next hf =>
  refine ⟨by simpa using h.1,fun x hx=>?_⟩
  rcases List.mem_or_eq_of_mem_set hx with hx|rfl
  ·exact h.2 x hx
  ·have hh:hasW s.waits id=true:=by
    by_cases e:hasW s.waits id=true
    ·exact e
    ·exact absurd (Or.inl (by simpa using e)) hf
   by_cases hp:posW s.waits id < s.waits.length
   ·have:s.waits.getD (posW s.waits id) default=s.waits[posW s.waits id]:=by simp [List.getD,hp]
    simp only [this]
    exact h.2 _ (List.getElem_mem hp)
   ·have:s.waits.getD (posW s.waits id) default=default:=by
     rw [List.getD,List.getElem?_eq_none (by omega)];rfl
    simp only [this]
    exact Nat.zero_le _
theorem apS_w {g:Int} {c:PC} {s:Sk} (h:SkW s):SkW (apS g c s).2.1:=by
 have hz:SkW skZ:=⟨Nat.zero_le _,fun x hx=>by cases hx⟩
 unfold apS
 split
 ·exact hz
 ·split
  ·exact hz
  ·split
   ·exact hz
   ·next hc =>
    split
    ·exact hz
    ·unfold endK
     split
     ·exact hz
     ·refine delS_w _ _ _ ?_
      unfold stepS
      split
      ·next hk=>exact assignS_w h (msgB_groups (okCom_assign (by simpa using hc) hk))
      ·split
       ·exact finalS_w h
       ·exact h
structure OkH (s:Gs):Prop extends OkG s where
 w:SkW s.sk
theorem stepQ_okH {g:Int} {c:PC} {s:Gs} (h:OkH s):OkH (stepQ g c s).1:=by
 refine ⟨stepQ_ok h.toOkG,?_⟩
 unfold stepQ
 split
 ·exact h.w
 ·split
  ·exact h.w
  ·exact apS_w h.w
theorem OkH.fewK {s:Gs} (h:OkH s):fewK s.sk:=⟨by have:=h.w.1;omega,by have:=h.done;omega,fun x hx=>by have:=h.w.2 x hx;omega⟩
theorem few_str {m:Mdl} (h:mayM m):fewS (streamM m):=by
 have hm:=mayM_str h
 refine ⟨?_,?_,?_⟩
 ·have:=h.1.1
  simp only [streamM,List.length_map]
  omega
 ·intro t ht
  obtain ⟨p,hp,rfl⟩:=List.mem_map.1 ht
  have:=(h.1.2 p hp).2
  show (entP p).length≤_
  omega
 ·exact okC_few h.2.1
theorem newM_may:mayM newM:=by
 refine ⟨⟨rfl,fun p hp=>?_⟩,okC_new,fun i hi k hk=>?_⟩
 ·obtain rfl:p=default:=List.eq_of_mem_replicate hp
  exact ⟨⟨fun i hi=>absurd hi (Nat.not_lt_zero _),Nat.zero_le _,⟨Int.le_refl _,Int.le_refl _⟩,Int.le_refl _,Int.le_refl _⟩,Nat.zero_le _⟩
 ·have:∀ i:Fin 4,∀ k:Fin 8,((newC.getD i.1 []).getD k.1 0)≤0:=by decide
  refine Int.le_trans (this ⟨i,hi⟩ ⟨k,hk⟩) ?_
  omega
def gs0:Gs:=⟨skZ,newM,[0,0,0,0,0,0]⟩
theorem gs0_ok:OkH gs0:=by
 refine ⟨⟨?_,?_,Nat.zero_le _,rfl,?_⟩,Nat.zero_le _,fun x hx=>by cases hx⟩
 ·exact newM_may
 ·intro i h0 h1
  have:i=0∨i=1∨i=2∨i=3:=by omega
  rcases this with rfl|rfl|rfl|rfl <;> exact Nat.le_refl _
 ·intro x hx
  simp [gs0] at hx
  omega
end Go.Proofs.YtkkohllhebdlcaaGreatDoor
