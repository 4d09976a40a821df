/-
  Proved here: model.one, End, Committed, Fetch: what is read of a model. model.Fetch: what stands at an offset of a model.
-/
import Derived.Test.YtdfmcgekfogpbabGreatDoorY29
set_option maxRecDepth 100000
namespace Go.Proofs.YtdfmcgekfogpbabGreatDoor
open Go.RowKit
theorem pl_zero (w:World):PlR w (.agg #[.slice none 0 0,.int .i64 0,.int .i64 0]) default:=⟨none,0,rfl,none,0,rfl,Nat.le_refl _,Nat.zero_le _,fun _=>rfl,fun h=>absurd h (Nat.lt_irrefl _)⟩
def oneM (m:Mdl) (n:Int):Pl × Int:=if askM m n=0 then (plN m n,0) else (default,askM m n)
def OneEnd (p:Pl) (c:Int) (w:World) (e:Ending) (w':World):Prop:=∃ a cap,e=.returned (.tuple #[.agg #[.slice a p.all.length cap,.int .i64 p.base,.int .i64 p.mark],.int .i64 c])∧PlR w' (.agg #[.slice a p.all.length cap,.int .i64 p.base,.int .i64 p.mark]) p∧Below w.heap.size w w'
set_option maxHeartbeats 4000000 in
set_option maxRecDepth 100000 in
theorem mdlOne_any {v:Value} {m:Mdl} {w:World} {p:Pl} {c:Int} (n:Int) (h:MdlR w v m) (hf:few m.coms) (hu:oneM m n=(p,c)) :
  Calls Tryz.prog 33 #[v,.int .i64 n] w (OneEnd p c w):=by
 have S:=LH h
 have HF:=LH hf
 obtain ⟨a,cap,b,nc,cc,rfl,hT,-⟩:=h.shape
 by_cases hm:mayM m
 ·have HC:=LH (show (0:Int)=if mayM m then 0 else 8 by rw [if_pos hm])
  have h4:=hm.1.1
  by_cases hr:0≤n∧n < 4
  ·rw [oneM,if_pos (askM_zero.2 ⟨hm,hr.1,hr.2⟩)] at hu
   cases hu
   obtain ⟨h0,h1⟩:=hr
   obtain ⟨⟨-,hcap,hmx⟩,g,off,rfl,hat⟩:=MdlR.pl hT (i:=n) h0 (by omega)
   rw [show m.tops.getD n.toNat default=plN m n from rfl] at hat
   obtain ⟨t,ht⟩:∃ t,t=plN m n:=⟨_,rfl⟩
   rw [← ht] at hat ⊢
   have HAT:=LH hat
   obtain ⟨nt,hnt⟩:∃ nt,nt=m.tops.length:=⟨_,rfl⟩
   rw [← hnt] at S hcap h4 ⊢
   subst h4
   unfold maxLen at hmx
   clear h hf hT hat hnt hm ht
   go_enter Tryz.func33,Tryz.ntmps33
   go_wp2_with fail
   refine Calls.mono (mdlCheck_any ?_ HF.out 0 HC.out) ?_
   ·exact S.out.below (by repeat (first|with_reducible (first|exact Below.refl _ _|apply Below.drew|apply below_alloc)|((first|with_reducible refine Below.alloc ?_ ?_ _|with_reducible refine Below.setCell ?_ ?_ _);rotate_left;focus (first|(simp <;> omega)|omega))))
   rintro e w1 ⟨rfl,hb⟩
   have HB:Hid (Below w.heap.size w _):=below_step (by repeat (first|with_reducible (first|exact Below.refl _ _|apply Below.drew|apply below_alloc)|((first|with_reducible refine Below.alloc ?_ ?_ _|with_reducible refine Below.setCell ?_ ?_ _);rotate_left;focus (first|(simp <;> omega)|omega)))) hb
   have P:Blk _ (w.heap.size) _ _:=Blk.step (by repeat (first|((with_reducible apply Blk.new);focus (first|rfl|(simp <;> omega)))|with_reducible (first|apply Blk.drew|apply Blk.alloc|apply Blk.set_)|((with_reducible apply Blk.far);rotate_left;focus (first|(simp <;> omega)|omega)))) hb
   obtain ⟨p0,p1,pz⟩:=cells2 P
   have pl:=Blk.lt P
   have HP:=LH P
   clear P
   have R:Blk _ (w.heap.size+1) _ _:=Blk.step (by repeat (first|((with_reducible apply Blk.new);focus (first|rfl|(simp <;> omega)))|with_reducible (first|apply Blk.drew|apply Blk.alloc|apply Blk.set_)|((with_reducible apply Blk.far);rotate_left;focus (first|(simp <;> omega)|omega)))) hb
   obtain ⟨r0,r1,r2,rz⟩:=cells3 R
   have rl:=Blk.lt R
   have HR:=LH R
   clear R
   obtain ⟨ea,ecap,⟨⟨c0,c1⟩,c2⟩,hTT⟩:=HAT.out.keep HB.out
   have T:=LH hTT
   have hg:g < w1.heap.size:=World.block_lt_of_cell? w1 _ c0
   obtain ⟨an,han⟩:∃ an,an=t.all.length:=⟨_,rfl⟩
   obtain ⟨tb,htb⟩:∃ tb,tb=t.base:=⟨_,rfl⟩
   obtain ⟨tm,htm⟩:∃ tm,tm=t.mark:=⟨_,rfl⟩
   rw [← han] at c0 T
   rw [← htb] at c1 T
   rw [← htm] at c2 T
   have HAN:=LH han
   have HTB:=LH htb
   have HTM:=LH htm
   clear hb hTT han htb htm
   go_wp2_with fail
   obtain ⟨t0,t1,t2,-⟩:=cells3 (((HR.out.set_ 0 (.slice ea an ecap)).set_ 1 (.int .i64 tb)).set_ 2 (.int .i64 tm))
   refine bodyPost_ret (v:=.tuple #[.agg #[.slice ea an ecap,.int .i64 tb,.int .i64 tm],.int .i64 0]) (by simp [results,Tryz.results33,go_sem,t0,t1,t2]) rfl ⟨ea,ecap,by rw [HAN.out,HTB.out,HTM.out],?_,?_⟩
   ·have hT0:=HAT.out
    obtain ⟨ea2,ecap2,⟨⟨d0,_⟩,_⟩,hT2⟩:=hT0
    have d1:=keep HB.out d0
    rw [HAN.out] at c0
    rw [d1] at c0
    cases c0
    exact hT2.below (by repeat (first|with_reducible (first|exact HB.out|exact Below.refl _ _|apply Below.drew|apply below_alloc)|((first|with_reducible refine Below.alloc ?_ ?_ _|with_reducible refine Below.setCell ?_ ?_ _);rotate_left;focus (first|(simp <;> omega)|omega))))
   ·repeat (first|with_reducible (first|exact HB.out|exact Below.refl _ _|apply Below.drew|apply below_alloc)|((first|with_reducible refine Below.alloc ?_ ?_ _|with_reducible refine Below.setCell ?_ ?_ _);rotate_left;focus (first|(simp <;> omega)|omega)))
  ·have e2:askM m n=2:=by rw [askM,if_pos hm,if_neg hr]
   rw [oneM,if_neg (by rw [e2];decide),e2] at hu
   cases hu
   obtain ⟨nt,hnt⟩:∃ nt,nt=m.tops.length:=⟨_,rfl⟩
   rw [← hnt] at S ⊢
   have hn:n < 0∨(¬ n < 0∧4≤n):=by omega
   clear h hf hT hnt hm h4 e2 hr
   rcases hn with hn|⟨hn,hn2⟩
   all_goals
    go_enter Tryz.func33,Tryz.ntmps33
    go_wp2_with fail
    refine Calls.mono (mdlCheck_any ?_ HF.out 0 HC.out) ?_
    ·exact S.out.below (by repeat (first|with_reducible (first|exact Below.refl _ _|apply Below.drew|apply below_alloc)|((first|with_reducible refine Below.alloc ?_ ?_ _|with_reducible refine Below.setCell ?_ ?_ _);rotate_left;focus (first|(simp <;> omega)|omega))))
    rintro e w1 ⟨rfl,hb⟩
    have HB:Hid (Below w.heap.size w _):=below_step (by repeat (first|with_reducible (first|exact Below.refl _ _|apply Below.drew|apply below_alloc)|((first|with_reducible refine Below.alloc ?_ ?_ _|with_reducible refine Below.setCell ?_ ?_ _);rotate_left;focus (first|(simp <;> omega)|omega)))) hb
    have R:Blk _ (w.heap.size+1) _ _:=Blk.step (by repeat (first|((with_reducible apply Blk.new);focus (first|rfl|(simp <;> omega)))|with_reducible (first|apply Blk.drew|apply Blk.alloc|apply Blk.set_)|((with_reducible apply Blk.far);rotate_left;focus (first|(simp <;> omega)|omega)))) hb
    obtain ⟨r0,r1,r2,rz⟩:=cells3 R
    have rl:=Blk.lt R
    have HR:=LH R
    clear R
    clear hb
    go_wp2_with fail
    refine bodyPost_ret (v:=.tuple #[.agg #[.slice none 0 0,.int .i64 0,.int .i64 0],.int .i64 2]) (by simp [results,Tryz.results33,go_sem,r0,r1,r2]) rfl ⟨none,0,rfl,pl_zero _,?_⟩
    repeat (first|with_reducible (first|exact HB.out|exact Below.refl _ _|apply Below.drew|apply below_alloc)|((first|with_reducible refine Below.alloc ?_ ?_ _|with_reducible refine Below.setCell ?_ ?_ _);rotate_left;focus (first|(simp <;> omega)|omega)))
 ·have HC:=LH (show (8:Int)=if mayM m then 0 else 8 by rw [if_neg hm])
  have e2:askM m n=8:=by rw [askM,if_neg hm]
  rw [oneM,if_neg (by rw [e2];decide),e2] at hu
  cases hu
  obtain ⟨nt,hnt⟩:∃ nt,nt=m.tops.length:=⟨_,rfl⟩
  rw [← hnt] at S ⊢
  clear h hf hT hnt hm e2
  go_enter Tryz.func33,Tryz.ntmps33
  go_wp2_with fail
  refine Calls.mono (mdlCheck_any ?_ HF.out 8 HC.out) ?_
  ·exact S.out.below (by repeat (first|with_reducible (first|exact Below.refl _ _|apply Below.drew|apply below_alloc)|((first|with_reducible refine Below.alloc ?_ ?_ _|with_reducible refine Below.setCell ?_ ?_ _);rotate_left;focus (first|(simp <;> omega)|omega))))
  rintro e w1 ⟨rfl,hb⟩
  have HB:Hid (Below w.heap.size w _):=below_step (by repeat (first|with_reducible (first|exact Below.refl _ _|apply Below.drew|apply below_alloc)|((first|with_reducible refine Below.alloc ?_ ?_ _|with_reducible refine Below.setCell ?_ ?_ _);rotate_left;focus (first|(simp <;> omega)|omega)))) hb
  have R:Blk _ (w.heap.size+1) _ _:=Blk.step (by repeat (first|((with_reducible apply Blk.new);focus (first|rfl|(simp <;> omega)))|with_reducible (first|apply Blk.drew|apply Blk.alloc|apply Blk.set_)|((with_reducible apply Blk.far);rotate_left;focus (first|(simp <;> omega)|omega)))) hb
  obtain ⟨r0,r1,r2,rz⟩:=cells3 R
  have rl:=Blk.lt R
  have HR:=LH R
  clear R
  clear hb
  go_wp2_with fail
  refine bodyPost_ret (v:=.tuple #[.agg #[.slice none 0 0,.int .i64 0,.int .i64 0],.int .i64 8]) (by simp [results,Tryz.results33,go_sem,r0,r1,r2]) rfl ⟨none,0,rfl,pl_zero _,?_⟩
  repeat (first|with_reducible (first|exact HB.out|exact Below.refl _ _|apply Below.drew|apply below_alloc)|((first|with_reducible refine Below.alloc ?_ ?_ _|with_reducible refine Below.setCell ?_ ?_ _);rotate_left;focus (first|(simp <;> omega)|omega)))
theorem endM_one (m:Mdl) (n:Int):endM m n=(((oneM m n).1.all.length:Int),(oneM m n).2):=by
 rw [endM,oneM]
 split <;> rfl
set_option maxRecDepth 100000 in
theorem mdlEnd_any {v:Value} {m:Mdl} {w:World} {x y:Int} (n:Int) (h:MdlR w v m) (hf:few m.coms) (hu:endM m n=(x,y)) :
  Calls Tryz.prog 14 #[v,.int .i64 n] w fun e w'=>e=.returned (.tuple #[.int .i64 x,.int .i64 y])∧Below w.heap.size w w':=by
 have S:=LH h
 have HF:=LH hf
 obtain ⟨a,cap,b,nc,cc,rfl,-,-⟩:=h.shape
 rw [endM_one] at hu
 obtain ⟨p,c,hp⟩:∃ p c,oneM m n=(p,c):=⟨_,_,rfl⟩
 rw [hp] at hu
 cases hu
 have HP:=LH hp
 clear h hf hp
 go_enter Tryz.func14,Tryz.ntmps14
 go_wp2_with fail
 refine Calls.mono (mdlOne_any n ?_ HF.out HP.out) ?_
 ·exact S.out.below (by repeat (first|with_reducible (first|exact Below.refl _ _|apply Below.drew|apply below_alloc)|((first|with_reducible refine Below.alloc ?_ ?_ _|with_reducible refine Below.setCell ?_ ?_ _);rotate_left;focus (first|(simp <;> omega)|omega))))
 rintro e w1 ⟨ea,ecap,rfl,-,hb⟩
 have HB:Hid (Below w.heap.size w _):=below_step (by repeat (first|with_reducible (first|exact Below.refl _ _|apply Below.drew|apply below_alloc)|((first|with_reducible refine Below.alloc ?_ ?_ _|with_reducible refine Below.setCell ?_ ?_ _);rotate_left;focus (first|(simp <;> omega)|omega)))) hb
 clear hb
 go_wp2_with fail
 go_ret2
 refine ⟨rfl,?_⟩
 repeat (first|with_reducible (first|exact HB.out|exact Below.refl _ _|apply Below.drew|apply below_alloc)|((first|with_reducible refine Below.alloc ?_ ?_ _|with_reducible refine Below.setCell ?_ ?_ _);rotate_left;focus (first|(simp <;> omega)|omega)))
theorem farM_one (m:Mdl) (n k:Int):farM m n k=if askM m n=0 then (if 0≤k∧k < 8 then (getC m.coms n k,0) else (0,2)) else (0,askM m n):=by
 rw [farM]
 by_cases hm:mayM m
 ·rw [if_pos hm,askM,if_pos hm]
  by_cases hn:0≤n∧n < 4
  ·rw [if_pos hn]
   simp [hn]
  ·rw [if_neg hn,if_neg (fun h=>hn h.1),if_neg (by decide)]
 ·rw [if_neg hm,askM,if_neg hm,if_neg (by decide)]
set_option maxHeartbeats 4000000 in
set_option maxRecDepth 100000 in
theorem mdlFar_any {v:Value} {m:Mdl} {w:World} {x y:Int} (n k:Int) (h:MdlR w v m) (hf:few m.coms) (hu:farM m n k=(x,y)) :
  Calls Tryz.prog 12 #[v,.int .i64 n,.int .i64 k] w fun e w'=>e=.returned (.tuple #[.int .i64 x,.int .i64 y])∧Below w.heap.size w w':=by
 have S:=LH h
 have HF:=LH hf
 obtain ⟨a,cap,b,nc,cc,rfl,-,hR⟩:=h.shape
 rw [farM_one] at hu
 obtain ⟨p,c,hp⟩:∃ p c,oneM m n=(p,c):=⟨_,_,rfl⟩
 have HP:=LH hp
 obtain ⟨nt,hnt⟩:∃ nt,nt=m.tops.length:=⟨_,rfl⟩
 rw [← hnt] at S ⊢
 by_cases ha:askM m n=0
 ·obtain ⟨hm,h0,h1⟩:=askM_zero.1 ha
  obtain rfl:c=0:=by rw [oneM,if_pos ha] at hp;cases hp;rfl
  rw [if_pos ha] at hu
  by_cases hk:0≤k∧k < 8
  ·rw [if_pos hk] at hu
   obtain ⟨hk0,hk1⟩:=hk
   obtain ⟨rb,roff,rcap,gb,goff,gcap,hv,d1,d2⟩:=rows_cell hR hm.2.1 h0 h1 hk0 hk1
   cases hv
   obtain ⟨z,hz⟩:∃ z,z=getC m.coms n k:=⟨_,rfl⟩
   rw [← hz] at hu d2
   cases hu
   obtain ⟨i,rfl⟩:∃ i:Nat,n=(i:Int):=⟨n.toNat,by omega⟩
   obtain ⟨j,rfl⟩:∃ j:Nat,k=(j:Int):=⟨k.toNat,by omega⟩
   rw [Int.toNat_natCast] at d1 d2
   have hr0:4≤cc∧cc≤maxLen:=by
    have:=hR.at_.1
    omega
   have D1:=LH d1
   have D2:=LH d2
   clear h hf hR hp hnt hm ha hz d1 d2
   go_enter Tryz.func12,Tryz.ntmps12
   go_wp2_with fail
   refine Calls.mono (mdlOne_any (i:Int) ?_ HF.out HP.out) ?_
   ·exact S.out.below (by repeat (first|with_reducible (first|exact Below.refl _ _|apply Below.drew|apply below_alloc)|((first|with_reducible refine Below.alloc ?_ ?_ _|with_reducible refine Below.setCell ?_ ?_ _);rotate_left;focus (first|(simp <;> omega)|omega))))
   rintro e w1 ⟨ea,ecap,rfl,-,hb⟩
   have HB:Hid (Below w.heap.size w _):=below_step (by repeat (first|with_reducible (first|exact Below.refl _ _|apply Below.drew|apply below_alloc)|((first|with_reducible refine Below.alloc ?_ ?_ _|with_reducible refine Below.setCell ?_ ?_ _);rotate_left;focus (first|(simp <;> omega)|omega)))) hb
   have P:Blk _ (w.heap.size) _ _:=Blk.step (by repeat (first|((with_reducible apply Blk.new);focus (first|rfl|(simp <;> omega)))|with_reducible (first|apply Blk.drew|apply Blk.alloc|apply Blk.set_)|((with_reducible apply Blk.far);rotate_left;focus (first|(simp <;> omega)|omega)))) hb
   obtain ⟨p0,p1,pz⟩:=cells2 P
   have pl:=Blk.lt P
   have HP:=LH P
   clear P
   have d1:=keep HB.out D1.out
   have d2:=keep HB.out D2.out
   have hg1:rb < w1.heap.size:=World.block_lt_of_cell? w1 _ d1
   have hg2:gb < w1.heap.size:=World.block_lt_of_cell? w1 _ d2
   clear hb
   go_wp2_with fail
   first|skip|(go_region;go_wp2_with fail)
   go_ret2
   refine ⟨rfl,?_⟩
   repeat (first|with_reducible (first|exact HB.out|exact Below.refl _ _|apply Below.drew|apply below_alloc)|((first|with_reducible refine Below.alloc ?_ ?_ _|with_reducible refine Below.setCell ?_ ?_ _);rotate_left;focus (first|(simp <;> omega)|omega)))
  ·rw [if_neg hk] at hu
   cases hu
   have hkk:k < 0∨(¬ k < 0∧8≤k):=by omega
   clear h hf hR hp hnt hm ha hk
   rcases hkk with hk|⟨hk,hk2⟩
   all_goals
    go_enter Tryz.func12,Tryz.ntmps12
    go_wp2_with fail
    refine Calls.mono (mdlOne_any n ?_ HF.out HP.out) ?_
    ·exact S.out.below (by repeat (first|with_reducible (first|exact Below.refl _ _|apply Below.drew|apply below_alloc)|((first|with_reducible refine Below.alloc ?_ ?_ _|with_reducible refine Below.setCell ?_ ?_ _);rotate_left;focus (first|(simp <;> omega)|omega))))
    rintro e w1 ⟨ea,ecap,rfl,-,hb⟩
    have HB:Hid (Below w.heap.size w _):=below_step (by repeat (first|with_reducible (first|exact Below.refl _ _|apply Below.drew|apply below_alloc)|((first|with_reducible refine Below.alloc ?_ ?_ _|with_reducible refine Below.setCell ?_ ?_ _);rotate_left;focus (first|(simp <;> omega)|omega)))) hb
    clear hb
    go_wp2_with fail
    go_ret2
    refine ⟨rfl,?_⟩
    repeat (first|with_reducible (first|exact HB.out|exact Below.refl _ _|apply Below.drew|apply below_alloc)|((first|with_reducible refine Below.alloc ?_ ?_ _|with_reducible refine Below.setCell ?_ ?_ _);rotate_left;focus (first|(simp <;> omega)|omega)))
 ·rw [if_neg ha] at hu
  have hcc:c=askM m n:=by rw [oneM,if_neg ha] at hp;cases hp;rfl
  rw [← hcc] at hu ha
  have hd:(c != 0)=true:=by simpa using ha
  cases hu
  clear h hf hR hp hnt hcc ha
  go_enter Tryz.func12,Tryz.ntmps12
  go_wp2_with fail
  refine Calls.mono (mdlOne_any n ?_ HF.out HP.out) ?_
  ·exact S.out.below (by repeat (first|with_reducible (first|exact Below.refl _ _|apply Below.drew|apply below_alloc)|((first|with_reducible refine Below.alloc ?_ ?_ _|with_reducible refine Below.setCell ?_ ?_ _);rotate_left;focus (first|(simp <;> omega)|omega))))
  rintro e w1 ⟨ea,ecap,rfl,-,hb⟩
  have HB:Hid (Below w.heap.size w _):=below_step (by repeat (first|with_reducible (first|exact Below.refl _ _|apply Below.drew|apply below_alloc)|((first|with_reducible refine Below.alloc ?_ ?_ _|with_reducible refine Below.setCell ?_ ?_ _);rotate_left;focus (first|(simp <;> omega)|omega)))) hb
  clear hb
  go_wp2_with fail
  go_ret2
  refine ⟨rfl,?_⟩
  repeat (first|with_reducible (first|exact HB.out|exact Below.refl _ _|apply Below.drew|apply below_alloc)|((first|with_reducible refine Below.alloc ?_ ?_ _|with_reducible refine Below.setCell ?_ ?_ _);rotate_left;focus (first|(simp <;> omega)|omega)))
theorem cells4_alloc {w:World} {g:Nat} {t:TypeId} {a b c d:Value} (h:Blk w g t [a,b,c,d]) :
  (∀ o,(w.alloc o).cell? ⟨g,0,none⟩=some a)∧(∀ o,(w.alloc o).cell? ⟨g,1,none⟩=some b)∧(∀ o,(w.alloc o).cell? ⟨g,2,none⟩=some c)∧∀ o,(w.alloc o).cell? ⟨g,3,none⟩=some d:=⟨fun o=>(h.alloc o).cell 0,fun o=>(h.alloc o).cell 1,fun o=>(h.alloc o).cell 2,fun o=>(h.alloc o).cell 3⟩
set_option maxHeartbeats 8000000 in
set_option maxRecDepth 100000 in
theorem mdlFetch_any {v:Value} {m:Mdl} {w:World} {x:Ent} {y:Int} (n o:Int) (h:MdlR w v m) (hf:few m.coms) (hu:fetchM m n o=(x,y)) :
  Calls Tryz.prog 10 #[v,.int .i64 n,.int .i64 o] w (EntEnd x y w):=by
 have S:=LH h
 have HF:=LH hf
 obtain ⟨a,cap,b,nc,cc,rfl,-,-⟩:=h.shape
 obtain ⟨p,c,hp⟩:∃ p c,oneM m n=(p,c):=⟨_,_,rfl⟩
 have HP:=LH hp
 obtain ⟨nt,hnt⟩:∃ nt,nt=m.tops.length:=⟨_,rfl⟩
 rw [← hnt] at S ⊢
 rw [fetchM] at hu
 by_cases ha:askM m n=0
 ·rw [if_pos ha] at hu
  obtain ⟨hm,h0,h1⟩:=askM_zero.1 ha
  have hpp:p=plN m n∧c=0:=by rw [oneM,if_pos ha] at hp;cases hp;exact ⟨rfl,rfl⟩
  obtain ⟨hpp,rfl⟩:=hpp
  have HSH:=LH (show shapedP p by rw [hpp];exact mayM_shaped hm _ (plN_mem hm h0 h1))
  rw [← hpp] at hu
  obtain ⟨an,han⟩:∃ an,an=p.all.length:=⟨_,rfl⟩
  have HAN:=LH han
  rw [fetchL,← han] at hu
  have HU:=LH hu
  clear h hf hp hnt ha hm h0 h1 hpp hu han
  by_cases c1:o < 0
  ·have hu:=HU.out
   rw [if_pos c1] at hu
   cases hu
   go_enter Tryz.func10,Tryz.ntmps10
   go_wp2_with fail
   refine Calls.mono (mdlOne_any n ?_ HF.out HP.out) ?_
   ·exact S.out.below (by repeat (first|with_reducible (first|exact Below.refl _ _|apply Below.drew|apply below_alloc)|((first|with_reducible refine Below.alloc ?_ ?_ _|with_reducible refine Below.setCell ?_ ?_ _);rotate_left;focus (first|(simp <;> omega)|omega))))
   rintro e w1 ⟨ea,ecap,rfl,hpl,hb⟩
   have HB:Hid (Below w.heap.size w _):=below_step (by repeat (first|with_reducible (first|exact Below.refl _ _|apply Below.drew|apply below_alloc)|((first|with_reducible refine Below.alloc ?_ ?_ _|with_reducible refine Below.setCell ?_ ?_ _);rotate_left;focus (first|(simp <;> omega)|omega)))) hb
   have R:Blk _ (w.heap.size+1) _ _:=Blk.step (by repeat (first|((with_reducible apply Blk.new);focus (first|rfl|(simp <;> omega)))|with_reducible (first|apply Blk.drew|apply Blk.alloc|apply Blk.set_)|((with_reducible apply Blk.far);rotate_left;focus (first|(simp <;> omega)|omega)))) hb
   obtain ⟨r0,r1,r2,r3,rz⟩:=cells4 R
   have rl:=Blk.lt R
   have HR:=LH R
   clear R
   have PP:=LH hpl
   clear hb hpl
   rw [← HAN.out] at PP ⊢
   go_wp2_with fail
   obtain ⟨t0,t1,t2,t3⟩:=cells4_alloc ((((HR.out.set_ 0 (.int .i64 0)).set_ 1 (.int .i64 0)).set_ 2 (.string ⟨#[]⟩)).set_ 3 (.string ⟨#[]⟩))
   refine bodyPost_ret (v:=.tuple #[.agg #[.int .i64 0,.int .i64 0,.string ⟨#[]⟩,.string ⟨#[]⟩],.int .i64 2]) (by simp [results,Tryz.results10,go_sem,t0,t1,t2,t3]) rfl ⟨rfl,?_⟩
   repeat (first|with_reducible (first|exact HB.out|exact Below.refl _ _|apply Below.drew|apply below_alloc)|((first|with_reducible refine Below.alloc ?_ ?_ _|with_reducible refine Below.setCell ?_ ?_ _);rotate_left;focus (first|(simp <;> omega)|omega)))
  by_cases c2:(an:Int)≤o
  ·have hu:=HU.out
   rw [if_neg c1,if_pos c2] at hu
   cases hu
   go_enter Tryz.func10,Tryz.ntmps10
   go_wp2_with fail
   refine Calls.mono (mdlOne_any n ?_ HF.out HP.out) ?_
   ·exact S.out.below (by repeat (first|with_reducible (first|exact Below.refl _ _|apply Below.drew|apply below_alloc)|((first|with_reducible refine Below.alloc ?_ ?_ _|with_reducible refine Below.setCell ?_ ?_ _);rotate_left;focus (first|(simp <;> omega)|omega))))
   rintro e w1 ⟨ea,ecap,rfl,hpl,hb⟩
   have HB:Hid (Below w.heap.size w _):=below_step (by repeat (first|with_reducible (first|exact Below.refl _ _|apply Below.drew|apply below_alloc)|((first|with_reducible refine Below.alloc ?_ ?_ _|with_reducible refine Below.setCell ?_ ?_ _);rotate_left;focus (first|(simp <;> omega)|omega)))) hb
   have R:Blk _ (w.heap.size+1) _ _:=Blk.step (by repeat (first|((with_reducible apply Blk.new);focus (first|rfl|(simp <;> omega)))|with_reducible (first|apply Blk.drew|apply Blk.alloc|apply Blk.set_)|((with_reducible apply Blk.far);rotate_left;focus (first|(simp <;> omega)|omega)))) hb
   obtain ⟨r0,r1,r2,r3,rz⟩:=cells4 R
   have rl:=Blk.lt R
   have HR:=LH R
   clear R
   have PP:=LH hpl
   clear hb hpl
   rw [← HAN.out] at PP ⊢
   go_wp2_with fail
   obtain ⟨t0,t1,t2,t3⟩:=cells4_alloc ((((HR.out.set_ 0 (.int .i64 0)).set_ 1 (.int .i64 0)).set_ 2 (.string ⟨#[]⟩)).set_ 3 (.string ⟨#[]⟩))
   refine bodyPost_ret (v:=.tuple #[.agg #[.int .i64 0,.int .i64 0,.string ⟨#[]⟩,.string ⟨#[]⟩],.int .i64 170]) (by simp [results,Tryz.results10,go_sem,t0,t1,t2,t3]) rfl ⟨rfl,?_⟩
   repeat (first|with_reducible (first|exact HB.out|exact Below.refl _ _|apply Below.drew|apply below_alloc)|((first|with_reducible refine Below.alloc ?_ ?_ _|with_reducible refine Below.setCell ?_ ?_ _);rotate_left;focus (first|(simp <;> omega)|omega)))
  by_cases c3:o < p.base
  ·have hu:=HU.out
   rw [if_neg c1,if_neg c2,if_pos c3] at hu
   cases hu
   go_enter Tryz.func10,Tryz.ntmps10
   go_wp2_with fail
   refine Calls.mono (mdlOne_any n ?_ HF.out HP.out) ?_
   ·exact S.out.below (by repeat (first|with_reducible (first|exact Below.refl _ _|apply Below.drew|apply below_alloc)|((first|with_reducible refine Below.alloc ?_ ?_ _|with_reducible refine Below.setCell ?_ ?_ _);rotate_left;focus (first|(simp <;> omega)|omega))))
   rintro e w1 ⟨ea,ecap,rfl,hpl,hb⟩
   have HB:Hid (Below w.heap.size w _):=below_step (by repeat (first|with_reducible (first|exact Below.refl _ _|apply Below.drew|apply below_alloc)|((first|with_reducible refine Below.alloc ?_ ?_ _|with_reducible refine Below.setCell ?_ ?_ _);rotate_left;focus (first|(simp <;> omega)|omega)))) hb
   have R:Blk _ (w.heap.size+1) _ _:=Blk.step (by repeat (first|((with_reducible apply Blk.new);focus (first|rfl|(simp <;> omega)))|with_reducible (first|apply Blk.drew|apply Blk.alloc|apply Blk.set_)|((with_reducible apply Blk.far);rotate_left;focus (first|(simp <;> omega)|omega)))) hb
   obtain ⟨r0,r1,r2,r3,rz⟩:=cells4 R
   have rl:=Blk.lt R
   have HR:=LH R
   clear R
   have PP:=LH hpl
   clear hb hpl
   rw [← HAN.out] at PP ⊢
   go_wp2_with fail
   obtain ⟨t0,t1,t2,t3⟩:=cells4_alloc ((((HR.out.set_ 0 (.int .i64 0)).set_ 1 (.int .i64 0)).set_ 2 (.string ⟨#[]⟩)).set_ 3 (.string ⟨#[]⟩))
   refine bodyPost_ret (v:=.tuple #[.agg #[.int .i64 0,.int .i64 0,.string ⟨#[]⟩,.string ⟨#[]⟩],.int .i64 171]) (by simp [results,Tryz.results10,go_sem,t0,t1,t2,t3]) rfl ⟨rfl,?_⟩
   repeat (first|with_reducible (first|exact HB.out|exact Below.refl _ _|apply Below.drew|apply below_alloc)|((first|with_reducible refine Below.alloc ?_ ?_ _|with_reducible refine Below.setCell ?_ ?_ _);rotate_left;focus (first|(simp <;> omega)|omega)))
  obtain ⟨i,rfl⟩:∃ i:Nat,o=(i:Int):=⟨o.toNat,by omega⟩
  have hu:=HU.out
  rw [if_neg c1,if_neg c2,if_neg c3,Int.toNat_natCast] at hu
  have hil:i < p.all.length:=by have:=HAN.out;omega
  have hi1:(i:Int) < (an:Int):=by omega
  obtain ⟨z,hz⟩:∃ z,z=p.all.getD i default:=⟨_,rfl⟩
  obtain ⟨q,hq⟩:∃ q,q=keptI p i:=⟨_,rfl⟩
  have KK:Hid (∀ (W:World) {v:Value},PlR W v p→Calls Tryz.prog 34 #[v,.agg #[.int .i64 z.off,.int .i64 z.id,.string z.key,.string z.body]] W fun e w'=>e=.returned (.bool q)∧Below W.heap.size W w'):=LH (fun W v hW=>by rw [hz,hq];exact kept_any i hW HSH.out hil)
  rw [← hz,← hq] at hu
  have HZ:=LH hz
  have HIL:=LH hil
  have HU2:=LH hu
  clear hu hz hq hil
  go_enter Tryz.func10,Tryz.ntmps10
  go_wp2_with fail
  refine Calls.mono (mdlOne_any n ?_ HF.out HP.out) ?_
  ·exact S.out.below (by repeat (first|with_reducible (first|exact Below.refl _ _|apply Below.drew|apply below_alloc)|((first|with_reducible refine Below.alloc ?_ ?_ _|with_reducible refine Below.setCell ?_ ?_ _);rotate_left;focus (first|(simp <;> omega)|omega))))
  rintro e w1 ⟨ea,ecap,rfl,hpl,hb⟩
  have HB:Hid (Below w.heap.size w _):=below_step (by repeat (first|with_reducible (first|exact Below.refl _ _|apply Below.drew|apply below_alloc)|((first|with_reducible refine Below.alloc ?_ ?_ _|with_reducible refine Below.setCell ?_ ?_ _);rotate_left;focus (first|(simp <;> omega)|omega)))) hb
  have R:Blk _ (w.heap.size+1) _ _:=Blk.step (by repeat (first|((with_reducible apply Blk.new);focus (first|rfl|(simp <;> omega)))|with_reducible (first|apply Blk.drew|apply Blk.alloc|apply Blk.set_)|((with_reducible apply Blk.far);rotate_left;focus (first|(simp <;> omega)|omega)))) hb
  obtain ⟨r0,r1,r2,r3,rz⟩:=cells4 R
  have rl:=Blk.lt R
  have HR:=LH R
  clear R
  have PP:=LH hpl
  clear hb hpl
  obtain ⟨a9,cap9,ev,hsl⟩:=PP.out
  cases ev
  obtain ⟨⟨_,hcap⟩,⟨hmx,_⟩,hd⟩:=hsl.ents
  obtain ⟨bb,off,ha,hat⟩:=hd (by have:=HIL.out;omega)
  subst ha
  have cc1:=hat i HIL.out
  rw [← HZ.out] at cc1
  have e0:=cc1.1.1.1
  have e1:=cc1.1.1.2
  have e2:=cc1.1.2
  have e3:=cc1.2
  have hbl:bb < w1.heap.size:=World.block_lt_of_cell? w1 _ e0
  rw [← HAN.out] at PP hcap ⊢
  unfold maxLen at hmx
  clear hsl hd hat cc1
  have hu:=HU2.out
  cases q
  ·rw [if_neg (by decide)] at hu
   cases hu
   clear HU HU2
   go_wp2_with fail
   refine wp_region_below (by kernel_rfl) (by kernel_rfl) ?_
   repeat
    with_reducible refine wpQuiet_step (fun K hK=>?_)
    first
     |refine quiet_not (by rfl) (hK _ ?_)
     |refine quiet_any (by rfl) ?_
      apply Exists.intro
      refine ⟨fun wq hq=>?_,hK _ ?_⟩
      ·obtain ⟨qc,_⟩:=bcell hq.out
       go_simp
       first
        |done
        |(with_reducible rfl)
        |((go_at_call 34;exact call_in hq.out (KK.out _ ((PP.out.below (by repeat (first|with_reducible (first|exact Below.refl _ _|apply Below.drew|apply below_alloc)|((first|with_reducible refine Below.alloc ?_ ?_ _|with_reducible refine Below.setCell ?_ ?_ _);rotate_left;focus (first|(simp <;> omega)|omega))))).below hq.out))))
    clear hK K
    simp only [Act.put,List.setIfInBounds_toArray,List.set_cons_zero,List.set_cons_succ]
   refine wpQuiet_nil ?_
   rintro w2 hb
   have HB2:Hid (Below w.heap.size w w2):=below_step (by repeat (first|with_reducible (first|exact HB.out|exact Below.refl _ _|apply Below.drew|apply below_alloc)|((first|with_reducible refine Below.alloc ?_ ?_ _|with_reducible refine Below.setCell ?_ ?_ _);rotate_left;focus (first|(simp <;> omega)|omega)))) hb
   replace HR:Hid (Blk w2 (w.heap.size+1) 50 _):=Blk.step (by repeat (first|with_reducible exact HR.out|((with_reducible apply Blk.new);focus (first|rfl|(simp <;> omega)))|with_reducible (first|apply Blk.drew|apply Blk.alloc|apply Blk.set_)|((with_reducible apply Blk.far);rotate_left;focus (first|(simp <;> omega)|omega)))) hb
   clear hb r0 r1 r2 r3 rz rl e0 e1 e2 e3
   obtain ⟨r0,r1,r2,r3,rz⟩:=cells4 HR.out
   have rl:=HR.out.lt
   go_wp2_with fail
   refine bodyPost_ret (v:=.tuple #[.agg #[.int .i64 0,.int .i64 0,.string ⟨#[]⟩,.string ⟨#[]⟩],.int .i64 172]) (by simp [results,Tryz.results10,go_sem,r0,r1,r2,r3]) rfl ⟨rfl,?_⟩
   repeat (first|with_reducible (first|exact HB2.out|exact Below.refl _ _|apply Below.drew|apply below_alloc)|((first|with_reducible refine Below.alloc ?_ ?_ _|with_reducible refine Below.setCell ?_ ?_ _);rotate_left;focus (first|(simp <;> omega)|omega)))
  ·rw [if_pos rfl] at hu
   injection hu with hx9 hy9
   subst hx9
   subst hy9
   clear HU HU2
   have K1:Hid (∀ W:World,Below w1.heap.size w1 W→((W.cell? ⟨bb,off+i * 4,none⟩=some (.int .i64 z.off)∧W.cell? ⟨bb,off+i * 4+1,none⟩=some (.int .i64 z.id))∧W.cell? ⟨bb,off+i * 4+2,none⟩=some (.string z.key))∧W.cell? ⟨bb,off+i * 4+3,none⟩=some (.string z.body)):=LH (fun W hb=>⟨⟨⟨(hb.cell hbl).trans e0,(hb.cell hbl).trans e1⟩,(hb.cell hbl).trans e2⟩,(hb.cell hbl).trans e3⟩)
   go_wp2_with fail
   refine wp_region_below (by kernel_rfl) (by kernel_rfl) ?_
   repeat
    with_reducible refine wpQuiet_step (fun K hK=>?_)
    first
     |refine quiet_not (by rfl) (hK _ ?_)
     |refine quiet_any (by rfl) ?_
      apply Exists.intro
      refine ⟨fun wq hq=>?_,hK _ ?_⟩
      ·obtain ⟨qc,_⟩:=bcell hq.out
       go_simp
       first
        |done
        |(with_reducible rfl)
        |((go_at_call 34;exact call_in hq.out (KK.out _ ((PP.out.below (by repeat (first|with_reducible (first|exact Below.refl _ _|apply Below.drew|apply below_alloc)|((first|with_reducible refine Below.alloc ?_ ?_ _|with_reducible refine Below.setCell ?_ ?_ _);rotate_left;focus (first|(simp <;> omega)|omega))))).below hq.out))))
    clear hK K
    simp only [Act.put,List.setIfInBounds_toArray,List.set_cons_zero,List.set_cons_succ]
   refine wpQuiet_nil ?_
   rintro w2 hb
   have HB2:Hid (Below w.heap.size w w2):=below_step (by repeat (first|with_reducible (first|exact HB.out|exact Below.refl _ _|apply Below.drew|apply below_alloc)|((first|with_reducible refine Below.alloc ?_ ?_ _|with_reducible refine Below.setCell ?_ ?_ _);rotate_left;focus (first|(simp <;> omega)|omega)))) hb
   have HB12:Hid (Below w1.heap.size w1 w2):=below_step (by repeat (first|with_reducible (first|exact Below.refl _ _|apply Below.drew|apply below_alloc)|((first|with_reducible refine Below.alloc ?_ ?_ _|with_reducible refine Below.setCell ?_ ?_ _);rotate_left;focus (first|(simp <;> omega)|omega)))) hb
   replace HR:Hid (Blk w2 (w.heap.size+1) 50 _):=Blk.step (by repeat (first|with_reducible exact HR.out|((with_reducible apply Blk.new);focus (first|rfl|(simp <;> omega)))|with_reducible (first|apply Blk.drew|apply Blk.alloc|apply Blk.set_)|((with_reducible apply Blk.far);rotate_left;focus (first|(simp <;> omega)|omega)))) hb
   have Q:Blk _ (w1.heap.size) _ _:=Blk.step (by repeat (first|((with_reducible apply Blk.new);focus (first|rfl|(simp <;> omega)))|with_reducible (first|apply Blk.drew|apply Blk.alloc|apply Blk.set_)|((with_reducible apply Blk.far);rotate_left;focus (first|(simp <;> omega)|omega)))) hb
   obtain ⟨q0,q1,q2,qz⟩:=cells3 Q
   have ql:=Blk.lt Q
   have HQ:=LH Q
   clear Q
   clear hb r0 r1 r2 r3 rz rl e0 e1 e2 e3
   obtain ⟨r0,r1,r2,r3,rz⟩:=cells4 HR.out
   have rl:=HR.out.lt
   obtain ⟨⟨⟨e0,e1⟩,e2⟩,e3⟩:=K1.out _ HB12.out
   go_wp2_with fail
   obtain ⟨t0,t1,t2,t3,-⟩:=cells4 ((((HR.out.set_ 0 (.int .i64 z.off)).set_ 1 (.int .i64 z.id)).set_ 2 (.string z.key)).set_ 3 (.string z.body))
   refine bodyPost_ret (v:=.tuple #[.agg #[.int .i64 z.off,.int .i64 z.id,.string z.key,.string z.body],.int .i64 0]) (by simp [results,Tryz.results10,go_sem,t0,t1,t2,t3]) rfl ⟨rfl,?_⟩
   repeat (first|with_reducible (first|exact HB2.out|exact Below.refl _ _|apply Below.drew|apply below_alloc)|((first|with_reducible refine Below.alloc ?_ ?_ _|with_reducible refine Below.setCell ?_ ?_ _);rotate_left;focus (first|(simp <;> omega)|omega)))
 ·rw [if_neg ha] at hu
  have hcc:c=askM m n∧p=default:=by rw [oneM,if_neg ha] at hp;cases hp;exact ⟨rfl,rfl⟩
  obtain ⟨hcc,rfl⟩:=hcc
  rw [← hcc] at hu ha
  have hd:(c != 0)=true:=by simpa using ha
  cases hu
  clear h hf hp hnt hcc ha
  go_enter Tryz.func10,Tryz.ntmps10
  go_wp2_with fail
  refine Calls.mono (mdlOne_any n ?_ HF.out HP.out) ?_
  ·exact S.out.below (by repeat (first|with_reducible (first|exact Below.refl _ _|apply Below.drew|apply below_alloc)|((first|with_reducible refine Below.alloc ?_ ?_ _|with_reducible refine Below.setCell ?_ ?_ _);rotate_left;focus (first|(simp <;> omega)|omega))))
  rintro e w1 ⟨ea,ecap,rfl,hpl,hb⟩
  have HB:Hid (Below w.heap.size w _):=below_step (by repeat (first|with_reducible (first|exact Below.refl _ _|apply Below.drew|apply below_alloc)|((first|with_reducible refine Below.alloc ?_ ?_ _|with_reducible refine Below.setCell ?_ ?_ _);rotate_left;focus (first|(simp <;> omega)|omega)))) hb
  have R:Blk _ (w.heap.size+1) _ _:=Blk.step (by repeat (first|((with_reducible apply Blk.new);focus (first|rfl|(simp <;> omega)))|with_reducible (first|apply Blk.drew|apply Blk.alloc|apply Blk.set_)|((with_reducible apply Blk.far);rotate_left;focus (first|(simp <;> omega)|omega)))) hb
  obtain ⟨r0,r1,r2,r3,rz⟩:=cells4 R
  have rl:=Blk.lt R
  have HR:=LH R
  clear R
  have PP:=LH hpl
  clear hb hpl
  go_wp2_with fail
  obtain ⟨t0,t1,t2,t3⟩:=cells4_alloc ((((HR.out.set_ 0 (.int .i64 0)).set_ 1 (.int .i64 0)).set_ 2 (.string ⟨#[]⟩)).set_ 3 (.string ⟨#[]⟩))
  refine bodyPost_ret (v:=.tuple #[.agg #[.int .i64 0,.int .i64 0,.string ⟨#[]⟩,.string ⟨#[]⟩],.int .i64 y]) (by simp [results,Tryz.results10,go_sem,t0,t1,t2,t3]) rfl ⟨rfl,?_⟩
  repeat (first|with_reducible (first|exact HB.out|exact Below.refl _ _|apply Below.drew|apply below_alloc)|((first|with_reducible refine Below.alloc ?_ ?_ _|with_reducible refine Below.setCell ?_ ?_ _);rotate_left;focus (first|(simp <;> omega)|omega)))
end Go.Proofs.YtdfmcgekfogpbabGreatDoor
