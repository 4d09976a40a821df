/-
  Proved here: model.Do.
-/
import Derived.Test.YtdfmcgekfogpbabGreatDoorY31
set_option maxRecDepth 100000
namespace Go.Proofs.YtdfmcgekfogpbabGreatDoor
open Go.RowKit
theorem coms_row {w:World} {B g n cap i gt r c:Nat} {m:List (List Int)} (h:OwnC w B (.slice (some ⟨g,0,none⟩) n cap) m) (hi:i < m.length) (hc:w.cell? ⟨g,i,none⟩=some (.slice (some ⟨gt,0,none⟩) r c)) :
  ∃ k xs,w.ownsRow B 3 1 (.slice (some ⟨gt,0,none⟩) r c) k xs:=by
 obtain ⟨us,h1,h2,h3,_⟩:=h
 have hu:us[i]?=some (us.getD i .nilIface):=by simp [List.getD,show i < us.length by omega]
 have c1:=h1.cells (g:=g) rfl i _ hu
 rw [show ((⟨g,0,none⟩:Addr).add i)=⟨g,i,none⟩ by unfold Addr.add;split <;> simp_all] at c1
 rw [c1] at hc
 injection hc with hc
 have:=h3 i hi
 rw [hc] at this
 exact ⟨_,_,this⟩
theorem coms_apart {w:World} {B g n cap i gt r c:Nat} {m:List (List Int)} (h:OwnC w B (.slice (some ⟨g,0,none⟩) n cap) m) (hi:i < m.length) (hc:w.cell? ⟨g,i,none⟩=some (.slice (some ⟨gt,0,none⟩) r c)):gt≠g:=by
 obtain ⟨k,xs,h3⟩:=coms_row h hi hc
 obtain ⟨us,h1,_⟩:=h
 intro e
 subst e
 exact rows_ne h3 h1 (by decide) rfl rfl
theorem OwnQ.over {w w':World} {B g:Nat} {v:Value} {l:List Pl} (h:OwnQ w B v l) (hh:∀ b,b≠g→w'.heap[b]?=w.heap[b]?) {b2 s2 n2:Nat} {v2:Value} {e2:TypeId} {xs2:List Value} (h2:w.ownsRow b2 e2 s2 v2 n2 xs2) (hg:v2.ownBlock=some g) (h1e:105≠e2) (h2e:50≠e2):OwnQ w' B v l:=by
 obtain ⟨pl,k1,k2,k3⟩:=h
 exact ⟨pl,k1,row_far k2 hh (rows_ne k2 h2 h1e hg),fun p hp=>row_far (k3 p hp) hh (rows_ne (k3 p hp) h2 h2e hg)⟩
set_option maxHeartbeats 8000000 in
set_option maxRecDepth 100000 in
theorem mdlDo_bad {v:Value} {m:Mdl} {w:World} {kind mid mt id time:Int} {ga ma:Option Addr} {gn gc mn mc:Nat} {mk mb:ByteArray} (topic who n:Int) (h:MdlR w v m) (hf:few m.coms) (hm:¬ mayM m) :
  Calls Tryz.prog 28 #[v,.agg #[.int .u8 kind,.int .i64 mid,.slice ga gn gc,.int .i64 mt,.string mk,.string mb,.int .i64 id,.int .i64 time,.slice ma mn mc,.int .i64 topic,.int .i64 who,.int .i64 n]] w (DoEndM Mdl.zero 8 w):=by
 have S:=LH h
 have HF:=LH hf
 have HC:=LH (show (8:Int)=if mayM m then 0 else 8 by rw [if_neg hm])
 obtain ⟨a,cap,bb,nc,cc,rfl,-,-⟩:=h.shape
 clear h hf hm
 go_enter Tryz.func28,Tryz.ntmps28
 go_wp2_with fail
 refine Calls.mono (mdlCheck_any ?_ HF.out 8 HC.out) ?_
 ·exact S.out.below (by repeat (first|with_reducible (first|exact Below.refl _ _|apply Below.drew|apply below_alloc)|((first|with_reducible refine Below.alloc ?_ ?_ _|with_reducible refine Below.setCell ?_ ?_ _);rotate_left;focus (first|(simp <;> omega)|omega))))
 rintro e w1 ⟨rfl,hb⟩
 have HB:Hid (Below w.heap.size w _):=below_step (by repeat (first|with_reducible (first|exact Below.refl _ _|apply Below.drew|apply below_alloc)|((first|with_reducible refine Below.alloc ?_ ?_ _|with_reducible refine Below.setCell ?_ ?_ _);rotate_left;focus (first|(simp <;> omega)|omega)))) hb
 have R:Blk _ (w.heap.size+2) _ _:=Blk.step (by repeat (first|((with_reducible apply Blk.new);focus (first|rfl|(simp <;> omega)))|with_reducible (first|apply Blk.drew|apply Blk.alloc|apply Blk.set_)|((with_reducible apply Blk.far);rotate_left;focus (first|(simp <;> omega)|omega)))) hb
 obtain ⟨r0,r1,rz⟩:=cells2 R
 have rl:=Blk.lt R
 have HR:=LH R
 clear R
 clear hb
 go_wp2_with fail
 refine bodyPost_ret (v:=.tuple #[.agg #[.slice none 0 0,.slice none 0 0],.int .i64 8]) (by simp [results,Tryz.results28,go_sem,r0,r1]) rfl ⟨_,_,rfl,OwnN.zero _ _,?_⟩
 repeat (first|with_reducible (first|exact HB.out|exact Below.refl _ _|apply Below.drew|apply below_alloc)|((first|with_reducible refine Below.alloc ?_ ?_ _|with_reducible refine Below.setCell ?_ ?_ _);rotate_left;focus (first|(simp <;> omega)|omega)))
set_option maxHeartbeats 8000000 in
set_option maxRecDepth 100000 in
theorem mdlDo_no {v:Value} {m:Mdl} {w:World} {kind mid mt id time:Int} {ga ma:Option Addr} {gn gc mn mc:Nat} {mk mb:ByteArray} (topic who n:Int) (h:MdlR w v m) (hf:few m.coms) (hm:mayM m) (hr:¬ rightD kind topic who n) :
  Calls Tryz.prog 28 #[v,.agg #[.int .u8 kind,.int .i64 mid,.slice ga gn gc,.int .i64 mt,.string mk,.string mb,.int .i64 id,.int .i64 time,.slice ma mn mc,.int .i64 topic,.int .i64 who,.int .i64 n]] w (DoEndM Mdl.zero 2 w):=by
 have S:=LH h
 have HF:=LH hf
 have HC:=LH (show (0:Int)=if mayM m then 0 else 8 by rw [if_pos hm])
 obtain ⟨a,cap,bb,nc,cc,rfl,-,-⟩:=h.shape
 have hc:(kind < 4∨(¬ kind < 4∧6 < kind))∨(((kind=5∨kind=6)∨kind=4)∧((topic < 0∨(¬ topic < 0∧4≤topic))∨((¬ topic < 0∧¬ 4≤topic∧n < 0)∨(¬ topic < 0∧¬ 4≤topic∧¬ n < 0∧1073741824 < n))))∨(kind=4∧(¬ topic < 0∧¬ 4≤topic)∧(¬ n < 0∧¬ 1073741824 < n)∧(who < 0∨(¬ who < 0∧8≤who))):=by
  unfold rightD at hr
  omega
 clear h hf hm hr
 rcases hc with (k5|⟨k5,k6⟩)|⟨((rfl|rfl)|rfl),((h3|⟨h3,h4⟩)|(⟨h3,h4,h5⟩|⟨h3,h4,h5,h6⟩))⟩|⟨rfl,⟨h3,h4⟩,⟨h5,h6⟩,(h7|⟨h7,h8⟩)⟩
 all_goals
  go_enter Tryz.func28,Tryz.ntmps28
  go_wp2_with fail
  refine Calls.mono (mdlCheck_any ?_ HF.out 0 HC.out) ?_
  ·exact S.out.below (by repeat (first|with_reducible (first|exact Below.refl _ _|apply Below.drew|apply below_alloc)|((first|with_reducible refine Below.alloc ?_ ?_ _|with_reducible refine Below.setCell ?_ ?_ _);rotate_left;focus (first|(simp <;> omega)|omega))))
  rintro e w1 ⟨rfl,hb⟩
  have HB:Hid (Below w.heap.size w _):=below_step (by repeat (first|with_reducible (first|exact Below.refl _ _|apply Below.drew|apply below_alloc)|((first|with_reducible refine Below.alloc ?_ ?_ _|with_reducible refine Below.setCell ?_ ?_ _);rotate_left;focus (first|(simp <;> omega)|omega)))) hb
  have HC2:Hid (Blk w1 (w.heap.size+1) 79 _):=Blk.step (by repeat (first|with_reducible exact Blk.new rfl|((with_reducible apply Blk.new);focus (first|rfl|(simp <;> omega)))|with_reducible (first|apply Blk.drew|apply Blk.alloc|apply Blk.set_)|((with_reducible apply Blk.far);rotate_left;focus (first|(simp <;> omega)|omega)))) hb
  have R:Blk _ (w.heap.size+2) _ _:=Blk.step (by repeat (first|((with_reducible apply Blk.new);focus (first|rfl|(simp <;> omega)))|with_reducible (first|apply Blk.drew|apply Blk.alloc|apply Blk.set_)|((with_reducible apply Blk.far);rotate_left;focus (first|(simp <;> omega)|omega)))) hb
  obtain ⟨r0,r1,rz⟩:=cells2 R
  have rl:=Blk.lt R
  have HR:=LH R
  clear R
  obtain ⟨⟨⟨d0,-,-,-⟩,-,-,d9,d10,d11⟩,dz⟩:=cells12 HC2.out
  clear hb
  go_wp2_with fail
  refine bodyPost_ret (v:=.tuple #[.agg #[.slice none 0 0,.slice none 0 0],.int .i64 2]) (by simp [results,Tryz.results28,go_sem,r0,r1]) rfl ⟨_,_,rfl,OwnN.zero _ _,?_⟩
  repeat (first|with_reducible (first|exact HB.out|exact Below.refl _ _|apply Below.drew|apply below_alloc)|((first|with_reducible refine Below.alloc ?_ ?_ _|with_reducible refine Below.setCell ?_ ?_ _);rotate_left;focus (first|(simp <;> omega)|omega)))
set_option maxHeartbeats 8000000 in
set_option maxRecDepth 100000 in
theorem mdlDo_ret {v:Value} {m:Mdl} {w:World} {mid mt id time:Int} {ga ma:Option Addr} {gn gc mn mc:Nat} {mk mb:ByteArray} (i:Nat) (who n:Int) (h:MdlR w v m) (hf:few m.coms) (hm:mayM m) (hi:i < 4) (e2:0≤n) (e3:n≤1073741824) :
  Calls Tryz.prog 28 #[v,.agg #[.int .u8 5,.int .i64 mid,.slice ga gn gc,.int .i64 mt,.string mk,.string mb,.int .i64 id,.int .i64 time,.slice ma mn mc,.int .i64 (i:Int),.int .i64 who,.int .i64 n]] w (DoEndM ⟨m.tops.set i ⟨(plN m (i:Int)).all,max (plN m (i:Int)).base (min n ((plN m (i:Int)).all.length:Int)),(plN m (i:Int)).mark⟩,m.coms⟩ 0 w):=by
 have S:=LH h
 have HF:=LH hf
 have HC:=LH (show (0:Int)=if mayM m then 0 else 8 by rw [if_pos hm])
 obtain ⟨a,cap,bb,nc,cc,rfl,-,-⟩:=h.shape
 have h4:=hm.1.1
 have HFT:=LH (fit_of_may hm)
 have HOK:=LH hm.2.1
 have HI:=LH (show i < m.tops.length by omega)
 have h1:(i:Int) < 4:=by omega
 have h0:0≤(i:Int):=by omega
 obtain ⟨p,hp⟩:∃ p,p=plN m (i:Int):=⟨_,rfl⟩
 have HPN:=LH (show p=m.tops.getD i default by rw [hp,plN,Int.toNat_natCast])
 have HSP:=LH (show shapedP p by rw [hp];exact mayM_shaped hm _ (plN_mem hm h0 h1))
 rw [← hp]
 obtain ⟨nt,hnt⟩:∃ nt,nt=m.tops.length:=⟨_,rfl⟩
 have HNT:=LH hnt
 rw [← hnt] at S h4 ⊢
 subst h4
 obtain ⟨an,han⟩:∃ an,an=p.all.length:=⟨_,rfl⟩
 have HAN:=LH han
 rw [← han]
 have ha6:an≤600:=by rw [han];exact HSP.out.2.1
 obtain ⟨n',hn'⟩:∃ n',n'=min n (an:Int):=⟨_,rfl⟩
 have HN':=LH hn'
 have hn0:0≤n':=by omega
 have hn1:n'≤(an:Int):=by omega
 have hmin:min n (an:Int)=n':=hn'.symm
 rw [hmin]
 clear h hf hm hi hp hnt han hn'
 go_enter Tryz.func28,Tryz.ntmps28
 go_wp2_with fail
 refine Calls.mono (mdlCheck_any ?_ HF.out 0 HC.out) ?_
 ·exact S.out.below (by repeat (first|with_reducible (first|exact Below.refl _ _|apply Below.drew|apply below_alloc)|((first|with_reducible refine Below.alloc ?_ ?_ _|with_reducible refine Below.setCell ?_ ?_ _);rotate_left;focus (first|(simp <;> omega)|omega))))
 rintro e w1 ⟨rfl,hb⟩
 have HB:Hid (Below w.heap.size w _):=below_step (by repeat (first|with_reducible (first|exact Below.refl _ _|apply Below.drew|apply below_alloc)|((first|with_reducible refine Below.alloc ?_ ?_ _|with_reducible refine Below.setCell ?_ ?_ _);rotate_left;focus (first|(simp <;> omega)|omega)))) hb
 have P:Blk _ (w.heap.size) _ _:=Blk.step (by repeat (first|((with_reducible apply Blk.new);focus (first|rfl|(simp <;> omega)))|with_reducible (first|apply Blk.drew|apply Blk.alloc|apply Blk.set_)|((with_reducible apply Blk.far);rotate_left;focus (first|(simp <;> omega)|omega)))) hb
 obtain ⟨p0,p1,pz⟩:=cells2 P
 have pl:=Blk.lt P
 have HP:=LH P
 clear P
 have HC1:Hid (Blk w1 (w.heap.size+1) 79 [.int .u8 5,.int .i64 mid,.slice ga gn gc,.int .i64 mt,.string mk,.string mb,.int .i64 id,.int .i64 time,.slice ma mn mc,.int .i64 (i:Int),.int .i64 who,.int .i64 n]):=Blk.step (by repeat (first|with_reducible exact Blk.new rfl|((with_reducible apply Blk.new);focus (first|rfl|(simp <;> omega)))|with_reducible (first|apply Blk.drew|apply Blk.alloc|apply Blk.set_)|((with_reducible apply Blk.far);rotate_left;focus (first|(simp <;> omega)|omega)))) hb
 have R:Blk _ (w.heap.size+2) _ _:=Blk.step (by repeat (first|((with_reducible apply Blk.new);focus (first|rfl|(simp <;> omega)))|with_reducible (first|apply Blk.drew|apply Blk.alloc|apply Blk.set_)|((with_reducible apply Blk.far);rotate_left;focus (first|(simp <;> omega)|omega)))) hb
 obtain ⟨r0,r1,rz⟩:=cells2 R
 have rl:=Blk.lt R
 have HR:=LH R
 clear R
 obtain ⟨⟨⟨d0,-,-,-⟩,-,-,d9,d10,d11⟩,dz⟩:=cells12 HC1.out
 have cl:=HC1.out.lt
 clear hb
 go_wp2_with fail
 refine Calls.mono (mdlTwin_any (m:=m) ?_ HFT.out) ?_
 ·exact S.out.below (by repeat (first|with_reducible (first|exact HB.out|exact Below.refl _ _|apply Below.drew|apply below_alloc)|((first|with_reducible refine Below.alloc ?_ ?_ _|with_reducible refine Below.setCell ?_ ?_ _);rotate_left;focus (first|(simp <;> omega)|omega))))
 rintro e w2 ⟨ta,tc,rfl,os,hb⟩
 obtain ⟨a3,cap3,b3,nc3,cc3,ev,-,-⟩:=os.reads.shape
 cases ev
 have e4:m.tops.length=4:=HNT.out.symm
 rw [e4] at os ⊢
 have oc:=(show OwnC w2 w1.heap.size (.slice b3 nc3 cc3) m.coms from by obtain ⟨_,_,ev,_,h2⟩:=os;cases ev;exact OwnRows.le h2 (by simp))
 have op:=(show OwnP w2 w1.heap.size (.slice a3 4 cap3) m.tops from by obtain ⟨_,_,ev,h2,_⟩:=os;cases ev;exact h2.le (by simp))
 have HB2:Hid (Below w.heap.size w w2):=below_step (by repeat (first|with_reducible (first|exact HB.out|exact Below.refl _ _|apply Below.drew|apply below_alloc)|((first|with_reducible refine Below.alloc ?_ ?_ _|with_reducible refine Below.setCell ?_ ?_ _);rotate_left;focus (first|(simp <;> omega)|omega)))) hb
 have hw2:w1.heap.size≤w2.heap.size:=hb.size
 have hw1:w.heap.size+2 < w1.heap.size:=rl
 have HP2:=LH (HP.out.step hb)
 have HC3:=LH (HC1.out.step hb)
 have HR2:=LH (HR.out.step hb)
 have HP3:=LH ((HP2.out.set_ 0 (.slice a3 4 cap3)).set_ 1 (.slice b3 nc3 cc3))
 have HC4:=LH ((HC3.out.far (b:=w.heap.size) (o:=0) (by omega) (.slice a3 4 cap3)).far (b:=w.heap.size) (o:=1) (by omega) (.slice b3 nc3 cc3))
 have HR3:=LH ((HR2.out.far (b:=w.heap.size) (o:=0) (by omega) (.slice a3 4 cap3)).far (b:=w.heap.size) (o:=1) (by omega) (.slice b3 nc3 cc3))
 have HB3:=LH ((HB2.out.setCell (p:=⟨w.heap.size,0,none⟩) (by simp) (.slice a3 4 cap3)).setCell (p:=⟨w.heap.size,1,none⟩) (by simp) (.slice b3 nc3 cc3))
 have OP3:=LH ((op.far (b:=w.heap.size) (o:=0) (u:=.slice a3 4 cap3) (by omega)).far (b:=w.heap.size) (o:=1) (u:=.slice b3 nc3 cc3) (by omega))
 have OC3:=LH (OwnC.far (b:=w.heap.size) (o:=1) (u:=.slice b3 nc3 cc3) (OwnC.far (b:=w.heap.size) (o:=0) (u:=.slice a3 4 cap3) oc (by omega)) (by omega))
 have hsz:((w2.setCell ⟨w.heap.size,0,none⟩ (.slice a3 4 cap3)).setCell ⟨w.heap.size,1,none⟩ (.slice b3 nc3 cc3)).heap.size=w2.heap.size:=by simp
 clear r0 r1 rz p0 p1 pz d0 d9 d10 d11 dz hb oc op os e4 HB2 HB HP HC1 HR rl pl cl
 obtain ⟨p0,p1,pz⟩:=cells2 HP2.out
 go_upto_region 8 with fail
 generalize (w2.setCell ⟨w.heap.size,0,none⟩ (.slice a3 4 cap3)).setCell ⟨w.heap.size,1,none⟩ (.slice b3 nc3 cc3)=W3 at HP3 HC4 HR3 HB3 OP3 OC3 hsz ⊢
 have hw3:w1.heap.size≤W3.heap.size:=by omega
 clear hsz p0 p1 pz HP2 HC3 HR2
 obtain ⟨p0,p1,pz⟩:=cells2 HP3.out
 obtain ⟨r0,r1,rz⟩:=cells2 HR3.out
 obtain ⟨⟨⟨d0,-,-,-⟩,-,-,d9,d10,d11⟩,dz⟩:=cells12 HC4.out
 have pl:=HP3.out.lt
 have rl:=HR3.out.lt
 have cl:=HC4.out.lt
 obtain ⟨g3,hg,⟨hg1,hg2⟩,⟨-,hn1',hn2⟩,hat,hfz⟩:=OP3.out.at_ HI.out
 cases hg
 unfold maxLen at hn2
 obtain ⟨ea,ecap,⟨⟨c0,c1⟩,c2⟩,hpr⟩:=hat
 rw [← HPN.out] at c0 c1 c2 hpr
 rw [← HAN.out] at c0 hpr
 have hea:(an:Int)≤9223372036854775807:=by omega
 obtain ⟨tb,htb⟩:∃ tb,tb=p.base:=⟨_,rfl⟩
 obtain ⟨tm,htm⟩:∃ tm,tm=p.mark:=⟨_,rfl⟩
 have HTB:=LH htb
 have HTM:=LH htm
 rw [← htb] at c1
 rw [← htm] at c2
 have c3:=hfz (i * 3+1)
 have c4:=hfz (i * 3+2)
 clear htb htm hpr hfz
 obtain ⟨z,hz⟩:∃ z,z=max tb n':=⟨_,rfl⟩
 have HZ:=LH hz
 have hmax:max tb n'=z:=hz.symm
 clear hz
 go_wp2_with fail
 go_region
 go_wp2_with fail
 have OQ4:=OwnP.put (j:=1) (y:=z) OP3.out HI.out (p':=⟨p.all,z,p.mark⟩) (by rw [← HPN.out];exact Or.inl ⟨rfl,rfl⟩)
 obtain ⟨ps,-,hrow,-⟩:=OP3.out
 have OC4:=OwnC.over (w':=W3.setCell ⟨g3,i * 3+1,none⟩ (.int .i64 z)) OC3.out (fun b hb=>heap_setCell_other _ _ _ _ hb) hrow rfl (by decide) (by decide)
 have HR4:=HR3.out.far (b:=g3) (o:=i * 3+1) (by omega) (.int .i64 z)
 have HB4:=HB3.out.setCell (p:=⟨g3,i * 3+1,none⟩) (by show w.heap.size≤g3;omega) (.int .i64 z)
 obtain ⟨t0,t1,-⟩:=cells2 ((HR4.set_ 0 (.slice (some ⟨g3,0,none⟩) 4 cap3)).set_ 1 (.slice b3 nc3 cc3)).drew
 refine bodyPost_ret (v:=.tuple #[.agg #[.slice (some ⟨g3,0,none⟩) 4 cap3,.slice b3 nc3 cc3],.int .i64 0]) (by simp [results,Tryz.results28,go_sem,t0,t1]) rfl ⟨_,_,rfl,⟨_,_,rfl,?_,?_⟩,?_⟩
 ·rw [← HTB.out,← HZ.out]
  exact OwnQ.le ((OQ4.far (b:=w.heap.size+2) (by omega)).far (b:=w.heap.size+2) (by omega)) (by omega)
 ·exact OwnRows.le (OwnC.far (OwnC.far OC4 (by omega)) (by omega)) (by omega)
 ·exact ((HB4.setCell (p:=⟨w.heap.size+2,0,none⟩) (by simp) _).setCell (p:=⟨w.heap.size+2,1,none⟩) (by simp) _).drew
set_option maxHeartbeats 8000000 in
set_option maxRecDepth 100000 in
theorem mdlDo_cmp {v:Value} {m:Mdl} {w:World} {mid mt id time:Int} {ga ma:Option Addr} {gn gc mn mc:Nat} {mk mb:ByteArray} (i:Nat) (who n:Int) (h:MdlR w v m) (hf:few m.coms) (hm:mayM m) (hi:i < 4) (e2:0≤n) (e3:n≤1073741824) :
  Calls Tryz.prog 28 #[v,.agg #[.int .u8 6,.int .i64 mid,.slice ga gn gc,.int .i64 mt,.string mk,.string mb,.int .i64 id,.int .i64 time,.slice ma mn mc,.int .i64 (i:Int),.int .i64 who,.int .i64 n]] w (DoEndM ⟨m.tops.set i ⟨(plN m (i:Int)).all,(plN m (i:Int)).base,max (plN m (i:Int)).mark (min n ((plN m (i:Int)).all.length:Int))⟩,m.coms⟩ 0 w):=by
 have S:=LH h
 have HF:=LH hf
 have HC:=LH (show (0:Int)=if mayM m then 0 else 8 by rw [if_pos hm])
 obtain ⟨a,cap,bb,nc,cc,rfl,-,-⟩:=h.shape
 have h4:=hm.1.1
 have HFT:=LH (fit_of_may hm)
 have HOK:=LH hm.2.1
 have HI:=LH (show i < m.tops.length by omega)
 have h1:(i:Int) < 4:=by omega
 have h0:0≤(i:Int):=by omega
 obtain ⟨p,hp⟩:∃ p,p=plN m (i:Int):=⟨_,rfl⟩
 have HPN:=LH (show p=m.tops.getD i default by rw [hp,plN,Int.toNat_natCast])
 have HSP:=LH (show shapedP p by rw [hp];exact mayM_shaped hm _ (plN_mem hm h0 h1))
 rw [← hp]
 obtain ⟨nt,hnt⟩:∃ nt,nt=m.tops.length:=⟨_,rfl⟩
 have HNT:=LH hnt
 rw [← hnt] at S h4 ⊢
 subst h4
 obtain ⟨an,han⟩:∃ an,an=p.all.length:=⟨_,rfl⟩
 have HAN:=LH han
 rw [← han]
 have ha6:an≤600:=by rw [han];exact HSP.out.2.1
 obtain ⟨n',hn'⟩:∃ n',n'=min n (an:Int):=⟨_,rfl⟩
 have HN':=LH hn'
 have hn0:0≤n':=by omega
 have hn1:n'≤(an:Int):=by omega
 have hmin:min n (an:Int)=n':=hn'.symm
 rw [hmin]
 clear h hf hm hi hp hnt han hn'
 go_enter Tryz.func28,Tryz.ntmps28
 go_wp2_with fail
 refine Calls.mono (mdlCheck_any ?_ HF.out 0 HC.out) ?_
 ·exact S.out.below (by repeat (first|with_reducible (first|exact Below.refl _ _|apply Below.drew|apply below_alloc)|((first|with_reducible refine Below.alloc ?_ ?_ _|with_reducible refine Below.setCell ?_ ?_ _);rotate_left;focus (first|(simp <;> omega)|omega))))
 rintro e w1 ⟨rfl,hb⟩
 have HB:Hid (Below w.heap.size w _):=below_step (by repeat (first|with_reducible (first|exact Below.refl _ _|apply Below.drew|apply below_alloc)|((first|with_reducible refine Below.alloc ?_ ?_ _|with_reducible refine Below.setCell ?_ ?_ _);rotate_left;focus (first|(simp <;> omega)|omega)))) hb
 have P:Blk _ (w.heap.size) _ _:=Blk.step (by repeat (first|((with_reducible apply Blk.new);focus (first|rfl|(simp <;> omega)))|with_reducible (first|apply Blk.drew|apply Blk.alloc|apply Blk.set_)|((with_reducible apply Blk.far);rotate_left;focus (first|(simp <;> omega)|omega)))) hb
 obtain ⟨p0,p1,pz⟩:=cells2 P
 have pl:=Blk.lt P
 have HP:=LH P
 clear P
 have HC1:Hid (Blk w1 (w.heap.size+1) 79 [.int .u8 6,.int .i64 mid,.slice ga gn gc,.int .i64 mt,.string mk,.string mb,.int .i64 id,.int .i64 time,.slice ma mn mc,.int .i64 (i:Int),.int .i64 who,.int .i64 n]):=Blk.step (by repeat (first|with_reducible exact Blk.new rfl|((with_reducible apply Blk.new);focus (first|rfl|(simp <;> omega)))|with_reducible (first|apply Blk.drew|apply Blk.alloc|apply Blk.set_)|((with_reducible apply Blk.far);rotate_left;focus (first|(simp <;> omega)|omega)))) hb
 have R:Blk _ (w.heap.size+2) _ _:=Blk.step (by repeat (first|((with_reducible apply Blk.new);focus (first|rfl|(simp <;> omega)))|with_reducible (first|apply Blk.drew|apply Blk.alloc|apply Blk.set_)|((with_reducible apply Blk.far);rotate_left;focus (first|(simp <;> omega)|omega)))) hb
 obtain ⟨r0,r1,rz⟩:=cells2 R
 have rl:=Blk.lt R
 have HR:=LH R
 clear R
 obtain ⟨⟨⟨d0,-,-,-⟩,-,-,d9,d10,d11⟩,dz⟩:=cells12 HC1.out
 have cl:=HC1.out.lt
 clear hb
 go_wp2_with fail
 refine Calls.mono (mdlTwin_any (m:=m) ?_ HFT.out) ?_
 ·exact S.out.below (by repeat (first|with_reducible (first|exact HB.out|exact Below.refl _ _|apply Below.drew|apply below_alloc)|((first|with_reducible refine Below.alloc ?_ ?_ _|with_reducible refine Below.setCell ?_ ?_ _);rotate_left;focus (first|(simp <;> omega)|omega))))
 rintro e w2 ⟨ta,tc,rfl,os,hb⟩
 obtain ⟨a3,cap3,b3,nc3,cc3,ev,-,-⟩:=os.reads.shape
 cases ev
 have e4:m.tops.length=4:=HNT.out.symm
 rw [e4] at os ⊢
 have oc:=(show OwnC w2 w1.heap.size (.slice b3 nc3 cc3) m.coms from by obtain ⟨_,_,ev,_,h2⟩:=os;cases ev;exact OwnRows.le h2 (by simp))
 have op:=(show OwnP w2 w1.heap.size (.slice a3 4 cap3) m.tops from by obtain ⟨_,_,ev,h2,_⟩:=os;cases ev;exact h2.le (by simp))
 have HB2:Hid (Below w.heap.size w w2):=below_step (by repeat (first|with_reducible (first|exact HB.out|exact Below.refl _ _|apply Below.drew|apply below_alloc)|((first|with_reducible refine Below.alloc ?_ ?_ _|with_reducible refine Below.setCell ?_ ?_ _);rotate_left;focus (first|(simp <;> omega)|omega)))) hb
 have hw2:w1.heap.size≤w2.heap.size:=hb.size
 have hw1:w.heap.size+2 < w1.heap.size:=rl
 have HP2:=LH (HP.out.step hb)
 have HC3:=LH (HC1.out.step hb)
 have HR2:=LH (HR.out.step hb)
 have HP3:=LH ((HP2.out.set_ 0 (.slice a3 4 cap3)).set_ 1 (.slice b3 nc3 cc3))
 have HC4:=LH ((HC3.out.far (b:=w.heap.size) (o:=0) (by omega) (.slice a3 4 cap3)).far (b:=w.heap.size) (o:=1) (by omega) (.slice b3 nc3 cc3))
 have HR3:=LH ((HR2.out.far (b:=w.heap.size) (o:=0) (by omega) (.slice a3 4 cap3)).far (b:=w.heap.size) (o:=1) (by omega) (.slice b3 nc3 cc3))
 have HB3:=LH ((HB2.out.setCell (p:=⟨w.heap.size,0,none⟩) (by simp) (.slice a3 4 cap3)).setCell (p:=⟨w.heap.size,1,none⟩) (by simp) (.slice b3 nc3 cc3))
 have OP3:=LH ((op.far (b:=w.heap.size) (o:=0) (u:=.slice a3 4 cap3) (by omega)).far (b:=w.heap.size) (o:=1) (u:=.slice b3 nc3 cc3) (by omega))
 have OC3:=LH (OwnC.far (b:=w.heap.size) (o:=1) (u:=.slice b3 nc3 cc3) (OwnC.far (b:=w.heap.size) (o:=0) (u:=.slice a3 4 cap3) oc (by omega)) (by omega))
 have hsz:((w2.setCell ⟨w.heap.size,0,none⟩ (.slice a3 4 cap3)).setCell ⟨w.heap.size,1,none⟩ (.slice b3 nc3 cc3)).heap.size=w2.heap.size:=by simp
 clear r0 r1 rz p0 p1 pz d0 d9 d10 d11 dz hb oc op os e4 HB2 HB HP HC1 HR rl pl cl
 obtain ⟨p0,p1,pz⟩:=cells2 HP2.out
 go_upto_region 8 with fail
 generalize (w2.setCell ⟨w.heap.size,0,none⟩ (.slice a3 4 cap3)).setCell ⟨w.heap.size,1,none⟩ (.slice b3 nc3 cc3)=W3 at HP3 HC4 HR3 HB3 OP3 OC3 hsz ⊢
 have hw3:w1.heap.size≤W3.heap.size:=by omega
 clear hsz p0 p1 pz HP2 HC3 HR2
 obtain ⟨p0,p1,pz⟩:=cells2 HP3.out
 obtain ⟨r0,r1,rz⟩:=cells2 HR3.out
 obtain ⟨⟨⟨d0,-,-,-⟩,-,-,d9,d10,d11⟩,dz⟩:=cells12 HC4.out
 have pl:=HP3.out.lt
 have rl:=HR3.out.lt
 have cl:=HC4.out.lt
 obtain ⟨g3,hg,⟨hg1,hg2⟩,⟨-,hn1',hn2⟩,hat,hfz⟩:=OP3.out.at_ HI.out
 cases hg
 unfold maxLen at hn2
 obtain ⟨ea,ecap,⟨⟨c0,c1⟩,c2⟩,hpr⟩:=hat
 rw [← HPN.out] at c0 c1 c2 hpr
 rw [← HAN.out] at c0 hpr
 have hea:(an:Int)≤9223372036854775807:=by omega
 obtain ⟨tb,htb⟩:∃ tb,tb=p.base:=⟨_,rfl⟩
 obtain ⟨tm,htm⟩:∃ tm,tm=p.mark:=⟨_,rfl⟩
 have HTB:=LH htb
 have HTM:=LH htm
 rw [← htb] at c1
 rw [← htm] at c2
 have c3:=hfz (i * 3+1)
 have c4:=hfz (i * 3+2)
 clear htb htm hpr hfz
 obtain ⟨z,hz⟩:∃ z,z=max tm n':=⟨_,rfl⟩
 have HZ:=LH hz
 have hmax:max tm n'=z:=hz.symm
 clear hz
 go_wp2_with fail
 go_region
 go_wp2_with fail
 have OQ4:=OwnP.put (j:=2) (y:=z) OP3.out HI.out (p':=⟨p.all,p.base,z⟩) (by rw [← HPN.out];exact Or.inr ⟨rfl,rfl⟩)
 obtain ⟨ps,-,hrow,-⟩:=OP3.out
 have OC4:=OwnC.over (w':=W3.setCell ⟨g3,i * 3+2,none⟩ (.int .i64 z)) OC3.out (fun b hb=>heap_setCell_other _ _ _ _ hb) hrow rfl (by decide) (by decide)
 have HR4:=HR3.out.far (b:=g3) (o:=i * 3+2) (by omega) (.int .i64 z)
 have HB4:=HB3.out.setCell (p:=⟨g3,i * 3+2,none⟩) (by show w.heap.size≤g3;omega) (.int .i64 z)
 obtain ⟨t0,t1,-⟩:=cells2 ((HR4.set_ 0 (.slice (some ⟨g3,0,none⟩) 4 cap3)).set_ 1 (.slice b3 nc3 cc3)).drew
 refine bodyPost_ret (v:=.tuple #[.agg #[.slice (some ⟨g3,0,none⟩) 4 cap3,.slice b3 nc3 cc3],.int .i64 0]) (by simp [results,Tryz.results28,go_sem,t0,t1]) rfl ⟨_,_,rfl,⟨_,_,rfl,?_,?_⟩,?_⟩
 ·rw [← HTM.out,← HZ.out]
  exact OwnQ.le ((OQ4.far (b:=w.heap.size+2) (by omega)).far (b:=w.heap.size+2) (by omega)) (by omega)
 ·exact OwnRows.le (OwnC.far (OwnC.far OC4 (by omega)) (by omega)) (by omega)
 ·exact ((HB4.setCell (p:=⟨w.heap.size+2,0,none⟩) (by simp) _).setCell (p:=⟨w.heap.size+2,1,none⟩) (by simp) _).drew
set_option maxHeartbeats 8000000 in
set_option maxRecDepth 100000 in
theorem mdlDo_com {v:Value} {m:Mdl} {w:World} {mid mt id time:Int} {ga ma:Option Addr} {gn gc mn mc:Nat} {mk mb:ByteArray} (i:Nat) (who n:Int) (h:MdlR w v m) (hf:few m.coms) (hm:mayM m) (hi:i < 4) (e0:0≤who) (e1:who < 8) {u:Mdl} {x:Int} (hu:(if ((plN m (i:Int)).all.length:Int) < n then (Mdl.zero,170) else (⟨m.tops,setC m.coms (i:Int) who n⟩,0))=(u,x)) (e2:0≤n) (e3:n≤1073741824) :
  Calls Tryz.prog 28 #[v,.agg #[.int .u8 4,.int .i64 mid,.slice ga gn gc,.int .i64 mt,.string mk,.string mb,.int .i64 id,.int .i64 time,.slice ma mn mc,.int .i64 (i:Int),.int .i64 who,.int .i64 n]] w (DoEndM u x w):=by
 have S:=LH h
 have HF:=LH hf
 have HC:=LH (show (0:Int)=if mayM m then 0 else 8 by rw [if_pos hm])
 obtain ⟨a,cap,bb,nc,cc,rfl,-,-⟩:=h.shape
 have h4:=hm.1.1
 have HFT:=LH (fit_of_may hm)
 have HOK:=LH hm.2.1
 have HI:=LH (show i < m.tops.length by omega)
 have h1:(i:Int) < 4:=by omega
 have h0:0≤(i:Int):=by omega
 obtain ⟨p,hp⟩:∃ p,p=plN m (i:Int):=⟨_,rfl⟩
 have HPN:=LH (show p=m.tops.getD i default by rw [hp,plN,Int.toNat_natCast])
 have HSP:=LH (show shapedP p by rw [hp];exact mayM_shaped hm _ (plN_mem hm h0 h1))
 rw [← hp] at hu
 obtain ⟨nt,hnt⟩:∃ nt,nt=m.tops.length:=⟨_,rfl⟩
 have HNT:=LH hnt
 rw [← hnt] at S h4 ⊢
 subst h4
 obtain ⟨an,han⟩:∃ an,an=p.all.length:=⟨_,rfl⟩
 have HAN:=LH han
 rw [← han] at hu
 have ha6:an≤600:=by rw [han];exact HSP.out.2.1
 obtain ⟨n',hn'⟩:∃ n',n'=min n (an:Int):=⟨_,rfl⟩
 have HN':=LH hn'
 have hn0:0≤n':=by omega
 have hn1:n'≤(an:Int):=by omega
 have hmin:min n (an:Int)=n':=hn'.symm
 have HLT:=LH (show (an:Int) < n↔n' < n by omega)
 have HU:=LH hu
 clear hu
 clear h hf hm hi hp hnt han hn'
 go_enter Tryz.func28,Tryz.ntmps28
 go_wp2_with fail
 refine Calls.mono (mdlCheck_any ?_ HF.out 0 HC.out) ?_
 ·exact S.out.below (by repeat (first|with_reducible (first|exact Below.refl _ _|apply Below.drew|apply below_alloc)|((first|with_reducible refine Below.alloc ?_ ?_ _|with_reducible refine Below.setCell ?_ ?_ _);rotate_left;focus (first|(simp <;> omega)|omega))))
 rintro e w1 ⟨rfl,hb⟩
 have HB:Hid (Below w.heap.size w _):=below_step (by repeat (first|with_reducible (first|exact Below.refl _ _|apply Below.drew|apply below_alloc)|((first|with_reducible refine Below.alloc ?_ ?_ _|with_reducible refine Below.setCell ?_ ?_ _);rotate_left;focus (first|(simp <;> omega)|omega)))) hb
 have P:Blk _ (w.heap.size) _ _:=Blk.step (by repeat (first|((with_reducible apply Blk.new);focus (first|rfl|(simp <;> omega)))|with_reducible (first|apply Blk.drew|apply Blk.alloc|apply Blk.set_)|((with_reducible apply Blk.far);rotate_left;focus (first|(simp <;> omega)|omega)))) hb
 obtain ⟨p0,p1,pz⟩:=cells2 P
 have pl:=Blk.lt P
 have HP:=LH P
 clear P
 have HC1:Hid (Blk w1 (w.heap.size+1) 79 [.int .u8 4,.int .i64 mid,.slice ga gn gc,.int .i64 mt,.string mk,.string mb,.int .i64 id,.int .i64 time,.slice ma mn mc,.int .i64 (i:Int),.int .i64 who,.int .i64 n]):=Blk.step (by repeat (first|with_reducible exact Blk.new rfl|((with_reducible apply Blk.new);focus (first|rfl|(simp <;> omega)))|with_reducible (first|apply Blk.drew|apply Blk.alloc|apply Blk.set_)|((with_reducible apply Blk.far);rotate_left;focus (first|(simp <;> omega)|omega)))) hb
 have R:Blk _ (w.heap.size+2) _ _:=Blk.step (by repeat (first|((with_reducible apply Blk.new);focus (first|rfl|(simp <;> omega)))|with_reducible (first|apply Blk.drew|apply Blk.alloc|apply Blk.set_)|((with_reducible apply Blk.far);rotate_left;focus (first|(simp <;> omega)|omega)))) hb
 obtain ⟨r0,r1,rz⟩:=cells2 R
 have rl:=Blk.lt R
 have HR:=LH R
 clear R
 obtain ⟨⟨⟨d0,-,-,-⟩,-,-,d9,d10,d11⟩,dz⟩:=cells12 HC1.out
 have cl:=HC1.out.lt
 clear hb
 go_wp2_with fail
 refine Calls.mono (mdlTwin_any (m:=m) ?_ HFT.out) ?_
 ·exact S.out.below (by repeat (first|with_reducible (first|exact HB.out|exact Below.refl _ _|apply Below.drew|apply below_alloc)|((first|with_reducible refine Below.alloc ?_ ?_ _|with_reducible refine Below.setCell ?_ ?_ _);rotate_left;focus (first|(simp <;> omega)|omega))))
 rintro e w2 ⟨ta,tc,rfl,os,hb⟩
 obtain ⟨a3,cap3,b3,nc3,cc3,ev,-,-⟩:=os.reads.shape
 cases ev
 have e4:m.tops.length=4:=HNT.out.symm
 rw [e4] at os ⊢
 have oc:=(show OwnC w2 w1.heap.size (.slice b3 nc3 cc3) m.coms from by obtain ⟨_,_,ev,_,h2⟩:=os;cases ev;exact OwnRows.le h2 (by simp))
 have op:=(show OwnP w2 w1.heap.size (.slice a3 4 cap3) m.tops from by obtain ⟨_,_,ev,h2,_⟩:=os;cases ev;exact h2.le (by simp))
 have HB2:Hid (Below w.heap.size w w2):=below_step (by repeat (first|with_reducible (first|exact HB.out|exact Below.refl _ _|apply Below.drew|apply below_alloc)|((first|with_reducible refine Below.alloc ?_ ?_ _|with_reducible refine Below.setCell ?_ ?_ _);rotate_left;focus (first|(simp <;> omega)|omega)))) hb
 have hw2:w1.heap.size≤w2.heap.size:=hb.size
 have hw1:w.heap.size+2 < w1.heap.size:=rl
 have HP2:=LH (HP.out.step hb)
 have HC3:=LH (HC1.out.step hb)
 have HR2:=LH (HR.out.step hb)
 have HP3:=LH ((HP2.out.set_ 0 (.slice a3 4 cap3)).set_ 1 (.slice b3 nc3 cc3))
 have HC4:=LH ((HC3.out.far (b:=w.heap.size) (o:=0) (by omega) (.slice a3 4 cap3)).far (b:=w.heap.size) (o:=1) (by omega) (.slice b3 nc3 cc3))
 have HR3:=LH ((HR2.out.far (b:=w.heap.size) (o:=0) (by omega) (.slice a3 4 cap3)).far (b:=w.heap.size) (o:=1) (by omega) (.slice b3 nc3 cc3))
 have HB3:=LH ((HB2.out.setCell (p:=⟨w.heap.size,0,none⟩) (by simp) (.slice a3 4 cap3)).setCell (p:=⟨w.heap.size,1,none⟩) (by simp) (.slice b3 nc3 cc3))
 have OP3:=LH ((op.far (b:=w.heap.size) (o:=0) (u:=.slice a3 4 cap3) (by omega)).far (b:=w.heap.size) (o:=1) (u:=.slice b3 nc3 cc3) (by omega))
 have OC3:=LH (OwnC.far (b:=w.heap.size) (o:=1) (u:=.slice b3 nc3 cc3) (OwnC.far (b:=w.heap.size) (o:=0) (u:=.slice a3 4 cap3) oc (by omega)) (by omega))
 have hsz:((w2.setCell ⟨w.heap.size,0,none⟩ (.slice a3 4 cap3)).setCell ⟨w.heap.size,1,none⟩ (.slice b3 nc3 cc3)).heap.size=w2.heap.size:=by simp
 clear r0 r1 rz p0 p1 pz d0 d9 d10 d11 dz hb oc op os e4 HB2 HB HP HC1 HR rl pl cl
 obtain ⟨p0,p1,pz⟩:=cells2 HP2.out
 go_upto_region 8 with fail
 generalize (w2.setCell ⟨w.heap.size,0,none⟩ (.slice a3 4 cap3)).setCell ⟨w.heap.size,1,none⟩ (.slice b3 nc3 cc3)=W3 at HP3 HC4 HR3 HB3 OP3 OC3 hsz ⊢
 have hw3:w1.heap.size≤W3.heap.size:=by omega
 clear hsz p0 p1 pz HP2 HC3 HR2
 obtain ⟨p0,p1,pz⟩:=cells2 HP3.out
 obtain ⟨r0,r1,rz⟩:=cells2 HR3.out
 obtain ⟨⟨⟨d0,-,-,-⟩,-,-,d9,d10,d11⟩,dz⟩:=cells12 HC4.out
 have pl:=HP3.out.lt
 have rl:=HR3.out.lt
 have cl:=HC4.out.lt
 obtain ⟨g3,hg,⟨hg1,hg2⟩,⟨-,hn1',hn2⟩,hat,hfz⟩:=OP3.out.at_ HI.out
 cases hg
 unfold maxLen at hn2
 obtain ⟨ea,ecap,⟨⟨c0,c1⟩,c2⟩,hpr⟩:=hat
 rw [← HPN.out] at c0 c1 c2 hpr
 rw [← HAN.out] at c0 hpr
 have hea:(an:Int)≤9223372036854775807:=by omega
 obtain ⟨tb,htb⟩:∃ tb,tb=p.base:=⟨_,rfl⟩
 obtain ⟨tm,htm⟩:∃ tm,tm=p.mark:=⟨_,rfl⟩
 have HTB:=LH htb
 have HTM:=LH htm
 rw [← htb] at c1
 rw [← htm] at c2
 have c3:=hfz (i * 3+1)
 have c4:=hfz (i * 3+2)
 clear htb htm hpr hfz
 by_cases hnn:n' < n
 ·have hu:=HU.out
  rw [if_pos (HLT.out.2 hnn)] at hu
  cases hu
  go_wp2_with fail
  go_region
  go_wp2_with fail
  obtain ⟨t0,t1,-⟩:=cells2 ((HR3.out.set_ 0 (.slice none 0 0)).set_ 1 (.slice none 0 0)).drew
  refine bodyPost_ret (v:=.tuple #[.agg #[.slice none 0 0,.slice none 0 0],.int .i64 170]) (by simp [results,Tryz.results28,go_sem,t0,t1]) rfl ⟨_,_,rfl,OwnN.zero _ _,?_⟩
  exact ((HB3.out.setCell (p:=⟨w.heap.size+2,0,none⟩) (by simp) _).setCell (p:=⟨w.heap.size+2,1,none⟩) (by simp) _).drew
 ·have hu:=HU.out
  rw [if_neg (fun hh=>hnn (HLT.out.1 hh))] at hu
  cases hu
  obtain rfl:n'=n:=by have:=HN'.out;omega
  obtain ⟨j,rfl⟩:∃ j:Nat,who=(j:Int):=⟨who.toNat,by omega⟩
  obtain ⟨gc',ccap,gt,rcap,hv,k1,k2,k3,hbg,hst⟩:=own_cells OC3.out HOK.out h0 h1 e0 e1
  cases hv
  simp only [Int.toNat_natCast] at k1 k2 k3 hst
  have hgt:gt≠gc':=coms_apart OC3.out (by have:=(okC_spec HOK.out).1;omega) k1
  obtain ⟨y,hy⟩:∃ y,y=getC m.coms (i:Int) (j:Int):=⟨_,rfl⟩
  rw [← hy] at k2
  have HY:=LH hy
  have HST:=LH hst
  have t1:(i:Int) < ((4:Nat):Int):=by omega
  have t2:(j:Int) < ((8:Nat):Int):=by omega
  clear hst hy
  go_wp2_with fail
  go_region
  go_upto_region 14 with fail
  have KS:Hid (∀ W':World,(∀ b,b≠gt→W'.heap[b]?=W3.heap[b]?)→(W'.cell? ⟨w.heap.size,1,none⟩=some (.slice (some ⟨gc',0,none⟩) 4 cc3)∧W'.cell? ⟨w.heap.size+1,9,none⟩=some (.int .i64 (i:Int)))∧W'.cell? ⟨w.heap.size+1,10,none⟩=some (.int .i64 (j:Int))∧W'.cell? ⟨gc',i,none⟩=some (.slice (some ⟨gt,0,none⟩) 8 rcap)):=fun W' hb =>
   ⟨⟨(World.cell?_of_block (a:=⟨w.heap.size,1,none⟩) (hb w.heap.size (by omega))).trans p1,(World.cell?_of_block (a:=⟨w.heap.size+1,9,none⟩) (hb (w.heap.size+1) (by omega))).trans d9⟩,(World.cell?_of_block (a:=⟨w.heap.size+1,10,none⟩) (hb (w.heap.size+1) (by omega))).trans d10,(World.cell?_of_block (a:=⟨gc',i,none⟩) (hb gc' (fun e=>hgt e.symm))).trans k1⟩
  have KT:=KS.out W3.drew.drew (fun b _=>rfl)
  refine wp_region_held_drew (S:=(fun W'=>(W'.cell? ⟨w.heap.size,1,none⟩=some (.slice (some ⟨gc',0,none⟩) 4 cc3)∧W'.cell? ⟨w.heap.size+1,9,none⟩=some (.int .i64 (i:Int)))∧W'.cell? ⟨w.heap.size+1,10,none⟩=some (.int .i64 (j:Int))∧W'.cell? ⟨gc',i,none⟩=some (.slice (some ⟨gt,0,none⟩) 8 rcap))) (by kernel_rfl) KT (fun hHeld=>?_)
  refine' wpAnyH_take (i:=0) (oi:=_) (v:=_) ?hi1 (by kernel_rfl) (by kernel_rfl) (by kernel_rfl) ?hq1 (Or.inl ⟨?hw1,?hy1⟩) (by assumption) ?rest1
  case hi1=>simp only [List.getElem?_toArray,List.getElem?_cons_zero];rfl
  case hq1=>exact fun _ _ _ h=>h
  case hw1=>rfl
  case hy1=>intro wh hSw;(try dsimp only at hSw);go_simp;(try with_reducible rfl)
  (try simp only [Act.put,List.setIfInBounds_toArray,List.set_cons_zero,List.set_cons_succ])
  refine' wpAnyH_take (i:=2) (oi:=_) (v:=_) ?hi2 (by kernel_rfl) (by kernel_rfl) (by kernel_rfl) ?hq2 (Or.inl ⟨?hw2,?hy2⟩) (by assumption) ?rest2
  case hi2=>simp only [List.getElem?_toArray,List.getElem?_cons_succ,List.getElem?_cons_zero];rfl
  case hq2=>exact fun _ _ _ h=>h
  case hw2=>rfl
  case hy2=>intro wh hSw;(try dsimp only at hSw);go_simp;(try with_reducible rfl)
  (try simp only [Act.put,List.setIfInBounds_toArray,List.set_cons_zero,List.set_cons_succ])
  refine' wpAnyH_take (i:=6) (oi:=_) (v:=_) ?hi3 (by kernel_rfl) (by kernel_rfl) (by kernel_rfl) ?hq3 (Or.inl ⟨?hw3,?hy3⟩) (by assumption) ?rest3
  case hi3=>simp only [List.getElem?_toArray,List.getElem?_cons_succ,List.getElem?_cons_zero];rfl
  case hq3=>exact fun _ _ _ h=>h
  case hw3=>rfl
  case hy3=>intro wh hSw;(try dsimp only at hSw);go_simp;(try with_reducible rfl)
  (try simp only [Act.put,List.setIfInBounds_toArray,List.set_cons_zero,List.set_cons_succ])
  refine' wpAnyH_take (i:=8) (oi:=_) (v:=_) ?hi4 (by kernel_rfl) (by kernel_rfl) (by kernel_rfl) ?hq4 (Or.inl ⟨?hw4,?hy4⟩) (by assumption) ?rest4
  case hi4=>simp only [List.getElem?_toArray,List.getElem?_cons_succ,List.getElem?_cons_zero];rfl
  case hq4=>exact fun _ _ _ h=>h
  case hw4=>rfl
  case hy4=>intro wh hSw;(try dsimp only at hSw);go_simp;(try with_reducible rfl)
  (try simp only [Act.put,List.setIfInBounds_toArray,List.set_cons_zero,List.set_cons_succ])
  refine' wpAnyH_take (i:=10) (oi:=_) (v:=_) ?hi5 (by kernel_rfl) (by kernel_rfl) (by kernel_rfl) ?hq5 (Or.inl ⟨?hw5,?hy5⟩) (by assumption) ?rest5
  case hi5=>simp only [List.getElem?_toArray,List.getElem?_cons_succ,List.getElem?_cons_zero];rfl
  case hq5=>exact fun _ _ _ h=>h
  case hw5=>rfl
  case hy5=>intro wh hSw;(try dsimp only at hSw);go_simp;(try with_reducible rfl)
  (try simp only [Act.put,List.setIfInBounds_toArray,List.set_cons_zero,List.set_cons_succ])
  refine' wpAnyH_take (i:=14) (oi:=_) (v:=_) ?hi6 (by kernel_rfl) (by kernel_rfl) (by kernel_rfl) ?hq6 (Or.inl ⟨?hw6,?hy6⟩) (by assumption) ?rest6
  case hi6=>simp only [List.getElem?_toArray,List.getElem?_cons_succ,List.getElem?_cons_zero];rfl
  case hq6=>exact fun _ _ _ h=>h
  case hw6=>rfl
  case hy6=>intro wh hSw;(try dsimp only at hSw);go_simp;(try with_reducible rfl)
  (try simp only [Act.put,List.setIfInBounds_toArray,List.set_cons_zero,List.set_cons_succ])
  refine' wpAnyH_take (i:=18) (oi:=_) (v:=_) ?hi7 (by kernel_rfl) (by kernel_rfl) (by kernel_rfl) ?hq7 (Or.inl ⟨?hw7,?hy7⟩) (by assumption) ?rest7
  case hi7=>simp only [List.getElem?_toArray,List.getElem?_cons_succ,List.getElem?_cons_zero];rfl
  case hq7=>exact fun _ _ _ h=>h
  case hw7=>rfl
  case hy7=>intro wh hSw;(try dsimp only at hSw);go_simp;(try with_reducible rfl)
  (try simp only [Act.put,List.setIfInBounds_toArray,List.set_cons_zero,List.set_cons_succ])
  refine' wpAnyH_take (i:=1) (oi:=_) (v:=_) ?hi8 (by kernel_rfl) (by kernel_rfl) (by kernel_rfl) ?hq8 (Or.inl ⟨?hw8,?hy8⟩) (by assumption) ?rest8
  case hi8=>simp only [List.getElem?_toArray,List.getElem?_cons_succ,List.getElem?_cons_zero];rfl
  case hq8=>exact fun _ _ _ h=>h
  case hw8=>rfl
  case hy8=>intro wh hSw;(try dsimp only at hSw);go_simp;(try with_reducible rfl)
  (try simp only [Act.put,List.setIfInBounds_toArray,List.set_cons_zero,List.set_cons_succ])
  refine' wpAnyH_take (i:=3) (oi:=_) (v:=_) ?hi9 (by kernel_rfl) (by kernel_rfl) (by kernel_rfl) ?hq9 (Or.inl ⟨?hw9,?hy9⟩) (by assumption) ?rest9
  case hi9=>simp only [List.getElem?_toArray,List.getElem?_cons_succ,List.getElem?_cons_zero];rfl
  case hq9=>exact fun _ _ _ h=>h
  case hw9=>rfl
  case hy9=>intro wh hSw;(try dsimp only at hSw);go_simp;(try with_reducible rfl)
  (try simp only [Act.put,List.setIfInBounds_toArray,List.set_cons_zero,List.set_cons_succ])
  refine' wpAnyH_take (i:=7) (oi:=_) (v:=_) ?hi10 (by kernel_rfl) (by kernel_rfl) (by kernel_rfl) ?hq10 (Or.inl ⟨?hw10,?hy10⟩) (by assumption) ?rest10
  case hi10=>simp only [List.getElem?_toArray,List.getElem?_cons_succ,List.getElem?_cons_zero];rfl
  case hq10=>exact fun _ _ _ h=>h
  case hw10=>rfl
  case hy10=>intro wh hSw;(try dsimp only at hSw);go_simp;(try with_reducible rfl)
  (try simp only [Act.put,List.setIfInBounds_toArray,List.set_cons_zero,List.set_cons_succ])
  refine' wpAnyH_take (i:=9) (oi:=_) (v:=_) ?hi11 (by kernel_rfl) (by kernel_rfl) (by kernel_rfl) ?hq11 (Or.inl ⟨?hw11,?hy11⟩) (by assumption) ?rest11
  case hi11=>simp only [List.getElem?_toArray,List.getElem?_cons_succ,List.getElem?_cons_zero];rfl
  case hq11=>exact fun _ _ _ h=>h
  case hw11=>rfl
  case hy11=>intro wh hSw;(try dsimp only at hSw);go_simp;(try with_reducible rfl)
  (try simp only [Act.put,List.setIfInBounds_toArray,List.set_cons_zero,List.set_cons_succ])
  refine' wpAnyH_take (i:=11) (oi:=_) (v:=_) ?hi12 (by kernel_rfl) (by kernel_rfl) (by kernel_rfl) ?hq12 (Or.inl ⟨?hw12,?hy12⟩) (by assumption) ?rest12
  case hi12=>simp only [List.getElem?_toArray,List.getElem?_cons_succ,List.getElem?_cons_zero];rfl
  case hq12=>exact fun _ _ _ h=>h
  case hw12=>rfl
  case hy12=>intro wh hSw;(try dsimp only at hSw);go_simp;(try with_reducible rfl)
  (try simp only [Act.put,List.setIfInBounds_toArray,List.set_cons_zero,List.set_cons_succ])
  refine' wpAnyH_take (i:=15) (oi:=_) (v:=_) ?hi13 (by kernel_rfl) (by kernel_rfl) (by kernel_rfl) ?hq13 (Or.inl ⟨?hw13,?hy13⟩) (by assumption) ?rest13
  case hi13=>simp only [List.getElem?_toArray,List.getElem?_cons_succ,List.getElem?_cons_zero];rfl
  case hq13=>exact fun _ _ _ h=>h
  case hw13=>rfl
  case hy13=>intro wh hSw;(try dsimp only at hSw);go_simp;(try with_reducible rfl)
  (try simp only [Act.put,List.setIfInBounds_toArray,List.set_cons_zero,List.set_cons_succ])
  refine' wpAnyH_take (i:=4) (oi:=_) (v:=_) ?hi14 (by kernel_rfl) (by kernel_rfl) (by kernel_rfl) ?hq14 (Or.inl ⟨?hw14,?hy14⟩) (by assumption) ?rest14
  case hi14=>simp only [List.getElem?_toArray,List.getElem?_cons_succ,List.getElem?_cons_zero];rfl
  case hq14=>exact fun _ _ _ h=>h
  case hw14=>rfl
  case hy14=>intro wh hSw;(try dsimp only at hSw);go_simp;(try with_reducible rfl)
  (try simp only [Act.put,List.setIfInBounds_toArray,List.set_cons_zero,List.set_cons_succ])
  refine' wpAnyH_take (i:=12) (oi:=_) (v:=_) ?hi15 (by kernel_rfl) (by kernel_rfl) (by kernel_rfl) ?hq15 (Or.inl ⟨?hw15,?hy15⟩) (by assumption) ?rest15
  case hi15=>simp only [List.getElem?_toArray,List.getElem?_cons_succ,List.getElem?_cons_zero];rfl
  case hq15=>exact fun _ _ _ h=>h
  case hw15=>rfl
  case hy15=>intro wh hSw;(try dsimp only at hSw);go_simp;(try with_reducible rfl)
  (try simp only [Act.put,List.setIfInBounds_toArray,List.set_cons_zero,List.set_cons_succ])
  refine' wpAnyH_take (i:=5) (oi:=_) (v:=_) ?hi16 (by kernel_rfl) (by kernel_rfl) (by kernel_rfl) ?hq16 (Or.inl ⟨?hw16,?hy16⟩) (by assumption) ?rest16
  case hi16=>simp only [List.getElem?_toArray,List.getElem?_cons_succ,List.getElem?_cons_zero];rfl
  case hq16=>exact fun _ _ _ h=>h
  case hw16=>rfl
  case hy16=>intro wh hSw;(try dsimp only at hSw);go_simp;(try with_reducible rfl)
  (try simp only [Act.put,List.setIfInBounds_toArray,List.set_cons_zero,List.set_cons_succ])
  refine' wpAnyH_take (i:=13) (oi:=_) (v:=_) ?hi17 (by kernel_rfl) (by kernel_rfl) (by kernel_rfl) ?hq17 (Or.inl ⟨?hw17,?hy17⟩) (by assumption) ?rest17
  case hi17=>simp only [List.getElem?_toArray,List.getElem?_cons_succ,List.getElem?_cons_zero];rfl
  case hq17=>exact fun _ _ _ h=>h
  case hw17=>rfl
  case hy17=>intro wh hSw;(try dsimp only at hSw);go_simp;(try with_reducible rfl)
  (try simp only [Act.put,List.setIfInBounds_toArray,List.set_cons_zero,List.set_cons_succ])
  refine' wpAnyH_take (i:=16) (oi:=_) (v:=_) ?hi18 (by kernel_rfl) (by kernel_rfl) (by kernel_rfl) ?hq18 (Or.inl ⟨?hw18,?hy18⟩) (by assumption) ?rest18
  case hi18=>simp only [List.getElem?_toArray,List.getElem?_cons_succ,List.getElem?_cons_zero];rfl
  case hq18=>exact fun _ _ _ h=>h
  case hw18=>rfl
  case hy18=>intro wh hSw;(try dsimp only at hSw);go_simp;(try with_reducible rfl)
  (try simp only [Act.put,List.setIfInBounds_toArray,List.set_cons_zero,List.set_cons_succ])
  refine wpAnyH_ready (rs:=[17]) (by kernel_rfl) (by simp) ?_
  refine' AllReadyH.cons (o:=_) ?hi19 (fun K hK=>?st19) ?more19
  case hi19=>simp only [List.getElem?_toArray,List.getElem?_cons_succ,List.getElem?_cons_zero];rfl
  case more19=>exact AllReadyH.nil
  go_simp
  refine hK.out _ _ ?keep19 (fun hHeld=>?go19)
  case keep19=>first|with_reducible exact KT|(exact KS.out _ (fun b _=>rfl))|(exact KS.out _ (fun b hb=>heap_setCell_other _ _ _ _ hb))
  clear hK K
  (try simp only [Act.put,List.setIfInBounds_toArray,List.set_cons_zero,List.set_cons_succ])
  refine wpAnyH_ready (rs:=[19]) (by kernel_rfl) (by simp) ?_
  refine' AllReadyH.cons (o:=_) ?hi20 (fun K hK=>?st20) ?more20
  case hi20=>simp only [List.getElem?_toArray,List.getElem?_cons_succ,List.getElem?_cons_zero];rfl
  case more20=>exact AllReadyH.nil
  go_simp
  refine hK.out _ _ ?keep20 (fun hHeld=>?go20)
  case keep20=>first|with_reducible exact KT|(exact KS.out _ (fun b _=>rfl))|(exact KS.out _ (fun b hb=>heap_setCell_other _ _ _ _ hb))
  clear hK K
  (try simp only [Act.put,List.setIfInBounds_toArray,List.set_cons_zero,List.set_cons_succ])
  refine' wpAnyH_take (i:=20) (oi:=_) (v:=_) ?hi21 (by kernel_rfl) (by kernel_rfl) (by kernel_rfl) ?hq21 (Or.inl ⟨?hw21,?hy21⟩) (by assumption) ?rest21
  case hi21=>simp only [List.getElem?_toArray,List.getElem?_cons_succ,List.getElem?_cons_zero];rfl
  case hq21=>exact fun _ _ _ h=>h
  case hw21=>rfl
  case hy21=>intro wh hSw;(try dsimp only at hSw);go_simp;(try with_reducible rfl)
  (try simp only [Act.put,List.setIfInBounds_toArray,List.set_cons_zero,List.set_cons_succ])
  refine wpAnyH_ready (rs:=[21]) (by kernel_rfl) (by simp) ?_
  refine' AllReadyH.cons (o:=_) ?hi22 (fun K hK=>?st22) ?more22
  case hi22=>simp only [List.getElem?_toArray,List.getElem?_cons_succ,List.getElem?_cons_zero];rfl
  case more22=>exact AllReadyH.nil
  go_simp
  refine hK.out _ _ ?keep22 (fun hHeld=>?go22)
  case keep22=>first|with_reducible exact KT|(exact KS.out _ (fun b _=>rfl))|(exact KS.out _ (fun b hb=>heap_setCell_other _ _ _ _ hb))
  clear hK K
  (try simp only [Act.put,List.setIfInBounds_toArray,List.set_cons_zero,List.set_cons_succ])
  refine wpAnyH_done (by kernel_rfl) ?_ _
  have OC4:=HST.out (max y n')
  obtain ⟨rk,rxs,hrow⟩:=coms_row OC3.out (by have:=(okC_spec HOK.out).1;omega) k1
  have OQ4:=OwnQ.over (w':=W3.setCell ⟨gt,j,none⟩ (.int .i64 (max y n'))) OP3.out.weak (fun b hb=>heap_setCell_other _ _ _ _ hb) hrow rfl (by decide) (by decide)
  have HR4:=LH (HR3.out.far (b:=gt) (o:=j) (by omega) (.int .i64 (max y n'))).drew.drew
  have HP4:=LH (HP3.out.far (b:=gt) (o:=j) (by omega) (.int .i64 (max y n'))).drew.drew
  have HB4:=LH (HB3.out.setCell (p:=⟨gt,j,none⟩) (by show w.heap.size≤gt;omega) (.int .i64 (max y n'))).drew.drew
  have E5:=LH (show setC m.coms (i:Int) (j:Int) n'=m.coms.set i ((m.coms.getD i []).set j (max y n')) by rw [HY.out];simp [setC])
  have OC5:Hid (OwnC (W3.setCell ⟨gt,j,none⟩ (.int .i64 (max y n'))).drew.drew w1.heap.size (.slice (some ⟨gc',0,none⟩) 4 cc3) _):=LH OC4
  have OQ5:Hid (OwnQ (W3.setCell ⟨gt,j,none⟩ (.int .i64 (max y n'))).drew.drew w1.heap.size (.slice (some ⟨g3,0,none⟩) 4 cap3) _):=LH OQ4
  clear OC4 OQ4 hrow HST k1 k2 k3 p0 p1 pz d0 d9 d10 d11 dz r0 r1 rz c0 c1 c2 c3 c4 KS KT hHeld HB3 HP3 HR3 HC4 OC3 OP3 hg2
  generalize (W3.setCell ⟨gt,j,none⟩ (.int .i64 (max y n'))).drew.drew=W5 at HR4 HP4 HB4 OC5 OQ5 ⊢
  obtain ⟨p0,p1,pz⟩:=cells2 HP4.out
  obtain ⟨r0,r1,rz⟩:=cells2 HR4.out
  have pl:=HP4.out.lt
  have rl:=HR4.out.lt
  go_wp2_with fail
  obtain ⟨t0,t1,-⟩:=cells2 ((HR4.out.set_ 0 (.slice (some ⟨g3,0,none⟩) 4 cap3)).set_ 1 (.slice (some ⟨gc',0,none⟩) 4 cc3))
  refine bodyPost_ret (v:=.tuple #[.agg #[.slice (some ⟨g3,0,none⟩) 4 cap3,.slice (some ⟨gc',0,none⟩) 4 cc3],.int .i64 0]) (by simp [results,Tryz.results28,go_sem,t0,t1]) rfl ⟨_,_,rfl,⟨_,_,rfl,?_,?_⟩,?_⟩
  ·exact OwnQ.le ((OQ5.out.far (b:=w.heap.size+2) (by omega)).far (b:=w.heap.size+2) (by omega)) (by omega)
  ·show OwnC _ _ _ (setC m.coms (i:Int) (j:Int) n')
   rw [E5.out]
   exact OwnRows.le (OwnC.far (OwnC.far OC5.out (by omega)) (by omega)) (by omega)
  ·exact (HB4.out.setCell (p:=⟨w.heap.size+2,0,none⟩) (by simp) _).setCell (p:=⟨w.heap.size+2,1,none⟩) (by simp) _
set_option maxHeartbeats 8000000 in
set_option maxRecDepth 100000 in
theorem mdlDo_any {v:Value} {m:Mdl} {w:World} {kind mid mt id time:Int} {ga ma:Option Addr} {gn gc mn mc:Nat} {mk mb:ByteArray} {u:Mdl} {x:Int} (topic who n:Int) (h:MdlR w v m) (hf:few m.coms) (hu:doM m kind topic who n=(u,x)) :
  Calls Tryz.prog 28 #[v,.agg #[.int .u8 kind,.int .i64 mid,.slice ga gn gc,.int .i64 mt,.string mk,.string mb,.int .i64 id,.int .i64 time,.slice ma mn mc,.int .i64 topic,.int .i64 who,.int .i64 n]] w (DoEndM u x w):=by
 rw [doM] at hu
 by_cases hm:mayM m
 ·rw [if_pos hm] at hu
  by_cases hr:rightD kind topic who n
  ·rw [if_neg (fun hh=>hh hr)] at hu
   obtain ⟨hk,⟨h0,h1⟩,e2,e3⟩:=hr
   obtain ⟨i,rfl⟩:∃ i:Nat,topic=(i:Int):=⟨topic.toNat,by omega⟩
   have hi:i < 4:=by omega
   rw [Int.toNat_natCast] at hu
   rcases hk with (rfl|rfl)|⟨rfl,e0,e1⟩
   ·rw [if_neg (by decide),if_pos rfl] at hu
    cases hu
    exact mdlDo_ret i who n h hf hm hi e2 e3
   ·rw [if_neg (by decide),if_neg (by decide)] at hu
    cases hu
    exact mdlDo_cmp i who n h hf hm hi e2 e3
   ·rw [if_pos rfl] at hu
    exact mdlDo_com i who n h hf hm hi e0 e1 hu e2 e3
  ·rw [if_pos hr] at hu
   cases hu
   exact mdlDo_no topic who n h hf hm hr
 ·rw [if_neg hm] at hu
  cases hu
  exact mdlDo_bad topic who n h hf hm
end Go.Proofs.YtdfmcgekfogpbabGreatDoor
