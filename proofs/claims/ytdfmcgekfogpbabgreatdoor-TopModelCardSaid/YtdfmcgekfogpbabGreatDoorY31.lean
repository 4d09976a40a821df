/-
  Proved here: model.Put.
-/
import Derived.Test.YtdfmcgekfogpbabGreatDoorY29
set_option maxRecDepth 100000
namespace Go.Proofs.YtdfmcgekfogpbabGreatDoor
open Go.RowKit
theorem fit_of_may {m:Mdl} (h:mayM m):fitM m:=⟨by have:=h.1.1;omega,okC_few h.2.1,fun p hp=>by have:=(mayM_shaped h p hp).2.1;omega⟩
theorem putM_ok {m:Mdl} {id topic:Int} {k b:ByteArray} (ha:askM m topic=0):putM m id topic k b=(if id < 0∨6291456≤id then (Mdl.zero,0,2) else if 16 < k.size∨64 < b.size then (Mdl.zero,0,3) else if (plN m topic).all.length=600∨(entP (plN m topic)).length=200 then (Mdl.zero,0,9)
   else (⟨m.tops.set topic.toNat ⟨(plN m topic).all++[⟨((plN m topic).all.length:Int),id,k,b⟩],(plN m topic).base,(plN m topic).mark⟩,m.coms⟩,((plN m topic).all.length:Int),0)):=by rw [putM,if_pos ha]
set_option maxHeartbeats 8000000 in
set_option maxRecDepth 100000 in
theorem mdlPut_any {v:Value} {m u:Mdl} {w:World} {n x:Int} {ga:Option Addr} {gn gc:Nat} (id topic:Int) (k b:ByteArray) (h:MdlR w v m) (hf:few m.coms) (hu:putM m id topic k b=(u,n,x)) :
  Calls Tryz.prog 30 #[v,.agg #[.int .i64 id,.slice ga gn gc,.int .i64 topic,.string k,.string b]] w (PutEndM u n x w):=by
 obtain ⟨i1,gi,gz0,gz1,gz2⟩:=info_parts info_ent
 have S:=LH h
 have HF:=LH hf
 obtain ⟨a,cap,bb,nc,cc,rfl,hT,-⟩:=h.shape
 by_cases ha:askM m topic=0
 ·rw [putM_ok ha] at hu
  obtain ⟨hm,h0,h1⟩:=askM_zero.1 ha
  have HC:=LH (show (0:Int)=if mayM m then 0 else 8 by rw [if_pos hm])
  have h4:=hm.1.1
  have HFT:=LH (fit_of_may hm)
  have HSH:=LH (mayM_shaped hm _ (plN_mem hm h0 h1))
  obtain ⟨i,rfl⟩:∃ i:Nat,topic=(i:Int):=⟨topic.toNat,by omega⟩
  have HI:=LH (show i < m.tops.length by omega)
  obtain ⟨⟨-,hcap,hmx⟩,g,off,rfl,hat⟩:=MdlR.pl hT (i:=i) h0 (by omega)
  rw [show m.tops.getD (i:Int).toNat default=plN m i from rfl] at hat
  obtain ⟨p,hp⟩:∃ p,p=plN m i:=⟨_,rfl⟩
  rw [← hp] at hat hu HSH
  have HPN:=LH (show p=m.tops.getD i default by rw [hp,plN,Int.toNat_natCast])
  simp only [Int.toNat_natCast] at hu hat
  unfold maxLen at hmx
  have HAT:=LH hat
  have HU:=LH hu
  obtain ⟨nt,hnt⟩:∃ nt,nt=m.tops.length:=⟨_,rfl⟩
  have HNT:=LH hnt
  rw [← hnt] at S hcap h4 ⊢
  subst h4
  have h6:(i:Int) < 4:=by omega
  have hgw:g < w.heap.size:=World.block_lt_of_cell? w _ hat.choose_spec.choose_spec.1.1.1
  clear h hf hT ha hm hu hat hp hnt
  go_enter Tryz.func30,Tryz.ntmps30
  go_wp2_with fail
  refine Calls.mono (mdlCheck_any ?_ HF.out 0 HC.out) ?_
  ·exact S.out.below (by repeat (first|with_reducible (first|exact Below.refl _ _|apply Below.drew|apply below_alloc)|((first|with_reducible refine Below.alloc ?_ ?_ _|with_reducible refine Below.setCell ?_ ?_ _);rotate_left;focus (first|(simp <;> omega)|omega))))
  rintro e w1 ⟨rfl,hb⟩
  have HB:Hid (Below w.heap.size w _):=below_step (by repeat (first|with_reducible (first|exact Below.refl _ _|apply Below.drew|apply below_alloc)|((first|with_reducible refine Below.alloc ?_ ?_ _|with_reducible refine Below.setCell ?_ ?_ _);rotate_left;focus (first|(simp <;> omega)|omega)))) hb
  have P:Blk _ (w.heap.size) _ _:=Blk.step (by repeat (first|((with_reducible apply Blk.new);focus (first|rfl|(simp <;> omega)))|with_reducible (first|apply Blk.drew|apply Blk.alloc|apply Blk.set_)|((with_reducible apply Blk.far);rotate_left;focus (first|(simp <;> omega)|omega)))) hb
  obtain ⟨p0,p1,pz⟩:=cells2 P
  have pl:=Blk.lt P
  have HP:=LH P
  clear P
  have HM:Hid (Blk w1 (w.heap.size+1) 77 [.int .i64 id,.slice ga gn gc,.int .i64 (i:Int),.string k,.string b]):=Blk.step (by repeat (first|with_reducible exact Blk.new rfl|((with_reducible apply Blk.new);focus (first|rfl|(simp <;> omega)))|with_reducible (first|apply Blk.drew|apply Blk.alloc|apply Blk.set_)|((with_reducible apply Blk.far);rotate_left;focus (first|(simp <;> omega)|omega)))) hb
  obtain ⟨m0,m1,m2,m3,m4,mz⟩:=cells5 HM.out
  have ml:=HM.out.lt
  have R:Blk _ (w.heap.size+2) _ _:=Blk.step (by repeat (first|((with_reducible apply Blk.new);focus (first|rfl|(simp <;> omega)))|with_reducible (first|apply Blk.drew|apply Blk.alloc|apply Blk.set_)|((with_reducible apply Blk.far);rotate_left;focus (first|(simp <;> omega)|omega)))) hb
  obtain ⟨r0,r1,rz⟩:=cells2 R
  have rl:=Blk.lt R
  have HR:=LH R
  clear R
  obtain ⟨ea,ecap,⟨⟨c0,c1⟩,c2⟩,hTT⟩:=HAT.out.keep HB.out
  have T:=LH hTT
  clear hb hTT
  obtain ⟨an,han⟩:∃ an,an=p.all.length:=⟨_,rfl⟩
  obtain ⟨en,hen⟩:∃ en,en=(entP p).length:=⟨_,rfl⟩
  have HAN:=LH han
  have HEN:=LH hen
  rw [← han] at HU c0 T
  rw [← hen] at HU
  clear han hen
  by_cases hid:id < 0∨6291456≤id
  ·have hu:=HU.out
   rw [if_pos hid] at hu
   cases hu
   have hid':id < 0∨(¬ id < 0∧6291456≤id):=by omega
   clear hid
   rcases hid' with hid|⟨hid,hid2⟩
   all_goals
    go_wp2_with fail
    obtain ⟨t0,t1,-⟩:=cells2 ((((HR.out.set_ 0 (.slice none 0 0)).set_ 1 (.slice none 0 0)).alloc (.cells #[.slice ea an ecap,.int .i64 p.base,.int .i64 p.mark] 105)).alloc (.cells #[.int .i64 (an:Int),.int .i64 id,.string k,.string b] 50))
    refine bodyPost_ret (v:=.tuple #[.agg #[.slice none 0 0,.slice none 0 0],.int .i64 0,.int .i64 2]) (by simp [results,Tryz.results30,go_sem,t0,t1]) rfl ⟨_,_,rfl,OwnN.zero _ _,?_⟩
    repeat (first|with_reducible (first|exact HB.out|exact Below.refl _ _|apply Below.drew|apply below_alloc)|((first|with_reducible refine Below.alloc ?_ ?_ _|with_reducible refine Below.setCell ?_ ?_ _);rotate_left;focus (first|(simp <;> omega)|omega)))
  ·have hu:=HU.out
   rw [if_neg hid] at hu
   have hid1:¬ id < 0:=by omega
   have hid2:¬ 6291456≤id:=by omega
   by_cases htx:16 < k.size∨64 < b.size
   ·rw [if_pos htx] at hu
    cases hu
    have htx':(16:Int) < (k.size:Int)∨(¬ (16:Int) < (k.size:Int)∧(64:Int) < (b.size:Int)):=by omega
    clear hid htx
    rcases htx' with ht|⟨ht,ht2⟩
    all_goals
     go_wp2_with fail
     obtain ⟨t0,t1,-⟩:=cells2 ((((HR.out.set_ 0 (.slice none 0 0)).set_ 1 (.slice none 0 0)).alloc (.cells #[.slice ea an ecap,.int .i64 p.base,.int .i64 p.mark] 105)).alloc (.cells #[.int .i64 (an:Int),.int .i64 id,.string k,.string b] 50))
     refine bodyPost_ret (v:=.tuple #[.agg #[.slice none 0 0,.slice none 0 0],.int .i64 0,.int .i64 3]) (by simp [results,Tryz.results30,go_sem,t0,t1]) rfl ⟨_,_,rfl,OwnN.zero _ _,?_⟩
     repeat (first|with_reducible (first|exact HB.out|exact Below.refl _ _|apply Below.drew|apply below_alloc)|((first|with_reducible refine Below.alloc ?_ ?_ _|with_reducible refine Below.setCell ?_ ?_ _);rotate_left;focus (first|(simp <;> omega)|omega)))
   ·rw [if_neg htx] at hu
    have ht1:¬ (16:Int) < (k.size:Int):=by omega
    have ht2:¬ (64:Int) < (b.size:Int):=by omega
    by_cases hfu:an=600
    ·rw [if_pos (Or.inl hfu)] at hu
     cases hu
     subst hfu
     clear hid htx
     go_wp2_with fail
     obtain ⟨t0,t1,-⟩:=cells2 ((((HR.out.set_ 0 (.slice none 0 0)).set_ 1 (.slice none 0 0)).alloc (.cells #[.slice ea 600 ecap,.int .i64 p.base,.int .i64 p.mark] 105)).alloc (.cells #[.int .i64 600,.int .i64 id,.string k,.string b] 50))
     refine bodyPost_ret (v:=.tuple #[.agg #[.slice none 0 0,.slice none 0 0],.int .i64 0,.int .i64 9]) (by simp [results,Tryz.results30,go_sem,t0,t1]) rfl ⟨_,_,rfl,OwnN.zero _ _,?_⟩
     repeat (first|with_reducible (first|exact HB.out|exact Below.refl _ _|apply Below.drew|apply below_alloc)|((first|with_reducible refine Below.alloc ?_ ?_ _|with_reducible refine Below.setCell ?_ ?_ _);rotate_left;focus (first|(simp <;> omega)|omega)))
    ·have hfu1:((an:Int) == 600)=false:=by simp;omega
     have ha600:an < 600:=by have:=HSH.out.2.1;have:=HAN.out;omega
     by_cases hfe:en=200
     ·rw [if_pos (Or.inr hfe)] at hu
      cases hu
      clear hid htx hfu
      go_wp2_with fail
      refine Calls.mono (entries_any ?_ HSH.out) ?_
      ·exact T.out.below (by repeat (first|with_reducible (first|exact Below.refl _ _|apply Below.drew|apply below_alloc)|((first|with_reducible refine Below.alloc ?_ ?_ _|with_reducible refine Below.setCell ?_ ?_ _);rotate_left;focus (first|(simp <;> omega)|omega))))
      rintro e w2 ⟨a4,c4,rfl,-,hb⟩
      rw [← HEN.out]
      subst hfe
      have HB2:Hid (Below w.heap.size w _):=below_step (by repeat (first|with_reducible (first|exact HB.out|exact Below.refl _ _|apply Below.drew|apply below_alloc)|((first|with_reducible refine Below.alloc ?_ ?_ _|with_reducible refine Below.setCell ?_ ?_ _);rotate_left;focus (first|(simp <;> omega)|omega)))) hb
      have HR2:Hid (Blk w2 (w.heap.size+2) _ _):=LH (Blk.step (by repeat (first|with_reducible exact HR.out|((with_reducible apply Blk.new);focus (first|rfl|(simp <;> omega)))|with_reducible (first|apply Blk.drew|apply Blk.alloc|apply Blk.set_)|((with_reducible apply Blk.far);rotate_left;focus (first|(simp <;> omega)|omega)))) hb)
      obtain ⟨r0,r1,rz⟩:=cells2 HR2.out
      have rl:=HR2.out.lt
      clear hb
      go_wp2_with fail
      refine bodyPost_ret (v:=.tuple #[.agg #[.slice none 0 0,.slice none 0 0],.int .i64 0,.int .i64 9]) (by simp [results,Tryz.results30,go_sem,r0,r1]) rfl ⟨_,_,rfl,OwnN.zero _ _,?_⟩
      repeat (first|with_reducible (first|exact HB2.out|exact Below.refl _ _|apply Below.drew|apply below_alloc)|((first|with_reducible refine Below.alloc ?_ ?_ _|with_reducible refine Below.setCell ?_ ?_ _);rotate_left;focus (first|(simp <;> omega)|omega)))
     ·have hfe1:((en:Int) == 200)=false:=by simp;omega
      rw [if_neg (by omega)] at hu
      cases hu
      clear hid htx hfu hfe
      go_wp2_with fail
      refine Calls.mono (entries_any ?_ HSH.out) ?_
      ·exact T.out.below (by repeat (first|with_reducible (first|exact Below.refl _ _|apply Below.drew|apply below_alloc)|((first|with_reducible refine Below.alloc ?_ ?_ _|with_reducible refine Below.setCell ?_ ?_ _);rotate_left;focus (first|(simp <;> omega)|omega))))
      rintro e w2 ⟨a4,c4,rfl,-,hb⟩
      rw [← HEN.out]
      have HB2:Hid (Below w.heap.size w _):=below_step (by repeat (first|with_reducible (first|exact HB.out|exact Below.refl _ _|apply Below.drew|apply below_alloc)|((first|with_reducible refine Below.alloc ?_ ?_ _|with_reducible refine Below.setCell ?_ ?_ _);rotate_left;focus (first|(simp <;> omega)|omega)))) hb
      have HR2:Hid (Blk w2 (w.heap.size+2) _ _):=LH (Blk.step (by repeat (first|with_reducible exact HR.out|((with_reducible apply Blk.new);focus (first|rfl|(simp <;> omega)))|with_reducible (first|apply Blk.drew|apply Blk.alloc|apply Blk.set_)|((with_reducible apply Blk.far);rotate_left;focus (first|(simp <;> omega)|omega)))) hb)
      have HP2:Hid (Blk w2 (w.heap.size) _ _):=LH (Blk.step (by repeat (first|with_reducible exact HP.out|((with_reducible apply Blk.new);focus (first|rfl|(simp <;> omega)))|with_reducible (first|apply Blk.drew|apply Blk.alloc|apply Blk.set_)|((with_reducible apply Blk.far);rotate_left;focus (first|(simp <;> omega)|omega)))) hb)
      have HM2:Hid (Blk w2 (w.heap.size+1) _ _):=LH (Blk.step (by repeat (first|with_reducible exact HM.out|((with_reducible apply Blk.new);focus (first|rfl|(simp <;> omega)))|with_reducible (first|apply Blk.drew|apply Blk.alloc|apply Blk.set_)|((with_reducible apply Blk.far);rotate_left;focus (first|(simp <;> omega)|omega)))) hb)
      have HY2:Hid (Blk w2 (w1.heap.size+1) 50 [.int .i64 (an:Int),.int .i64 id,.string k,.string b]):=LH (Blk.step (by repeat (first|(with_reducible exact Blk.new (by simp))|((with_reducible apply Blk.new);focus (first|rfl|(simp <;> omega)))|with_reducible (first|apply Blk.drew|apply Blk.alloc|apply Blk.set_)|((with_reducible apply Blk.far);rotate_left;focus (first|(simp <;> omega)|omega)))) hb)
      have hw2:w1.heap.size+2≤w2.heap.size:=by have:=hb.size;first|omega|(simp at this;omega)
      clear r0 r1 rz p0 p1 pz m0 m1 m2 m3 m4 mz c0 c1 c2 hb
      obtain ⟨r0,r1,rz⟩:=cells2 HR2.out
      obtain ⟨p0,p1,pz⟩:=cells2 HP2.out
      go_wp2_with fail
      refine Calls.mono (mdlTwin_any (m:=m) ?_ HFT.out) ?_
      ·exact S.out.below (by repeat (first|with_reducible (first|exact HB2.out|exact Below.refl _ _|apply Below.drew|apply below_alloc)|((first|with_reducible refine Below.alloc ?_ ?_ _|with_reducible refine Below.setCell ?_ ?_ _);rotate_left;focus (first|(simp <;> omega)|omega))))
      rintro e w3 ⟨ta,tc,rfl,os,hb⟩
      obtain ⟨a3,cap3,b3,nc3,cc3,ev,-,-⟩:=os.reads.shape
      cases ev
      have e3:m.tops.length=4:=HNT.out.symm
      rw [e3] at os ⊢
      have oc:=(show OwnC w3 w2.heap.size (.slice b3 nc3 cc3) m.coms from by obtain ⟨_,_,ev,_,h2⟩:=os;cases ev;exact OwnRows.le h2 (by simp))
      have op:=(show OwnP w3 w2.heap.size (.slice a3 4 cap3) m.tops from by obtain ⟨_,_,ev,h2,_⟩:=os;cases ev;exact h2.le (by simp))
      have HB3:Hid (Below w.heap.size w w3):=below_step (by repeat (first|with_reducible (first|exact HB2.out|exact Below.refl _ _|apply Below.drew|apply below_alloc)|((first|with_reducible refine Below.alloc ?_ ?_ _|with_reducible refine Below.setCell ?_ ?_ _);rotate_left;focus (first|(simp <;> omega)|omega)))) hb
      have HP3:=LH (HP2.out.step hb)
      have HM3:=LH (HM2.out.step hb)
      have HR3:=LH (HR2.out.step hb)
      have HY3:=LH (HY2.out.step hb)
      have hw3:w2.heap.size≤w3.heap.size:=hb.size
      have HP4:=LH ((HP3.out.set_ 0 (.slice a3 4 cap3)).set_ 1 (.slice b3 nc3 cc3))
      have HM4:=LH ((HM3.out.far (b:=w.heap.size) (o:=0) (by omega) (.slice a3 4 cap3)).far (b:=w.heap.size) (o:=1) (by omega) (.slice b3 nc3 cc3))
      have HR4:=LH ((HR3.out.far (b:=w.heap.size) (o:=0) (by omega) (.slice a3 4 cap3)).far (b:=w.heap.size) (o:=1) (by omega) (.slice b3 nc3 cc3))
      have HY4:=LH ((HY3.out.far (b:=w.heap.size) (o:=0) (by omega) (.slice a3 4 cap3)).far (b:=w.heap.size) (o:=1) (by omega) (.slice b3 nc3 cc3))
      have HB4:=LH ((HB3.out.setCell (p:=⟨w.heap.size,0,none⟩) (by simp) (.slice a3 4 cap3)).setCell (p:=⟨w.heap.size,1,none⟩) (by simp) (.slice b3 nc3 cc3))
      have OP4:=LH ((op.far (b:=w.heap.size) (o:=0) (u:=.slice a3 4 cap3) (by omega)).far (b:=w.heap.size) (o:=1) (u:=.slice b3 nc3 cc3) (by omega))
      have OC4:=LH (OwnC.far (b:=w.heap.size) (o:=1) (u:=.slice b3 nc3 cc3) (OwnC.far (b:=w.heap.size) (o:=0) (u:=.slice a3 4 cap3) oc (by omega)) (by omega))
      have hs4:((w3.setCell ⟨w.heap.size,0,none⟩ (.slice a3 4 cap3)).setCell ⟨w.heap.size,1,none⟩ (.slice b3 nc3 cc3)).heap.size=w3.heap.size:=by simp
      clear r0 r1 rz p0 p1 pz hb oc op os e3 HP2 HM2 HR2 HY2 HB2 HB
      obtain ⟨p0,p1,pz⟩:=cells2 HP3.out
      go_upto_region 18 with fail
      generalize hW4:(w3.setCell ⟨w.heap.size,0,none⟩ (.slice a3 4 cap3)).setCell ⟨w.heap.size,1,none⟩ (.slice b3 nc3 cc3)=W4 at HP4 HM4 HR4 HY4 HB4 OP4 OC4 hs4 ⊢
      have hw4:w2.heap.size≤W4.heap.size:=by omega
      clear hW4 hs4 p0 p1 pz HP3 HM3 HR3 HY3 HB3
      obtain ⟨p0,p1,pz⟩:=cells2 HP4.out
      obtain ⟨m0,m1,m2,m3,m4,mz⟩:=cells5 HM4.out
      obtain ⟨r0,r1,rz⟩:=cells2 HR4.out
      obtain ⟨y0,y1,y2,y3,yz⟩:=cells4 HY4.out
      have pl4:=HP4.out.lt
      have ml4:=HM4.out.lt
      have rl4:=HR4.out.lt
      have yl4:=HY4.out.lt
      obtain ⟨g3,hg,⟨hg1,hg2⟩,⟨-,hn1,hn2⟩,-,hfz⟩:=OP4.out.at_ HI.out
      cases hg
      unfold maxLen at hn2
      obtain ⟨ea3,ecap3,d0,hown,hng,hgrow⟩:=OP4.out.grow HI.out
      rw [← HPN.out,← HAN.out] at d0 hown hng hgrow
      have HOWN:=LH (show W4.ownsRow w2.heap.size 50 4 (.slice ea3 an ecap3) an (p.all.flatMap entCells) from by rw [HAN.out] at hown ⊢;exact hown)
      have HGROW:=LH hgrow
      have HNG:=LH hng
      obtain ⟨ps,-,hrow,-⟩:=OP4.out
      have HROW:=LH hrow
      clear hown hgrow hng hrow
      have HS4:=LH hw4
      have KS:Hid (∀ W':World,Below w2.heap.size W4 W'→(W'.cell? ⟨w.heap.size,0,none⟩=some (.slice (some ⟨g3,0,none⟩) 4 cap3)∧W'.cell? ⟨w.heap.size+1,2,none⟩=some (.int .i64 (i:Int)))∧(W'.cell? ⟨w1.heap.size+1,0,none⟩=some (.int .i64 (an:Int))∧W'.cell? ⟨w1.heap.size+1,1,none⟩=some (.int .i64 id))∧W'.cell? ⟨w1.heap.size+1,2,none⟩=some (.string k)∧W'.cell? ⟨w1.heap.size+1,3,none⟩=some (.string b)):=fun W' hb=>by
       have c:=fun (p:Addr) (hp:p.block < w2.heap.size)=>hb.cell hp
       refine ⟨⟨(c _ ?_).trans p0,(c _ ?_).trans m2⟩,⟨(c _ ?_).trans y0,(c _ ?_).trans y1⟩,(c _ ?_).trans y2,(c _ ?_).trans y3⟩ <;> (simp only [];omega)
      have KT:=KS.out W4 (Below.refl _ _)
      refine wp_region_held_drew (S:=(fun W'=>(W'.cell? ⟨w.heap.size,0,none⟩=some (.slice (some ⟨g3,0,none⟩) 4 cap3)∧W'.cell? ⟨w.heap.size+1,2,none⟩=some (.int .i64 (i:Int)))∧(W'.cell? ⟨w1.heap.size+1,0,none⟩=some (.int .i64 (an:Int))∧W'.cell? ⟨w1.heap.size+1,1,none⟩=some (.int .i64 id))∧W'.cell? ⟨w1.heap.size+1,2,none⟩=some (.string k)∧W'.cell? ⟨w1.heap.size+1,3,none⟩=some (.string b))) (by kernel_rfl) KT (fun hHeld=>?_)
      refine' wpAnyH_take (i:=0) (oi:=_) (v:=_) ?hi1 (by kernel_rfl) (by kernel_rfl) (by kernel_rfl) ?hq1 (Or.inl ⟨?hw1,?hy1⟩) (by assumption) ?rest1
      case hi1=>simp only [List.getElem?_toArray,List.getElem?_cons_zero];rfl
      case hq1=>exact fun _ _ _ h=>h
      case hw1=>rfl
      case hy1=>intro wh hSw;(try dsimp only at hSw);go_simp;(try with_reducible rfl)
      (try simp only [Act.put,List.setIfInBounds_toArray,List.set_cons_zero,List.set_cons_succ])
      refine' wpAnyH_take (i:=2) (oi:=_) (v:=_) ?hi2 (by kernel_rfl) (by kernel_rfl) (by kernel_rfl) ?hq2 (Or.inl ⟨?hw2,?hy2⟩) (by assumption) ?rest2
      case hi2=>simp only [List.getElem?_toArray,List.getElem?_cons_succ,List.getElem?_cons_zero];rfl
      case hq2=>exact fun _ _ _ h=>h
      case hw2=>rfl
      case hy2=>intro wh hSw;(try dsimp only at hSw);go_simp;(try with_reducible rfl)
      (try simp only [Act.put,List.setIfInBounds_toArray,List.set_cons_zero,List.set_cons_succ])
      refine' wpAnyH_take (i:=4) (oi:=_) (v:=_) ?hi3 (by kernel_rfl) (by kernel_rfl) (by kernel_rfl) ?hq3 (Or.inl ⟨?hw3,?hy3⟩) (by assumption) ?rest3
      case hi3=>simp only [List.getElem?_toArray,List.getElem?_cons_succ,List.getElem?_cons_zero];rfl
      case hq3=>exact fun _ _ _ h=>h
      case hw3=>rfl
      case hy3=>intro wh hSw;(try dsimp only at hSw);go_simp;(try with_reducible rfl)
      (try simp only [Act.put,List.setIfInBounds_toArray,List.set_cons_zero,List.set_cons_succ])
      refine' wpAnyH_take (i:=6) (oi:=_) (v:=_) ?hi4 (by kernel_rfl) (by kernel_rfl) (by kernel_rfl) ?hq4 (Or.inl ⟨?hw4,?hy4⟩) (by assumption) ?rest4
      case hi4=>simp only [List.getElem?_toArray,List.getElem?_cons_succ,List.getElem?_cons_zero];rfl
      case hq4=>exact fun _ _ _ h=>h
      case hw4=>rfl
      case hy4=>intro wh hSw;(try dsimp only at hSw);go_simp;(try with_reducible rfl)
      (try simp only [Act.put,List.setIfInBounds_toArray,List.set_cons_zero,List.set_cons_succ])
      refine' wpAnyH_take (i:=1) (oi:=_) (v:=_) ?hi5 (by kernel_rfl) (by kernel_rfl) (by kernel_rfl) ?hq5 (Or.inl ⟨?hw5,?hy5⟩) (by assumption) ?rest5
      case hi5=>simp only [List.getElem?_toArray,List.getElem?_cons_succ,List.getElem?_cons_zero];rfl
      case hq5=>exact fun _ _ _ h=>h
      case hw5=>rfl
      case hy5=>intro wh hSw;(try dsimp only at hSw);go_simp;(try with_reducible rfl)
      (try simp only [Act.put,List.setIfInBounds_toArray,List.set_cons_zero,List.set_cons_succ])
      refine' wpAnyH_take (i:=3) (oi:=_) (v:=_) ?hi6 (by kernel_rfl) (by kernel_rfl) (by kernel_rfl) ?hq6 (Or.inl ⟨?hw6,?hy6⟩) (by assumption) ?rest6
      case hi6=>simp only [List.getElem?_toArray,List.getElem?_cons_succ,List.getElem?_cons_zero];rfl
      case hq6=>exact fun _ _ _ h=>h
      case hw6=>rfl
      case hy6=>intro wh hSw;(try dsimp only at hSw);go_simp;(try with_reducible rfl)
      (try simp only [Act.put,List.setIfInBounds_toArray,List.set_cons_zero,List.set_cons_succ])
      refine' wpAnyH_take (i:=5) (oi:=_) (v:=_) ?hi7 (by kernel_rfl) (by kernel_rfl) (by kernel_rfl) ?hq7 (Or.inl ⟨?hw7,?hy7⟩) (by assumption) ?rest7
      case hi7=>simp only [List.getElem?_toArray,List.getElem?_cons_succ,List.getElem?_cons_zero];rfl
      case hq7=>exact fun _ _ _ h=>h
      case hw7=>rfl
      case hy7=>intro wh hSw;(try dsimp only at hSw);go_simp;(try with_reducible rfl)
      (try simp only [Act.put,List.setIfInBounds_toArray,List.set_cons_zero,List.set_cons_succ])
      refine' wpAnyH_take (i:=7) (oi:=_) (v:=_) ?hi8 (by kernel_rfl) (by kernel_rfl) (by kernel_rfl) ?hq8 (Or.inl ⟨?hw8,?hy8⟩) (by assumption) ?rest8
      case hi8=>simp only [List.getElem?_toArray,List.getElem?_cons_succ,List.getElem?_cons_zero];rfl
      case hq8=>exact fun _ _ _ h=>h
      case hw8=>rfl
      case hy8=>intro wh hSw;(try dsimp only at hSw);go_simp;(try with_reducible rfl)
      (try simp only [Act.put,List.setIfInBounds_toArray,List.set_cons_zero,List.set_cons_succ])
      refine' wpAnyH_take (i:=8) (oi:=_) (v:=_) ?hi9 (by kernel_rfl) (by kernel_rfl) (by kernel_rfl) ?hq9 (Or.inl ⟨?hw9,?hy9⟩) (by assumption) ?rest9
      case hi9=>simp only [List.getElem?_toArray,List.getElem?_cons_succ,List.getElem?_cons_zero];rfl
      case hq9=>exact fun _ _ _ h=>h
      case hw9=>rfl
      case hy9=>intro wh hSw;(try dsimp only at hSw);go_simp;(try with_reducible rfl)
      (try simp only [Act.put,List.setIfInBounds_toArray,List.set_cons_zero,List.set_cons_succ])
      refine' wpAnyH_take (i:=9) (oi:=_) (v:=_) ?hi10 (by kernel_rfl) (by kernel_rfl) (by kernel_rfl) ?hq10 (Or.inl ⟨?hw10,?hy10⟩) (by assumption) ?rest10
      case hi10=>simp only [List.getElem?_toArray,List.getElem?_cons_succ,List.getElem?_cons_zero];rfl
      case hq10=>exact fun _ _ _ h=>h
      case hw10=>rfl
      case hy10=>intro wh hSw;(try dsimp only at hSw);go_simp;(try with_reducible rfl)
      (try simp only [Act.put,List.setIfInBounds_toArray,List.set_cons_zero,List.set_cons_succ])
      refine' wpAnyH_take (i:=11) (oi:=_) (v:=_) ?hi11 (by kernel_rfl) (by kernel_rfl) (by kernel_rfl) ?hq11 (Or.inl ⟨?hw11,?hy11⟩) (by assumption) ?rest11
      case hi11=>simp only [List.getElem?_toArray,List.getElem?_cons_succ,List.getElem?_cons_zero];rfl
      case hq11=>exact fun _ _ _ h=>h
      case hw11=>rfl
      case hy11=>intro wh hSw;(try dsimp only at hSw);go_simp;(try with_reducible rfl)
      (try simp only [Act.put,List.setIfInBounds_toArray,List.set_cons_zero,List.set_cons_succ])
      refine wpAnyH_ready (rs:=[10,12]) (by kernel_rfl) (by simp) ?_
      refine' AllReadyH.cons (o:=_) ?hi12 (fun K hK=>?st12) ?more12
      case hi12=>simp only [List.getElem?_toArray,List.getElem?_cons_succ,List.getElem?_cons_zero];rfl
      go_simp
      refine hK.out _ _ ?keep12 (fun hHeld=>?go12)
      case keep12=>first|with_reducible exact KT|(refine KS.out _ ?_;(repeat (first|with_reducible (first|exact Below.refl _ _|apply Below.drew|apply below_alloc)|((first|with_reducible refine Below.alloc ?_ ?_ _|with_reducible refine Below.setCell ?_ ?_ _);rotate_left;focus (first|(simp <;> omega)|omega))));done)|(refine KS.out _ ?_;(repeat (first|with_reducible (first|exact HB5.out|exact Below.refl _ _|apply Below.drew|apply below_alloc)|((first|with_reducible refine Below.alloc ?_ ?_ _|with_reducible refine Below.setCell ?_ ?_ _);rotate_left;focus (first|(simp <;> omega)|omega))));done)
      clear hK K
      (try simp only [Act.put,List.setIfInBounds_toArray,List.set_cons_zero,List.set_cons_succ])
      refine wpAnyH_ready (rs:=[12]) (by kernel_rfl) (by simp) ?_
      refine' AllReadyH.cons (o:=_) ?hi13 (fun K hK=>?st13) ?more13
      case hi13=>simp only [List.getElem?_toArray,List.getElem?_cons_succ,List.getElem?_cons_zero];rfl
      case more13=>exact AllReadyH.nil
      go_simp
      refine hK.out _ _ ?keep13 (fun hHeld=>?go13)
      case keep13=>first|with_reducible exact KT|(refine KS.out _ ?_;(repeat (first|with_reducible (first|exact Below.refl _ _|apply Below.drew|apply below_alloc)|((first|with_reducible refine Below.alloc ?_ ?_ _|with_reducible refine Below.setCell ?_ ?_ _);rotate_left;focus (first|(simp <;> omega)|omega))));done)|(refine KS.out _ ?_;(repeat (first|with_reducible (first|exact HB5.out|exact Below.refl _ _|apply Below.drew|apply below_alloc)|((first|with_reducible refine Below.alloc ?_ ?_ _|with_reducible refine Below.setCell ?_ ?_ _);rotate_left;focus (first|(simp <;> omega)|omega))));done)
      clear hK K
      (try simp only [Act.put,List.setIfInBounds_toArray,List.set_cons_zero,List.set_cons_succ])
      refine wpAnyH_ready (rs:=[13]) (by kernel_rfl) (by simp) ?_
      refine' AllReadyH.cons (o:=_) ?hi14 (fun K hK=>?st14) ?more14
      case hi14=>simp only [List.getElem?_toArray,List.getElem?_cons_succ,List.getElem?_cons_zero];rfl
      case more14=>exact AllReadyH.nil
      refine step_append_own_any rfl _ _ 101 rfl w2.heap.size 50 i1 _ 4 48 Tryz.underlying101 gi gz0 gz1 gz2 rfl (by decide) _ an (p.all.flatMap entCells) rfl (World.ownsRow.alloc (w:=W4.drew) HOWN.out _) (some ⟨W4.heap.size,0,none⟩) 1 1 (entCells ⟨(an:Int),id,k,b⟩) rfl rfl (fun e=>by cases e) (by intro ad had;cases had;exact news_ent ⟨(an:Int),id,k,b⟩ rfl) (by intro v hv;simp [entCells] at hv;rcases hv with rfl|rfl|rfl|rfl <;> rfl) (by unfold maxLen;omega) (by omega) (by simp;omega) ?_;intro v' w5 hown5 hgrow5;have ho:OwnE w5 w2.heap.size v' (p.all++[⟨(an:Int),id,k,b⟩]):=(by show w5.ownsRow _ _ _ _ _ _;rw [List.length_append,← HAN.out];simpa [List.flatMap_append] using hown5);obtain ⟨a6,c6,hv6⟩:=own_shape ho;subst hv6;have HOE:=LH ho;have HGR:=LH hgrow5;have HB5:Hid (Below w2.heap.size W4 w5):=LH (Below.grown (Below.alloc (Below.drew (Below.refl _ _)) (by simp;omega) _) hgrow5 (by simp;omega) (fun j hj=>(HOWN.out.lt j hj).1));have d5:=World.grownBy.cell hgrow5 (a:=⟨g3,i * 3,none⟩) (keep (below_alloc (w:=W4.drew) (Below.refl _ _)) d0) (fun e=>HNG.out g3 e.symm rfl);have f5:w5.frozen? ⟨g3,i * 3,none⟩=false:=(World.frozen?_of_block (hgrow5.block g3 (by simp;omega) (fun e=>HNG.out g3 e.symm rfl))).trans (((below_alloc (w:=W4.drew) (Below.refl _ _)).frozen (p:=⟨g3,i * 3,none⟩) hg2).trans (hfz _));clear hown5 hgrow5 ho
      refine hK.out _ _ ?keep14 (fun hHeld=>?go14)
      case keep14=>first|with_reducible exact KT|(refine KS.out _ ?_;(repeat (first|with_reducible (first|exact Below.refl _ _|apply Below.drew|apply below_alloc)|((first|with_reducible refine Below.alloc ?_ ?_ _|with_reducible refine Below.setCell ?_ ?_ _);rotate_left;focus (first|(simp <;> omega)|omega))));done)|(refine KS.out _ ?_;(repeat (first|with_reducible (first|exact HB5.out|exact Below.refl _ _|apply Below.drew|apply below_alloc)|((first|with_reducible refine Below.alloc ?_ ?_ _|with_reducible refine Below.setCell ?_ ?_ _);rotate_left;focus (first|(simp <;> omega)|omega))));done)
      clear hK K
      (try simp only [Act.put,List.setIfInBounds_toArray,List.set_cons_zero,List.set_cons_succ])
      refine' wpAnyH_take (i:=14) (oi:=_) (v:=_) ?hi15 (by kernel_rfl) (by kernel_rfl) (by kernel_rfl) ?hq15 (Or.inl ⟨?hw15,?hy15⟩) (by assumption) ?rest15
      case hi15=>simp only [List.getElem?_toArray,List.getElem?_cons_succ,List.getElem?_cons_zero];rfl
      case hq15=>exact fun _ _ _ h=>h
      case hw15=>rfl
      case hy15=>intro wh hSw;(try dsimp only at hSw);go_simp;(try with_reducible rfl)
      (try simp only [Act.put,List.setIfInBounds_toArray,List.set_cons_zero,List.set_cons_succ])
      refine' wpAnyH_take (i:=15) (oi:=_) (v:=_) ?hi16 (by kernel_rfl) (by kernel_rfl) (by kernel_rfl) ?hq16 (Or.inl ⟨?hw16,?hy16⟩) (by assumption) ?rest16
      case hi16=>simp only [List.getElem?_toArray,List.getElem?_cons_succ,List.getElem?_cons_zero];rfl
      case hq16=>exact fun _ _ _ h=>h
      case hw16=>rfl
      case hy16=>intro wh hSw;(try dsimp only at hSw);go_simp;(try with_reducible rfl)
      (try simp only [Act.put,List.setIfInBounds_toArray,List.set_cons_zero,List.set_cons_succ])
      refine wpAnyH_ready (rs:=[16]) (by kernel_rfl) (by simp) ?_
      refine' AllReadyH.cons (o:=_) ?hi17 (fun K hK=>?st17) ?more17
      case hi17=>simp only [List.getElem?_toArray,List.getElem?_cons_succ,List.getElem?_cons_zero];rfl
      case more17=>exact AllReadyH.nil
      go_simp
      refine hK.out _ _ ?keep17 (fun hHeld=>?go17)
      case keep17=>first|with_reducible exact KT|(refine KS.out _ ?_;(repeat (first|with_reducible (first|exact Below.refl _ _|apply Below.drew|apply below_alloc)|((first|with_reducible refine Below.alloc ?_ ?_ _|with_reducible refine Below.setCell ?_ ?_ _);rotate_left;focus (first|(simp <;> omega)|omega))));done)|(refine KS.out _ ?_;(repeat (first|with_reducible (first|exact HB5.out|exact Below.refl _ _|apply Below.drew|apply below_alloc)|((first|with_reducible refine Below.alloc ?_ ?_ _|with_reducible refine Below.setCell ?_ ?_ _);rotate_left;focus (first|(simp <;> omega)|omega))));done)
      clear hK K
      (try simp only [Act.put,List.setIfInBounds_toArray,List.set_cons_zero,List.set_cons_succ])
      refine wpAnyH_done (by kernel_rfl) ?_ _
      rotate_left
      refine' AllReadyH.cons (o:=_) ?hi18 (fun K hK=>?st18) ?more18
      case hi18=>simp only [List.getElem?_toArray,List.getElem?_cons_succ,List.getElem?_cons_zero];rfl
      case more18=>exact AllReadyH.nil
      go_simp
      refine hK.out _ _ ?keep18 (fun hHeld=>?go18)
      case keep18=>first|with_reducible exact KT|(refine KS.out _ ?_;(repeat (first|with_reducible (first|exact Below.refl _ _|apply Below.drew|apply below_alloc)|((first|with_reducible refine Below.alloc ?_ ?_ _|with_reducible refine Below.setCell ?_ ?_ _);rotate_left;focus (first|(simp <;> omega)|omega))));done)|(refine KS.out _ ?_;(repeat (first|with_reducible (first|exact HB5.out|exact Below.refl _ _|apply Below.drew|apply below_alloc)|((first|with_reducible refine Below.alloc ?_ ?_ _|with_reducible refine Below.setCell ?_ ?_ _);rotate_left;focus (first|(simp <;> omega)|omega))));done)
      clear hK K
      (try simp only [Act.put,List.setIfInBounds_toArray,List.set_cons_zero,List.set_cons_succ])
      refine wpAnyH_ready (rs:=[10]) (by kernel_rfl) (by simp) ?_
      refine' AllReadyH.cons (o:=_) ?hi19 (fun K hK=>?st19) ?more19
      case hi19=>simp only [List.getElem?_toArray,List.getElem?_cons_succ,List.getElem?_cons_zero];rfl
      case more19=>exact AllReadyH.nil
      go_simp
      refine hK.out _ _ ?keep19 (fun hHeld=>?go19)
      case keep19=>first|with_reducible exact KT|(refine KS.out _ ?_;(repeat (first|with_reducible (first|exact Below.refl _ _|apply Below.drew|apply below_alloc)|((first|with_reducible refine Below.alloc ?_ ?_ _|with_reducible refine Below.setCell ?_ ?_ _);rotate_left;focus (first|(simp <;> omega)|omega))));done)|(refine KS.out _ ?_;(repeat (first|with_reducible (first|exact HB5.out|exact Below.refl _ _|apply Below.drew|apply below_alloc)|((first|with_reducible refine Below.alloc ?_ ?_ _|with_reducible refine Below.setCell ?_ ?_ _);rotate_left;focus (first|(simp <;> omega)|omega))));done)
      clear hK K
      (try simp only [Act.put,List.setIfInBounds_toArray,List.set_cons_zero,List.set_cons_succ])
      refine wpAnyH_ready (rs:=[13]) (by kernel_rfl) (by simp) ?_
      refine' AllReadyH.cons (o:=_) ?hi20 (fun K hK=>?st20) ?more20
      case hi20=>simp only [List.getElem?_toArray,List.getElem?_cons_succ,List.getElem?_cons_zero];rfl
      case more20=>exact AllReadyH.nil
      refine step_append_own_any rfl _ _ 101 rfl w2.heap.size 50 i1 _ 4 48 Tryz.underlying101 gi gz0 gz1 gz2 rfl (by decide) _ an (p.all.flatMap entCells) rfl (World.ownsRow.alloc (w:=W4.drew) HOWN.out _) (some ⟨W4.heap.size,0,none⟩) 1 1 (entCells ⟨(an:Int),id,k,b⟩) rfl rfl (fun e=>by cases e) (by intro ad had;cases had;exact news_ent ⟨(an:Int),id,k,b⟩ rfl) (by intro v hv;simp [entCells] at hv;rcases hv with rfl|rfl|rfl|rfl <;> rfl) (by unfold maxLen;omega) (by omega) (by simp;omega) ?_;intro v' w5 hown5 hgrow5;have ho:OwnE w5 w2.heap.size v' (p.all++[⟨(an:Int),id,k,b⟩]):=(by show w5.ownsRow _ _ _ _ _ _;rw [List.length_append,← HAN.out];simpa [List.flatMap_append] using hown5);obtain ⟨a6,c6,hv6⟩:=own_shape ho;subst hv6;have HOE:=LH ho;have HGR:=LH hgrow5;have HB5:Hid (Below w2.heap.size W4 w5):=LH (Below.grown (Below.alloc (Below.drew (Below.refl _ _)) (by simp;omega) _) hgrow5 (by simp;omega) (fun j hj=>(HOWN.out.lt j hj).1));have d5:=World.grownBy.cell hgrow5 (a:=⟨g3,i * 3,none⟩) (keep (below_alloc (w:=W4.drew) (Below.refl _ _)) d0) (fun e=>HNG.out g3 e.symm rfl);have f5:w5.frozen? ⟨g3,i * 3,none⟩=false:=(World.frozen?_of_block (hgrow5.block g3 (by simp;omega) (fun e=>HNG.out g3 e.symm rfl))).trans (((below_alloc (w:=W4.drew) (Below.refl _ _)).frozen (p:=⟨g3,i * 3,none⟩) hg2).trans (hfz _));clear hown5 hgrow5 ho
      refine hK.out _ _ ?keep20 (fun hHeld=>?go20)
      case keep20=>first|with_reducible exact KT|(refine KS.out _ ?_;(repeat (first|with_reducible (first|exact Below.refl _ _|apply Below.drew|apply below_alloc)|((first|with_reducible refine Below.alloc ?_ ?_ _|with_reducible refine Below.setCell ?_ ?_ _);rotate_left;focus (first|(simp <;> omega)|omega))));done)|(refine KS.out _ ?_;(repeat (first|with_reducible (first|exact HB5.out|exact Below.refl _ _|apply Below.drew|apply below_alloc)|((first|with_reducible refine Below.alloc ?_ ?_ _|with_reducible refine Below.setCell ?_ ?_ _);rotate_left;focus (first|(simp <;> omega)|omega))));done)
      clear hK K
      (try simp only [Act.put,List.setIfInBounds_toArray,List.set_cons_zero,List.set_cons_succ])
      refine' wpAnyH_take (i:=14) (oi:=_) (v:=_) ?hi21 (by kernel_rfl) (by kernel_rfl) (by kernel_rfl) ?hq21 (Or.inl ⟨?hw21,?hy21⟩) (by assumption) ?rest21
      case hi21=>simp only [List.getElem?_toArray,List.getElem?_cons_succ,List.getElem?_cons_zero];rfl
      case hq21=>exact fun _ _ _ h=>h
      case hw21=>rfl
      case hy21=>intro wh hSw;(try dsimp only at hSw);go_simp;(try with_reducible rfl)
      (try simp only [Act.put,List.setIfInBounds_toArray,List.set_cons_zero,List.set_cons_succ])
      refine' wpAnyH_take (i:=15) (oi:=_) (v:=_) ?hi22 (by kernel_rfl) (by kernel_rfl) (by kernel_rfl) ?hq22 (Or.inl ⟨?hw22,?hy22⟩) (by assumption) ?rest22
      case hi22=>simp only [List.getElem?_toArray,List.getElem?_cons_succ,List.getElem?_cons_zero];rfl
      case hq22=>exact fun _ _ _ h=>h
      case hw22=>rfl
      case hy22=>intro wh hSw;(try dsimp only at hSw);go_simp;(try with_reducible rfl)
      (try simp only [Act.put,List.setIfInBounds_toArray,List.set_cons_zero,List.set_cons_succ])
      refine wpAnyH_ready (rs:=[16]) (by kernel_rfl) (by simp) ?_
      refine' AllReadyH.cons (o:=_) ?hi23 (fun K hK=>?st23) ?more23
      case hi23=>simp only [List.getElem?_toArray,List.getElem?_cons_succ,List.getElem?_cons_zero];rfl
      case more23=>exact AllReadyH.nil
      go_simp
      refine hK.out _ _ ?keep23 (fun hHeld=>?go23)
      case keep23=>first|with_reducible exact KT|(refine KS.out _ ?_;(repeat (first|with_reducible (first|exact Below.refl _ _|apply Below.drew|apply below_alloc)|((first|with_reducible refine Below.alloc ?_ ?_ _|with_reducible refine Below.setCell ?_ ?_ _);rotate_left;focus (first|(simp <;> omega)|omega))));done)|(refine KS.out _ ?_;(repeat (first|with_reducible (first|exact HB5.out|exact Below.refl _ _|apply Below.drew|apply below_alloc)|((first|with_reducible refine Below.alloc ?_ ?_ _|with_reducible refine Below.setCell ?_ ?_ _);rotate_left;focus (first|(simp <;> omega)|omega))));done)
      clear hK K
      (try simp only [Act.put,List.setIfInBounds_toArray,List.set_cons_zero,List.set_cons_succ])
      refine wpAnyH_done (by kernel_rfl) ?_ _
      all_goals
       have hg4:=grownBy_from HGR.out
       have e6:(p.all++[(⟨(an:Int),id,k,b⟩:Ent)]).length=p.all.length+1:=by simp
       have OQ6:=HGROW.out w5 a6 c6 ⟨(an:Int),id,k,b⟩ hg4 (by rw [HAN.out];rw [e6] at HOE;rw [HAN.out] at HOE;exact HOE.out)
       have hrow5:=ownsRow_grown' HROW.out hg4 (fun q hq hq2=>HNG.out q hq (by simpa [Value.ownBlock] using hq2.symm))
       have OC5:=OwnC.grown OC4.out hg4 HOWN.out rfl (by decide) (by decide)
       rw [HAN.out] at OQ6
       have OC6:=OwnC.over (w':=w5.setCell ⟨g3,i * 3,none⟩ (.slice a6 (p.all.length+1) c6)) OC5 (fun b hb=>heap_setCell_other _ _ _ _ hb) hrow5 rfl (by decide) (by decide)
       have hlt:=HOWN.out.lt
       have HP6:=LH ((Blk.grown HP4.out hg4 (fun e=>by have:=(hlt _ e).1;omega)).far (b:=g3) (o:=i * 3) (by omega) (.slice a6 (p.all.length+1) c6))
       have HR6:=LH ((Blk.grown HR4.out hg4 (fun e=>by have:=(hlt _ e).1;omega)).far (b:=g3) (o:=i * 3) (by omega) (.slice a6 (p.all.length+1) c6))
       have HY6:=LH ((Blk.grown HY4.out hg4 (fun e=>by have:=(hlt _ e).1;omega)).far (b:=g3) (o:=i * 3) (by omega) (.slice a6 (p.all.length+1) c6))
       have HB6:=LH ((Below.grown HB4.out hg4 (by omega) (fun j hj=>by have:=(hlt _ hj).1;omega)).setCell (p:=⟨g3,i * 3,none⟩) (by show w.heap.size≤g3;omega) (.slice a6 (p.all.length+1) c6))
       have OQ7:=LH OQ6
       have OC7:=LH OC6
       clear hg4 OQ6 hrow5 OC5 OC6 hlt HOE HGR HB5 d5 f5 d0 HOWN HGROW HNG HROW OP4 OC4 HB4 HP4 HM4 HR4 HY4 p0 p1 pz m0 m1 m2 m3 m4 mz r0 r1 rz y0 y1 y2 y3 yz
       generalize w5.setCell ⟨g3,i * 3,none⟩ (.slice a6 (p.all.length+1) c6)=W6 at HP6 HR6 HY6 HB6 OQ7 OC7 ⊢
       obtain ⟨p0,p1,pz⟩:=cells2 HP6.out
       obtain ⟨r0,r1,rz⟩:=cells2 HR6.out
       obtain ⟨y0,y1,y2,y3,yz⟩:=cells4 HY6.out
       have pl6:=HP6.out.lt
       have rl6:=HR6.out.lt
       have yl6:=HY6.out.lt
       clear pl4 ml4 rl4 yl4 hw4
       go_wp2_with fail
       go_region
       go_wp2_with fail
       obtain ⟨t0,t1,-⟩:=cells2 (((HR6.out.set_ 0 (.slice (some ⟨g3,0,none⟩) 4 cap3)).set_ 1 (.slice b3 nc3 cc3)).drew)
       refine bodyPost_ret (v:=.tuple #[.agg #[.slice (some ⟨g3,0,none⟩) 4 cap3,.slice b3 nc3 cc3],.int .i64 (an:Int),.int .i64 0]) (by simp [results,Tryz.results30,go_sem,t0,t1]) rfl ⟨_,_,rfl,⟨_,_,rfl,?_,?_⟩,?_⟩
       ·have OQ8:=OQ7.out
        rw [← HAN.out] at OQ8
        exact OwnQ.le ((OQ8.far (b:=w.heap.size+2) (by omega)).far (b:=w.heap.size+2) (by omega)) (by omega)
       ·exact OwnRows.le (OwnC.far (OwnC.far OC7.out (by omega)) (by omega)) (by omega)
       ·exact ((Below.setCell HB6.out (p:=⟨w.heap.size+2,0,none⟩) (by simp) _).setCell (p:=⟨w.heap.size+2,1,none⟩) (by simp) _).drew
 ·rw [putM,if_neg ha] at hu
  injection hu with hx hy
  injection hy with hy hz
  subst hx
  subst hy
  obtain ⟨nt,hnt⟩:∃ nt,nt=m.tops.length:=⟨_,rfl⟩
  rw [← hnt] at S ⊢
  by_cases hm:mayM m
  ·have HC:=LH (show (0:Int)=if mayM m then 0 else 8 by rw [if_pos hm])
   have hr:topic < 0∨(¬ topic < 0∧4≤topic):=by
    have h9:¬ (0≤topic∧topic < 4):=fun h9=>ha (askM_zero.2 ⟨hm,h9.1,h9.2⟩)
    omega
   have e2:askM m topic=2:=by rw [askM,if_pos hm,if_neg (by omega)]
   rw [e2] at hz
   subst hz
   clear h hf hT ha hm e2 hnt
   rcases hr with hr|⟨hr,hr2⟩
   all_goals
    go_enter Tryz.func30,Tryz.ntmps30
    go_wp2_with fail
    refine Calls.mono (mdlCheck_any ?_ HF.out 0 HC.out) ?_
    ·exact S.out.below (by repeat (first|with_reducible (first|exact Below.refl _ _|apply Below.drew|apply below_alloc)|((first|with_reducible refine Below.alloc ?_ ?_ _|with_reducible refine Below.setCell ?_ ?_ _);rotate_left;focus (first|(simp <;> omega)|omega))))
    rintro e w1 ⟨rfl,hb⟩
    have HB:Hid (Below w.heap.size w _):=below_step (by repeat (first|with_reducible (first|exact Below.refl _ _|apply Below.drew|apply below_alloc)|((first|with_reducible refine Below.alloc ?_ ?_ _|with_reducible refine Below.setCell ?_ ?_ _);rotate_left;focus (first|(simp <;> omega)|omega)))) hb
    have HM:Hid (Blk w1 (w.heap.size+1) 77 [.int .i64 id,.slice ga gn gc,.int .i64 topic,.string k,.string b]):=Blk.step (by repeat (first|with_reducible exact Blk.new rfl|((with_reducible apply Blk.new);focus (first|rfl|(simp <;> omega)))|with_reducible (first|apply Blk.drew|apply Blk.alloc|apply Blk.set_)|((with_reducible apply Blk.far);rotate_left;focus (first|(simp <;> omega)|omega)))) hb
    obtain ⟨m0,m1,m2,m3,m4,mz⟩:=cells5 HM.out
    have ml:=HM.out.lt
    have R:Blk _ (w.heap.size+2) _ _:=Blk.step (by repeat (first|((with_reducible apply Blk.new);focus (first|rfl|(simp <;> omega)))|with_reducible (first|apply Blk.drew|apply Blk.alloc|apply Blk.set_)|((with_reducible apply Blk.far);rotate_left;focus (first|(simp <;> omega)|omega)))) hb
    obtain ⟨r0,r1,rz⟩:=cells2 R
    have rl:=Blk.lt R
    have HR:=LH R
    clear R
    clear hb
    go_wp2_with fail
    refine bodyPost_ret (v:=.tuple #[.agg #[.slice none 0 0,.slice none 0 0],.int .i64 0,.int .i64 2]) (by simp [results,Tryz.results30,go_sem,r0,r1]) rfl ⟨_,_,rfl,OwnN.zero _ _,?_⟩
    repeat (first|with_reducible (first|exact HB.out|exact Below.refl _ _|apply Below.drew|apply below_alloc)|((first|with_reducible refine Below.alloc ?_ ?_ _|with_reducible refine Below.setCell ?_ ?_ _);rotate_left;focus (first|(simp <;> omega)|omega)))
  ·have HC:=LH (show (8:Int)=if mayM m then 0 else 8 by rw [if_neg hm])
   have e2:askM m topic=8:=by rw [askM,if_neg hm]
   rw [e2] at hz
   subst hz
   clear h hf hT ha hm e2 hnt
   go_enter Tryz.func30,Tryz.ntmps30
   go_wp2_with fail
   refine Calls.mono (mdlCheck_any ?_ HF.out 8 HC.out) ?_
   ·exact S.out.below (by repeat (first|with_reducible (first|exact Below.refl _ _|apply Below.drew|apply below_alloc)|((first|with_reducible refine Below.alloc ?_ ?_ _|with_reducible refine Below.setCell ?_ ?_ _);rotate_left;focus (first|(simp <;> omega)|omega))))
   rintro e w1 ⟨rfl,hb⟩
   have HB:Hid (Below w.heap.size w _):=below_step (by repeat (first|with_reducible (first|exact Below.refl _ _|apply Below.drew|apply below_alloc)|((first|with_reducible refine Below.alloc ?_ ?_ _|with_reducible refine Below.setCell ?_ ?_ _);rotate_left;focus (first|(simp <;> omega)|omega)))) hb
   have R:Blk _ (w.heap.size+2) _ _:=Blk.step (by repeat (first|((with_reducible apply Blk.new);focus (first|rfl|(simp <;> omega)))|with_reducible (first|apply Blk.drew|apply Blk.alloc|apply Blk.set_)|((with_reducible apply Blk.far);rotate_left;focus (first|(simp <;> omega)|omega)))) hb
   obtain ⟨r0,r1,rz⟩:=cells2 R
   have rl:=Blk.lt R
   have HR:=LH R
   clear R
   clear hb
   go_wp2_with fail
   refine bodyPost_ret (v:=.tuple #[.agg #[.slice none 0 0,.slice none 0 0],.int .i64 0,.int .i64 8]) (by simp [results,Tryz.results30,go_sem,r0,r1]) rfl ⟨_,_,rfl,OwnN.zero _ _,?_⟩
   repeat (first|with_reducible (first|exact HB.out|exact Below.refl _ _|apply Below.drew|apply below_alloc)|((first|with_reducible refine Below.alloc ?_ ?_ _|with_reducible refine Below.setCell ?_ ?_ _);rotate_left;focus (first|(simp <;> omega)|omega)))
end Go.Proofs.YtdfmcgekfogpbabGreatDoor
