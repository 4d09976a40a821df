/-
  Proved here: stream.Put. stream.New. No condition.
-/
import Derived.Test.YtkkohllhebdlcaaGreatDoorY15
import Derived.Test.YtkkohllhebdlcaaGreatDoorY17
set_option maxRecDepth 100000
set_option maxRecDepth 100000
namespace Go.Proofs.YtkkohllhebdlcaaGreatDoor
open Go.RowKit
set_option maxHeartbeats 8000000 in
set_option maxRecDepth 100000 in
theorem strPut_any {v:Value} {s u:Str} {w:World} {n x:Int} {ga:Option Addr} {gn gc:Nat} (id topic:Int) (k b:ByteArray) (h:StrR w v s) (hk:strKeys s) (hu:putS s id topic k b=(u,n,x)) :
  Calls Tryz.prog 67 #[v,.agg #[.int .i64 id,.slice ga gn gc,.int .i64 topic,.string k,.string b]] w (PutEnd u n x w):=by
 have HS:=LH h
 have HK:=LH hk
 obtain ⟨a,cap,bb,nc,cc,rfl,hT,-⟩:=h.shape
 by_cases ha:askS s topic=0
 ·rw [putS,if_pos ha] at hu
  have HA:=LH ha
  obtain ⟨hm,h0,h1⟩:=askS_zero.1 ha
  have h4:=hm.1.1
  have HF:=LH (few_of_may hm)
  have HKT:=LH (hk _ (topN_mem hm h0 h1))
  obtain ⟨i,rfl⟩:∃ i:Nat,topic=(i:Int):=⟨topic.toNat,by omega⟩
  have HI:=LH (show i < s.tops.length by omega)
  obtain ⟨⟨-,hcap,hmx⟩,g,off,rfl,hat⟩:=StrR.top hT (i:=i) h0 (by omega)
  rw [show s.tops.getD (i:Int).toNat default=topN s i from rfl] at hat
  obtain ⟨t,ht⟩:∃ t,t=topN s i:=⟨_,rfl⟩
  rw [← ht] at hat hu HKT
  obtain ⟨t',y,f,hadd⟩:∃ t' y f,addP t id k b=(t',y,f):=⟨_,_,_,rfl⟩
  rw [hadd] at hu
  simp only [Int.toNat_natCast] at hu hat
  have HADD:=LH hadd
  have HU:=LH hu
  unfold maxLen at hmx
  have HAT:=LH hat
  have h5:(i:Int) < (s.tops.length:Int):=by omega
  have h6:(s.tops.length:Int)=4:=by omega
  have hgw:g < w.heap.size:=World.block_lt_of_cell? w _ hat.choose_spec.choose_spec.1.1.1.1
  clear h hk hT ha hm h4 hu ht hat hadd
  go_enter Tryz.func67,Tryz.ntmps67
  go_wp2_with fail
  refine Calls.mono (strAsked_any (i:Int) ?_ HK.out HA.out) ?_
  ·exact HS.out.below (by repeat (first|with_reducible (first|exact Below.refl _ _|apply Below.drew|apply below_alloc)|((first|with_reducible refine Below.alloc ?_ ?_ _|with_reducible refine Below.setCell ?_ ?_ _);rotate_left;focus (first|(simp <;> omega)|omega))))
  rintro e w1 ⟨rfl,hb⟩
  have HB:Hid (Below w.heap.size w _):=below_step (by repeat (first|with_reducible (first|exact Below.refl _ _|apply Below.drew|apply below_alloc)|((first|with_reducible refine Below.alloc ?_ ?_ _|with_reducible refine Below.setCell ?_ ?_ _);rotate_left;focus (first|(simp <;> omega)|omega)))) hb
  have P:Blk _ (w.heap.size) _ _:=Blk.step (by repeat (first|((with_reducible apply Blk.new);focus (first|rfl|(simp <;> omega)))|with_reducible (first|apply Blk.drew|apply Blk.alloc|apply Blk.set_)|((with_reducible apply Blk.far);rotate_left;focus (first|(simp <;> omega)|omega)))) hb
  obtain ⟨p0,p1,pz⟩:=cells2 P
  have pl:=Blk.lt P
  have HP:=LH P
  clear P
  have HM:Hid (Blk w1 (w.heap.size+1) 56 [.int .i64 id,.slice ga gn gc,.int .i64 (i:Int),.string k,.string b]):=Blk.step (by repeat (first|with_reducible exact Blk.new rfl|((with_reducible apply Blk.new);focus (first|rfl|(simp <;> omega)))|with_reducible (first|apply Blk.drew|apply Blk.alloc|apply Blk.set_)|((with_reducible apply Blk.far);rotate_left;focus (first|(simp <;> omega)|omega)))) hb
  obtain ⟨m0,m1,m2,m3,m4,mz⟩:=cells5 HM.out
  have ml:=HM.out.lt
  have R:Blk _ (w.heap.size+2) _ _:=Blk.step (by repeat (first|((with_reducible apply Blk.new);focus (first|rfl|(simp <;> omega)))|with_reducible (first|apply Blk.drew|apply Blk.alloc|apply Blk.set_)|((with_reducible apply Blk.far);rotate_left;focus (first|(simp <;> omega)|omega)))) hb
  obtain ⟨r0,r1,rz⟩:=cells2 R
  have rl:=Blk.lt R
  have HR:=LH R
  clear R
  obtain ⟨ea,ecap,⟨⟨⟨c0,c1⟩,c2⟩,c3⟩,hTT⟩:=HAT.out.keep HB.out
  have T:=LH hTT
  clear hb hTT
  go_wp2_with fail
  have KS:Hid (∀ W':World,Below w1.heap.size w1 W'→(W'.cell? ⟨w.heap.size,0,none⟩=some (.slice (some ⟨g,off,none⟩) s.tops.length cap)∧(W'.cell? ⟨w.heap.size+1,0,none⟩=some (.int .i64 id)∧W'.cell? ⟨w.heap.size+1,2,none⟩=some (.int .i64 (i:Int)))∧(W'.cell? ⟨w.heap.size+1,3,none⟩=some (.string k)∧W'.cell? ⟨w.heap.size+1,4,none⟩=some (.string b)))∧((W'.cell? ⟨g,off+i * 4,none⟩=some (.int .i64 t.base)∧W'.cell? ⟨g,off+i * 4+1,none⟩=some (.int .i64 t.next))∧W'.cell? ⟨g,off+i * 4+2,none⟩=some (.int .i64 t.mark)∧W'.cell? ⟨g,off+i * 4+3,none⟩=some (.slice ea t.ents.length ecap))):=fun W' hb=>by
   have c:=fun (p:Addr) (hp:p.block < w1.heap.size)=>hb.cell hp
   refine ⟨⟨(c _ ?_).trans p0,⟨(c _ ?_).trans m0,(c _ ?_).trans m2⟩,(c _ ?_).trans m3,(c _ ?_).trans m4⟩,⟨(c _ ?_).trans c0,(c _ ?_).trans c1⟩,(c _ ?_).trans c2,(c _ ?_).trans c3⟩ <;> (simp only [];omega)
  have KT:=KS.out w1 (Below.refl _ _)
  go_region_held3 (fun W'=>(W'.cell? ⟨w.heap.size,0,none⟩=some (.slice (some ⟨g,off,none⟩) s.tops.length cap)∧(W'.cell? ⟨w.heap.size+1,0,none⟩=some (.int .i64 id)∧W'.cell? ⟨w.heap.size+1,2,none⟩=some (.int .i64 (i:Int)))∧(W'.cell? ⟨w.heap.size+1,3,none⟩=some (.string k)∧W'.cell? ⟨w.heap.size+1,4,none⟩=some (.string b)))∧((W'.cell? ⟨g,off+i * 4,none⟩=some (.int .i64 t.base)∧W'.cell? ⟨g,off+i * 4+1,none⟩=some (.int .i64 t.next))∧W'.cell? ⟨g,off+i * 4+2,none⟩=some (.int .i64 t.mark)∧W'.cell? ⟨g,off+i * 4+3,none⟩=some (.slice ea t.ents.length ecap)))
   (first|with_reducible exact KT|(refine KS.out _ ?_;done)|(refine KS.out _ ?_;(repeat (first|with_reducible (first|exact Below.refl _ _|apply Below.drew|apply below_alloc)|((first|with_reducible refine Below.alloc ?_ ?_ _|with_reducible refine Below.setCell ?_ ?_ _);rotate_left;focus (first|(simp <;> omega)|omega))));done)|(refine KS.out _ ?_;(repeat (first|with_reducible (first|exact HQ.out|exact Below.refl _ _|apply Below.drew|apply below_alloc)|((first|with_reducible refine Below.alloc ?_ ?_ _|with_reducible refine Below.setCell ?_ ?_ _);rotate_left;focus (first|(simp <;> omega)|omega))));done))
   (first|(go_at_call 99;refine (add_any id k b (T.out.below (Below.drew (Below.refl _ _))) HKT.out HADD.out).mono ?_;rintro e w2 ⟨ad2,cp2,rfl,ow2,hb⟩;have HQ:Hid (Below w1.heap.size w1 w2):=below_step (Below.drew (Below.refl _ _)) hb;have O2:Hid (OwnE w2 w1.heap.size _ _):=LH (own_base ow2 (by simp));clear hb ow2)|(go_at_call 99;refine (add_any id k b (T.out.below (Below.drew (below_alloc (Below.refl _ _)))) HKT.out HADD.out).mono ?_;rintro e w2 ⟨ad2,cp2,rfl,ow2,hb⟩;have HQ:Hid (Below w1.heap.size w1 w2):=below_step (Below.drew (below_alloc (Below.refl _ _))) hb;have HY:=LH (Blk.step (Blk.drew (Blk.new (w:=w1) (t:=156) (cs:=[.int .i64 0,.int .i64 0,.int .i64 0,.slice none 0 0]) rfl)) hb);obtain ⟨y0,y1,y2,y3,yz⟩:=cells4 HY.out;have O2:Hid (OwnE w2 (w1.heap.size+1) _ _):=LH (own_base ow2 (by simp));clear hb ow2))
  all_goals
   have HP2:=LH (HP.out.below HQ.out pl)
   have HM2:=LH (HM.out.below HQ.out ml)
   have HR2:=LH (HR.out.below HQ.out rl)
   have HB2:Hid (Below w.heap.size w w2):=LH (HB.out.trans (HQ.out.mono (by omega)))
   have hw2:w1.heap.size≤w2.heap.size:=HQ.out.size
   clear p0 p1 pz m0 m1 m2 m3 m4 mz r0 r1 rz c0 c1 c2 c3 HP HM HR KS KT
   obtain ⟨p0,p1,pz⟩:=cells2 HP2.out
   obtain ⟨m0,m1,m2,m3,m4,mz⟩:=cells5 HM2.out
   obtain ⟨r0,r1,rz⟩:=cells2 HR2.out
   have pl2:=HP2.out.lt
   have ml2:=HM2.out.lt
   have rl2:=HR2.out.lt
   have hu:=HU.out
   by_cases hf:f=0
   ·subst hf
    simp only [if_true] at hu
    cases hu
    go_wp2_with fail
    refine Calls.mono (with_any (B:=w.heap.size) i ?_ HF.out HI.out ?_ ?_) ?_
    ·exact HS.out.below (by repeat (first|with_reducible (first|exact HB2.out|exact Below.refl _ _|apply Below.drew|apply below_alloc)|((first|with_reducible refine Below.alloc ?_ ?_ _|with_reducible refine Below.setCell ?_ ?_ _);rotate_left;focus (first|(simp <;> omega)|omega))))
    ·first
      |(refine own_base (B:=w1.heap.size+1) ?_ (by omega);(repeat (first|with_reducible (first|exact O2.out|apply own_drew|apply own_alloc)|((with_reducible apply own_set);rotate_left;focus (first|(simp <;> omega)|omega))));done)
      |(refine own_base (B:=w1.heap.size) ?_ (by omega);(repeat (first|with_reducible (first|exact O2.out|apply own_drew|apply own_alloc)|((with_reducible apply own_set);rotate_left;focus (first|(simp <;> omega)|omega))));done)
    ·first|omega|(simp;omega)
    rintro e w3 ⟨ta,tc,rfl,os,hb⟩
    obtain ⟨a3,cap3,b3,nc3,cc3,ev,-,-⟩:=os.reads.shape
    cases ev
    clear r0 r1 rz
    have HB3:Hid (Below w.heap.size w _):=below_step (by repeat (first|with_reducible (first|exact HB2.out|exact Below.refl _ _|apply Below.drew|apply below_alloc)|((first|with_reducible refine Below.alloc ?_ ?_ _|with_reducible refine Below.setCell ?_ ?_ _);rotate_left;focus (first|(simp <;> omega)|omega)))) hb
    have R:Blk _ (w.heap.size+2) _ _:=Blk.step (by repeat (first|with_reducible exact HR2.out|((with_reducible apply Blk.new);focus (first|rfl|(simp <;> omega)))|with_reducible (first|apply Blk.drew|apply Blk.alloc|apply Blk.set_)|((with_reducible apply Blk.far);rotate_left;focus (first|(simp <;> omega)|omega)))) hb
    try simp only [List.set_cons_zero,List.set_cons_succ] at R
    obtain ⟨r0,r1,rz⟩:=cells2 R
    have rl:=Blk.lt R
    have HR:=LH R
    clear R
    have e3:(s.tops.set i t').length=s.tops.length:=List.length_set ..
    have OS:Hid (OwnS w3 w.heap.size (.agg #[.slice a3 s.tops.length cap3,.slice b3 nc3 cc3]) ⟨s.tops.set i t',s.coms⟩):=LH (by rw [← e3];exact os)
    clear hb os e3
    go_wp2_with fail
    have HR3:=HR.out.set_ 0 (.slice a3 s.tops.length cap3)
    obtain ⟨t0,t1,-⟩:=cells2 (HR3.set_ 1 (.slice b3 nc3 cc3))
    refine bodyPost_ret (v:=.tuple #[.agg #[.slice a3 s.tops.length cap3,.slice b3 nc3 cc3],.int .i64 n,.int .i64 0]) (by simp [results,Tryz.results67,go_sem,t0,t1]) rfl ⟨_,_,rfl,?_,?_⟩
    ·exact (OS.out.blk HR.out (by decide) (by decide) (by decide) (by decide)).blk HR3 (by decide) (by decide) (by decide) (by decide)
    ·exact (HB3.out.setCell (p:=⟨w.heap.size+2,0,none⟩) (by simp) _).setCell (p:=⟨w.heap.size+2,1,none⟩) (by simp) _
   ·have hd:(f != 0)=true:=by simpa using hf
    rw [if_neg hf] at hu
    cases hu
    go_wp2_with fail
    first
     |(obtain ⟨t0,t1,-⟩:=cells2 (((HR2.out.set_ 0 (.slice none 0 0)).set_ 1 (.slice none 0 0)).alloc (.cells #[.int .i64 t'.base,.int .i64 t'.next,.int .i64 t'.mark,.slice ad2 t'.ents.length cp2] 156));refine bodyPost_ret (v:=.tuple #[.agg #[.slice none 0 0,.slice none 0 0],.int .i64 0,.int .i64 x]) ?_ rfl ⟨_,_,rfl,OwnS.zero _ _,?_⟩;focus (simp [results,Tryz.results67,go_sem,t0,t1];done))
     |(obtain ⟨t0,t1,-⟩:=cells2 ((((((HR2.out.far (b:=w1.heap.size) (o:=0) (by omega) (.int .i64 t'.base)).far (b:=w1.heap.size) (o:=1) (by omega) (.int .i64 t'.next)).far (b:=w1.heap.size) (o:=2) (by omega) (.int .i64 t'.mark)).far (b:=w1.heap.size) (o:=3) (by omega) (.slice ad2 t'.ents.length cp2)).set_ 0 (.slice none 0 0)).set_ 1 (.slice none 0 0));refine bodyPost_ret (v:=.tuple #[.agg #[.slice none 0 0,.slice none 0 0],.int .i64 0,.int .i64 x]) ?_ rfl ⟨_,_,rfl,OwnS.zero _ _,?_⟩;focus (simp [results,Tryz.results67,go_sem,t0,t1];done))
    repeat (first|with_reducible (first|exact HB2.out|exact Below.refl _ _|apply Below.drew|apply below_alloc)|((first|with_reducible refine Below.alloc ?_ ?_ _|with_reducible refine Below.setCell ?_ ?_ _);rotate_left;focus (first|(simp <;> omega)|omega)))
 ·rw [putS,if_neg ha] at hu
  injection hu with hx hy
  injection hy with hy hz
  subst hx
  subst hy
  have HA:=LH hz
  have hd:(x != 0)=true:=by rw [← hz];simpa using ha
  clear h hk hT ha hz
  go_enter Tryz.func67,Tryz.ntmps67
  go_wp2_with fail
  refine Calls.mono (strAsked_any topic ?_ HK.out HA.out) ?_
  ·exact HS.out.below (by repeat (first|with_reducible (first|exact Below.refl _ _|apply Below.drew|apply below_alloc)|((first|with_reducible refine Below.alloc ?_ ?_ _|with_reducible refine Below.setCell ?_ ?_ _);rotate_left;focus (first|(simp <;> omega)|omega))))
  rintro e w1 ⟨rfl,hb⟩
  have HB:Hid (Below w.heap.size w _):=below_step (by repeat (first|with_reducible (first|exact Below.refl _ _|apply Below.drew|apply below_alloc)|((first|with_reducible refine Below.alloc ?_ ?_ _|with_reducible refine Below.setCell ?_ ?_ _);rotate_left;focus (first|(simp <;> omega)|omega)))) hb
  have R:Blk _ (w.heap.size+2) _ _:=Blk.step (by repeat (first|((with_reducible apply Blk.new);focus (first|rfl|(simp <;> omega)))|with_reducible (first|apply Blk.drew|apply Blk.alloc|apply Blk.set_)|((with_reducible apply Blk.far);rotate_left;focus (first|(simp <;> omega)|omega)))) hb
  obtain ⟨r0,r1,rz⟩:=cells2 R
  have rl:=Blk.lt R
  have HR:=LH R
  clear R
  clear hb
  go_wp2_with fail
  refine bodyPost_ret (v:=.tuple #[.agg #[.slice none 0 0,.slice none 0 0],.int .i64 0,.int .i64 x]) (by simp [results,Tryz.results67,go_sem,r0,r1]) rfl ⟨_,_,rfl,OwnS.zero _ _,?_⟩
  repeat (first|with_reducible (first|exact HB.out|exact Below.refl _ _|apply Below.drew|apply below_alloc)|((first|with_reducible refine Below.alloc ?_ ?_ _|with_reducible refine Below.setCell ?_ ?_ _);rotate_left;focus (first|(simp <;> omega)|omega)))
end Go.Proofs.YtkkohllhebdlcaaGreatDoor
set_option maxRecDepth 100000
namespace Go.Proofs.YtkkohllhebdlcaaGreatDoor
open Go.RowKit
def newS:Str:=⟨List.replicate 4 Top.zero,newC⟩
set_option maxHeartbeats 8000000 in
set_option maxRecDepth 100000 in
theorem strNew_any (w:World):Calls Tryz.prog 40 #[] w (StrEnd newS w):=by
 obtain ⟨i0,hi,hz0,hz1,hz2⟩:=info_parts info_top
 go_enter Tryz.func40,Tryz.ntmps40
 go_wp2_with fail
 refine Calls.mono (comNew_any _) ?_
 rintro e w1 ⟨vc,rfl,oc,hb⟩
 obtain ⟨ac,nac,cac,rfl⟩:=oc.reads.shape
 have HB:Hid (Below w.heap.size w _):=below_step (by repeat (first|with_reducible (first|exact Below.refl _ _|apply Below.drew|apply below_alloc)|((first|with_reducible refine Below.alloc ?_ ?_ _|with_reducible refine Below.setCell ?_ ?_ _);rotate_left;focus (first|(simp <;> omega)|omega)))) hb
 have R:Blk _ (w.heap.size) _ _:=Blk.step (by repeat (first|((with_reducible apply Blk.new);focus (first|rfl|(simp <;> omega)))|with_reducible (first|apply Blk.drew|apply Blk.alloc|apply Blk.set_)|((with_reducible apply Blk.far);rotate_left;focus (first|(simp <;> omega)|omega)))) hb
 obtain ⟨r0,r1,rz⟩:=cells2 R
 have rl:=Blk.lt R
 have HR:=LH R
 clear R
 have OC:Hid (OwnC w1 (w.heap.size+1) _ _):=oc.le (by simp)
 have s1:w.heap.size+1≤w1.heap.size:=rl
 clear hb oc
 go_wp2_with fail
 go_loopg [4] 4 (fun g i wr=>∃ (k:Nat) (al:Option Addr) (capl:Nat),k≤4∧g=4 - k∧i=.int .i64 (k:Int)∧Hid (OwnT wr (w1.heap.size+1) (.slice al k capl) (List.replicate k Top.zero))∧Hid (OwnC wr (w.heap.size+1) (.slice ac nac cac) newC)∧Hid (Below w.heap.size w wr) ∧
  Hid (Blk wr w.heap.size 36 [.slice none 0 0,.slice none 0 0])∧Hid (Blk wr w1.heap.size 36 [.slice al k capl,.slice ac nac cac]))
 case atStart =>
  refine ⟨0,none,0,Nat.zero_le _,rfl,rfl,OwnT.nil _ _,OC.out.alloc _,?_,?_,?_⟩
  ·show Below _ _ _
   repeat (first|with_reducible (first|exact HB.out|exact Below.refl _ _|apply Below.drew|apply below_alloc)|((first|with_reducible refine Below.alloc ?_ ?_ _|with_reducible refine Below.setCell ?_ ?_ _);rotate_left;focus (first|(simp <;> omega)|omega)))
  ·show Blk _ _ _ _
   repeat (first|with_reducible exact HR.out|((with_reducible apply Blk.new);focus (first|rfl|(simp <;> omega)))|with_reducible (first|apply Blk.drew|apply Blk.alloc|apply Blk.set_)|((with_reducible apply Blk.far);rotate_left;focus (first|(simp <;> omega)|omega)))
  ·show Blk _ _ _ _
   exact Blk.new rfl
 case round =>
  clear OC HB HR r0 r1 rz rl
  obtain ⟨k,al,capl,hk,rfl,rfl,OT,OC,HB,HR,HQ⟩:=hrel
  obtain ⟨q0,q1,qz⟩:=cells2 HQ.out
  obtain ⟨r0,r1,rz⟩:=cells2 HR.out
  have ql:=HQ.out.lt
  have rl:=HR.out.lt
  by_cases hlt:k < 4
  ·have hk0:(0:Int)≤(k:Int):=by omega
   have hk1:(k:Int) < 4:=by omega
   have hlk:(List.replicate k Top.zero).length=k:=List.length_replicate
   have HLK:=LH hlk
   obtain ⟨ps,hpl,hrow,hent⟩:=OT.out
   rw [hlk] at hrow
   have HROW:=LH hrow
   have HPL:=LH hpl
   have HENT:=LH hent
   clear hlk hpl hrow hent
   go_wp2_with fail
   go_region_law (first|(go_simp;go_at_call 64;refine (new_any _).mono ?_;rintro e w4 ⟨rfl,hb⟩;have HQ4:=LH (Blk.step (Blk.drew HQ.out) hb);have HW4:Hid (Below wr.heap.size wr w4):=below_step (by repeat (first|with_reducible (first|exact Below.refl _ _|apply Below.drew|apply below_alloc)|((first|with_reducible refine Below.alloc ?_ ?_ _|with_reducible refine Below.setCell ?_ ?_ _);rotate_left;focus (first|(simp <;> omega)|omega)))) hb;have hz4:wr.heap.size≤w4.heap.size:=HW4.out.size;have hy4:w1.heap.size < w4.heap.size:=HQ4.out.lt;obtain ⟨m0,m1,mz⟩:=cells2 HQ4.out;clear hb)|(refine step_append_lies _ rfl _ _ 33 rfl (w1.heap.size+1) 156 i0 _ 4 48 Tryz.underlying33 hi hz0 hz1 hz2 rfl (by decide) _ k _ rfl ((ownsRow_keep HROW.out HW4.out).alloc _) ⟨w4.heap.size,0,none⟩ 1 1 (topCells (.slice none 0 0,Top.zero)) rfl rfl (news_top _ Top.zero rfl) (topCells_one _ _ _ Top.zero) (by decide) (by unfold maxLen;omega) (by omega) (by simp;omega) _ rfl ?_;intro g5 cap5 w5 hown hgrow hat5 hlt5;have HQ5:=LH (Blk.grown (HQ4.out.alloc _) hgrow (fun e=>Nat.lt_irrefl _ (HROW.out.lt _ e).1));obtain ⟨m0,m1,mz⟩:=cells2 HQ5.out))
   all_goals
    have OT5:Hid (OwnT w5 (w1.heap.size+1) (.slice (some ⟨g5,0,none⟩) (k+1) cap5) (List.replicate (k+1) Top.zero)):=by
     rw [List.replicate_succ']
     exact OwnT.snoc2 HPL.out ((ownsRow_keep HROW.out HW4.out).alloc _) (fun p hp=>own_below (own_below (HENT.out p hp) HW4.out) ((Below.refl _ _).alloc (Nat.le_refl _) _)) (World.ownsRow_nil _ _ _ _) hgrow hown HLK.out.symm
    have OC5:=LH (OwnC.grown (OwnC.alloc (show OwnC w4 _ _ _ from OC.out.keep HW4.out) _) hgrow ((ownsRow_keep HROW.out HW4.out).alloc _) rfl (by decide) (by decide))
    have HB5:Hid (Below w.heap.size w w5):=Below.grown ((Below.step HB.out HW4.out (by omega)).alloc (by omega) _) hgrow (by simp;omega) (fun j hj=>by have:=(HROW.out.lt j hj).1;omega)
    have HR5:=LH (Blk.grown ((HR.out.step HW4.out).alloc _) hgrow (fun e=>by have:=(HROW.out.lt _ e).1;omega))
    have hl5:w1.heap.size < w5.heap.size:=HQ5.out.lt
    clear hown hgrow
    go_wp2_with fail
    go_roundg (4 - (k+1))
    case measure=>omega
    case rel =>
     refine ⟨k+1,some ⟨g5,0,none⟩,cap5,by omega,rfl,by go_num,?_,?_,?_,?_,?_⟩
     ·show OwnT _ _ _ _
      exact OT5.out.far (by omega)
     ·exact LH (OwnC.blk OC5.out HQ5.out (by decide) (by decide))
     ·show Below _ _ _
      exact HB5.out.setCell (by show w.heap.size≤w1.heap.size;omega) _
     ·show Blk _ _ _ _
      exact HR5.out.far (by omega) _
     ·show Blk _ _ _ _
      exact HQ5.out.set_ 0 _
  ·obtain rfl:k=4:=by omega
   go_wp2_with fail
   obtain ⟨t0,t1,-⟩:=cells2 ((HR.out.set_ 0 (.slice al 4 capl)).set_ 1 (.slice ac nac cac))
   refine bodyPost_ret (v:=.agg #[.slice al 4 capl,.slice ac nac cac]) (by simp [results,Tryz.results40,go_sem,t0,t1]) rfl ⟨_,_,rfl,⟨_,_,rfl,?_,?_⟩,?_⟩
   ·exact OwnT.le ((OT.out.far (by omega)).far (by omega)) (by omega)
   ·exact OwnRows.le (OwnC.far (OwnC.far OC.out (by omega)) (by omega)) (by omega)
   ·exact (HB.out.setCell (by simp) _).setCell (by simp) _
end Go.Proofs.YtkkohllhebdlcaaGreatDoor
