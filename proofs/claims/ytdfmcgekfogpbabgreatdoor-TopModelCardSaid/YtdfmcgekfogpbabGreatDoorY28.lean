/-
  Proved here: stream.Do. command's reader: one kind of commands. No condition but the kind. command's reader: one kind of commands. No condition but the kind.
-/
import Derived.Test.YtdfmcgekfogpbabGreatDoorY21
import Derived.Test.YtdfmcgekfogpbabGreatDoorY24
import Derived.Test.YtdfmcgekfogpbabGreatDoorY25
set_option maxRecDepth 100000
set_option maxRecDepth 100000
namespace Go.Proofs.YtdfmcgekfogpbabGreatDoor
open Go.RowKit
set_option maxHeartbeats 8000000 in
set_option maxRecDepth 100000 in
theorem strDo_any {v:Value} {s u:Str} {w:World} {x kind mid mt id time:Int} {ga ma:Option Addr} {gn gc mn mc:Nat} {mk mb:ByteArray} (topic who n:Int) (h:StrR w v s) (hk:strKeys s) (hu:doS s kind topic who n=(u,x)) :
  Calls Tryz.prog 87 #[v,.agg #[.int .u8 kind,.int .i64 mid,.slice ga gn gc,.int .i64 mt,.string mk,.string mb,.int .i64 id,.int .i64 time,.slice ma mn mc,.int .i64 topic,.int .i64 who,.int .i64 n]] w (DoEnd u x w):=by
 have HS:=LH h
 have HK:=LH hk
 obtain ⟨a,cap,bb,nc,cc,rfl,hT,-⟩:=h.shape
 by_cases ha:askS s topic=0
 ·rw [doS,if_pos ha] at hu
  have HA:=LH ha
  by_cases k4:kind=4
  ·rw [if_pos k4] at hu
   subst k4
   have HU:=LH hu
   clear h hk hT ha hu
   go_enter Tryz.func87,Tryz.ntmps87
   go_wp2_with fail
   refine Calls.mono (strAsked_any topic ?_ HK.out HA.out) ?_
   ·exact HS.out.below (by repeat (first|with_reducible (first|exact Below.refl _ _|apply Below.drew|apply below_alloc)|((first|with_reducible refine Below.alloc ?_ ?_ _|with_reducible refine Below.setCell ?_ ?_ _);rotate_left;focus (first|(simp <;> omega)|omega))))
   rintro e w1 ⟨rfl,hb⟩
   have HB:Hid (Below w.heap.size w _):=below_step (by repeat (first|with_reducible (first|exact Below.refl _ _|apply Below.drew|apply below_alloc)|((first|with_reducible refine Below.alloc ?_ ?_ _|with_reducible refine Below.setCell ?_ ?_ _);rotate_left;focus (first|(simp <;> omega)|omega)))) hb
   have P:Blk _ (w.heap.size) _ _:=Blk.step (by repeat (first|((with_reducible apply Blk.new);focus (first|rfl|(simp <;> omega)))|with_reducible (first|apply Blk.drew|apply Blk.alloc|apply Blk.set_)|((with_reducible apply Blk.far);rotate_left;focus (first|(simp <;> omega)|omega)))) hb
   obtain ⟨p0,p1,pz⟩:=cells2 P
   have pl:=Blk.lt P
   have HP:=LH P
   clear P
   have HC:Hid (Blk w1 (w.heap.size+1) 79 [.int .u8 4,.int .i64 mid,.slice ga gn gc,.int .i64 mt,.string mk,.string mb,.int .i64 id,.int .i64 time,.slice ma mn mc,.int .i64 topic,.int .i64 who,.int .i64 n]):=Blk.step (by repeat (first|with_reducible exact Blk.new rfl|((with_reducible apply Blk.new);focus (first|rfl|(simp <;> omega)))|with_reducible (first|apply Blk.drew|apply Blk.alloc|apply Blk.set_)|((with_reducible apply Blk.far);rotate_left;focus (first|(simp <;> omega)|omega)))) hb
   have R:Blk _ (w.heap.size+2) _ _:=Blk.step (by repeat (first|((with_reducible apply Blk.new);focus (first|rfl|(simp <;> omega)))|with_reducible (first|apply Blk.drew|apply Blk.alloc|apply Blk.set_)|((with_reducible apply Blk.far);rotate_left;focus (first|(simp <;> omega)|omega)))) hb
   obtain ⟨r0,r1,rz⟩:=cells2 R
   have rl:=Blk.lt R
   have HR:=LH R
   clear R
   obtain ⟨⟨⟨d0,d1,d2,d3⟩,⟨d4,d5,d6,d7⟩,d8,d9,d10,d11⟩,dz⟩:=cells12 HC.out
   have cl:=HC.out.lt
   clear hb
   go_wp2_with fail
   refine Calls.mono (strCommit_any topic who n ?_ HA.out HU.out) ?_
   ·exact HS.out.below (by repeat (first|with_reducible (first|exact HB.out|exact Below.refl _ _|apply Below.drew|apply below_alloc)|((first|with_reducible refine Below.alloc ?_ ?_ _|with_reducible refine Below.setCell ?_ ?_ _);rotate_left;focus (first|(simp <;> omega)|omega))))
   rintro e w2 ⟨ta,tc,rfl,os,hb⟩
   obtain ⟨a3,cap3,b3,nc3,cc3,ev,-,-⟩:=os.reads.shape
   cases ev
   clear p0 p1 pz pl d0 d1 d2 d3 d4 d5 d6 d7 d8 d9 d10 d11 dz cl r0 r1 rz
   have HB2:Hid (Below w.heap.size w _):=below_step (by repeat (first|with_reducible (first|exact HB.out|exact Below.refl _ _|apply Below.drew|apply below_alloc)|((first|with_reducible refine Below.alloc ?_ ?_ _|with_reducible refine Below.setCell ?_ ?_ _);rotate_left;focus (first|(simp <;> omega)|omega)))) hb
   have hz:w.heap.size+2 < w1.heap.size:=rl
   clear rl
   have R:Blk _ (w.heap.size+2) _ _:=Blk.step (by repeat (first|with_reducible exact HR.out|((with_reducible apply Blk.new);focus (first|rfl|(simp <;> omega)))|with_reducible (first|apply Blk.drew|apply Blk.alloc|apply Blk.set_)|((with_reducible apply Blk.far);rotate_left;focus (first|(simp <;> omega)|omega)))) hb
   try simp only [List.set_cons_zero,List.set_cons_succ] at R
   obtain ⟨r0,r1,rz⟩:=cells2 R
   have rl:=Blk.lt R
   have HR:=LH R
   clear R
   have OS:Hid (OwnS w2 w.heap.size _ u):=LH (os.le (by omega))
   clear hb os
   go_wp2_with fail
   have HR3:=HR.out.set_ 0 (.slice a3 u.tops.length cap3)
   obtain ⟨t0,t1,-⟩:=cells2 (HR3.set_ 1 (.slice b3 nc3 cc3))
   refine bodyPost_ret (v:=.tuple #[.agg #[.slice a3 u.tops.length cap3,.slice b3 nc3 cc3],.int .i64 x]) (by simp [results,Tryz.results87,go_sem,t0,t1]) rfl ⟨_,_,rfl,?_,?_⟩
   ·exact (OS.out.blk HR.out (by decide) (by decide) (by decide) (by decide)).blk HR3 (by decide) (by decide) (by decide) (by decide)
   ·exact (HB2.out.setCell (p:=⟨w.heap.size+2,0,none⟩) (by simp) _).setCell (p:=⟨w.heap.size+2,1,none⟩) (by simp) _
  ·rw [if_neg k4] at hu
   have hd4:¬ kind=4:=k4
   by_cases k56:kind=5∨kind=6
   ·obtain ⟨r,hr⟩:∃ r,(if kind=5 then trimP (topN s topic) n else compactP (topN s topic) n)=r:=⟨_,rfl⟩
    have hu':turnS s topic r=(u,x):=by
     rw [← hr]
     rcases k56 with k|k
     ·rw [if_pos k] at hu ⊢;exact hu
     ·rw [if_neg (by omega:¬ kind=5),if_pos k] at hu;rw [if_neg (by omega:¬ kind=5)];exact hu
    obtain ⟨t',f⟩:=r
    obtain ⟨hm,h0,h1⟩:=askS_zero.1 ha
    have h4:=hm.1.1
    have HF:=LH (few_of_may hm)
    have HKT:=LH (hk _ (topN_mem hm h0 h1))
    obtain ⟨i,rfl⟩:∃ i:Nat,topic=(i:Int):=⟨topic.toNat,by omega⟩
    have HI:=LH (show i < s.tops.length by omega)
    obtain ⟨⟨-,hcap,hmx⟩,g,off,rfl,hat⟩:=StrR.top hT (i:=i) h0 (by omega)
    rw [show s.tops.getD (i:Int).toNat default=topN s i from rfl] at hat
    obtain ⟨t,ht⟩:∃ t,t=topN s i:=⟨_,rfl⟩
    rw [← ht] at hat hr HKT
    rw [turnS] at hu'
    simp only [Int.toNat_natCast] at hu' hat
    have HU:=LH hu'
    unfold maxLen at hmx
    have HAT:=LH hat
    have h5:(i:Int) < (s.tops.length:Int):=by omega
    have h6:(s.tops.length:Int)=4:=by omega
    have hgw:g < w.heap.size:=World.block_lt_of_cell? w _ hat.choose_spec.choose_spec.1.1.1.1
    have HR0:=LH hr
    have HK56:=LH k56
    clear h hk hT ha hm h4 hu hu' ht hat hr k56 hd4 k4
    rcases HK56.out with rfl|rfl
    all_goals
     first
      |(have CT:Hid (∀ W:World,∀ {v:Value},TopR W v t→Calls Tryz.prog 128 #[v,.int .i64 n] W (TopEnd1 t' f W)):=LH (fun W v hW=>trim_any n hW HKT.out (by have:=HR0.out;rwa [if_pos rfl] at this)))
      |(have CT:Hid (∀ W:World,∀ {v:Value},TopR W v t→Calls Tryz.prog 129 #[v,.int .i64 n] W (TopEnd1 t' f W)):=LH (fun W v hW=>compact_any n hW HKT.out (by have:=HR0.out;rwa [if_neg (by decide)] at this)))
     go_enter Tryz.func87,Tryz.ntmps87
     go_wp2_with fail
     refine Calls.mono (strAsked_any (i:Int) ?_ HK.out HA.out) ?_
     ·exact HS.out.below (by repeat (first|with_reducible (first|exact Below.refl _ _|apply Below.drew|apply below_alloc)|((first|with_reducible refine Below.alloc ?_ ?_ _|with_reducible refine Below.setCell ?_ ?_ _);rotate_left;focus (first|(simp <;> omega)|omega))))
     rintro e w1 ⟨rfl,hb⟩
     have HB:Hid (Below w.heap.size w _):=below_step (by repeat (first|with_reducible (first|exact Below.refl _ _|apply Below.drew|apply below_alloc)|((first|with_reducible refine Below.alloc ?_ ?_ _|with_reducible refine Below.setCell ?_ ?_ _);rotate_left;focus (first|(simp <;> omega)|omega)))) hb
     have P:Blk _ (w.heap.size) _ _:=Blk.step (by repeat (first|((with_reducible apply Blk.new);focus (first|rfl|(simp <;> omega)))|with_reducible (first|apply Blk.drew|apply Blk.alloc|apply Blk.set_)|((with_reducible apply Blk.far);rotate_left;focus (first|(simp <;> omega)|omega)))) hb
     obtain ⟨p0,p1,pz⟩:=cells2 P
     have pl:=Blk.lt P
     have HP:=LH P
     clear P
     have HC:Hid (Blk w1 (w.heap.size+1) 79 _):=Blk.step (by repeat (first|with_reducible exact Blk.new rfl|((with_reducible apply Blk.new);focus (first|rfl|(simp <;> omega)))|with_reducible (first|apply Blk.drew|apply Blk.alloc|apply Blk.set_)|((with_reducible apply Blk.far);rotate_left;focus (first|(simp <;> omega)|omega)))) hb
     have R:Blk _ (w.heap.size+2) _ _:=Blk.step (by repeat (first|((with_reducible apply Blk.new);focus (first|rfl|(simp <;> omega)))|with_reducible (first|apply Blk.drew|apply Blk.alloc|apply Blk.set_)|((with_reducible apply Blk.far);rotate_left;focus (first|(simp <;> omega)|omega)))) hb
     obtain ⟨r0,r1,rz⟩:=cells2 R
     have rl:=Blk.lt R
     have HR:=LH R
     clear R
     obtain ⟨⟨⟨d0,d1,d2,d3⟩,⟨d4,d5,d6,d7⟩,d8,d9,d10,d11⟩,dz⟩:=cells12 HC.out
     have cl:=HC.out.lt
     clear d1 d2 d3 d4 d5 d6 d7 d8 d10
     obtain ⟨ea,ecap,⟨⟨⟨c0,c1⟩,c2⟩,c3⟩,hTT⟩:=HAT.out.keep HB.out
     have T:=LH hTT
     clear hb hTT
     go_wp2_with fail
     have KS:Hid (∀ W':World,Below w1.heap.size w1 W'→(W'.cell? ⟨w.heap.size,0,none⟩=some (.slice (some ⟨g,off,none⟩) s.tops.length cap)∧(W'.cell? ⟨w.heap.size+1,9,none⟩=some (.int .i64 (i:Int))∧W'.cell? ⟨w.heap.size+1,11,none⟩=some (.int .i64 n)))∧((W'.cell? ⟨g,off+i * 4,none⟩=some (.int .i64 t.base)∧W'.cell? ⟨g,off+i * 4+1,none⟩=some (.int .i64 t.next))∧W'.cell? ⟨g,off+i * 4+2,none⟩=some (.int .i64 t.mark)∧W'.cell? ⟨g,off+i * 4+3,none⟩=some (.slice ea t.ents.length ecap))):=fun W' hb=>by
      have c:=fun (p:Addr) (hp:p.block < w1.heap.size)=>hb.cell hp
      refine ⟨⟨(c _ ?_).trans p0,(c _ ?_).trans d9,(c _ ?_).trans d11⟩,⟨(c _ ?_).trans c0,(c _ ?_).trans c1⟩,(c _ ?_).trans c2,(c _ ?_).trans c3⟩ <;> (simp only [];omega)
     have KT:=KS.out w1 (Below.refl _ _)
     go_region_held3 (fun W'=>(W'.cell? ⟨w.heap.size,0,none⟩=some (.slice (some ⟨g,off,none⟩) s.tops.length cap)∧(W'.cell? ⟨w.heap.size+1,9,none⟩=some (.int .i64 (i:Int))∧W'.cell? ⟨w.heap.size+1,11,none⟩=some (.int .i64 n)))∧((W'.cell? ⟨g,off+i * 4,none⟩=some (.int .i64 t.base)∧W'.cell? ⟨g,off+i * 4+1,none⟩=some (.int .i64 t.next))∧W'.cell? ⟨g,off+i * 4+2,none⟩=some (.int .i64 t.mark)∧W'.cell? ⟨g,off+i * 4+3,none⟩=some (.slice ea t.ents.length ecap)))
      (first|with_reducible exact KT|(refine KS.out _ ?_;done)|(refine KS.out _ ?_;(repeat (first|with_reducible (first|exact Below.refl _ _|apply Below.drew|apply below_alloc)|((first|with_reducible refine Below.alloc ?_ ?_ _|with_reducible refine Below.setCell ?_ ?_ _);rotate_left;focus (first|(simp <;> omega)|omega))));done)|(refine KS.out _ ?_;(repeat (first|with_reducible (first|exact HQ.out|exact Below.refl _ _|apply Below.drew|apply below_alloc)|((first|with_reducible refine Below.alloc ?_ ?_ _|with_reducible refine Below.setCell ?_ ?_ _);rotate_left;focus (first|(simp <;> omega)|omega))));done))
      (first|(go_at_call 128;refine (CT.out _ (T.out.below (Below.drew (Below.refl _ _)))).mono ?_;rintro e w2 ⟨ad2,cp2,rfl,ow2,hb⟩;have HQ:Hid (Below w1.heap.size w1 w2):=below_step (Below.drew (Below.refl _ _)) hb;have O2:Hid (OwnE w2 w1.heap.size _ _):=LH (own_base ow2 (by simp));clear hb ow2)|(go_at_call 128;refine (CT.out _ (T.out.below (Below.drew (below_alloc (Below.refl _ _))))).mono ?_;rintro e w2 ⟨ad2,cp2,rfl,ow2,hb⟩;have HQ:Hid (Below w1.heap.size w1 w2):=below_step (Below.drew (below_alloc (Below.refl _ _))) hb;have HY:=LH (Blk.step (Blk.drew (Blk.new (w:=w1) (t:=103) (cs:=[.int .i64 0,.int .i64 0,.int .i64 0,.slice none 0 0]) rfl)) hb);obtain ⟨y0,y1,y2,y3,yz⟩:=cells4 HY.out;have O2:Hid (OwnE w2 (w1.heap.size+1) _ _):=LH (own_base ow2 (by simp));clear hb ow2)|(go_at_call 129;refine (CT.out _ (T.out.below (Below.drew (Below.refl _ _)))).mono ?_;rintro e w2 ⟨ad2,cp2,rfl,ow2,hb⟩;have HQ:Hid (Below w1.heap.size w1 w2):=below_step (Below.drew (Below.refl _ _)) hb;have O2:Hid (OwnE w2 w1.heap.size _ _):=LH (own_base ow2 (by simp));clear hb ow2)|(go_at_call 129;refine (CT.out _ (T.out.below (Below.drew (below_alloc (Below.refl _ _))))).mono ?_;rintro e w2 ⟨ad2,cp2,rfl,ow2,hb⟩;have HQ:Hid (Below w1.heap.size w1 w2):=below_step (Below.drew (below_alloc (Below.refl _ _))) hb;have HY:=LH (Blk.step (Blk.drew (Blk.new (w:=w1) (t:=103) (cs:=[.int .i64 0,.int .i64 0,.int .i64 0,.slice none 0 0]) rfl)) hb);obtain ⟨y0,y1,y2,y3,yz⟩:=cells4 HY.out;have O2:Hid (OwnE w2 (w1.heap.size+1) _ _):=LH (own_base ow2 (by simp));clear hb ow2))
     all_goals
      have HP2:=LH (HP.out.below HQ.out pl)
      have HC2:=LH (HC.out.below HQ.out cl)
      have HR2:=LH (HR.out.below HQ.out rl)
      have HB2:Hid (Below w.heap.size w w2):=LH (HB.out.trans (HQ.out.mono (by omega)))
      have hw2:w1.heap.size≤w2.heap.size:=HQ.out.size
      clear p0 p1 pz d0 d9 d11 dz r0 r1 rz c0 c1 c2 c3 HP HC HR KS KT
      obtain ⟨p0,p1,pz⟩:=cells2 HP2.out
      obtain ⟨⟨-,-,-,d9,-,-⟩,dz⟩:=cells12 HC2.out
      obtain ⟨r0,r1,rz⟩:=cells2 HR2.out
      have pl2:=HP2.out.lt
      have cl2:=HC2.out.lt
      have rl2:=HR2.out.lt
      have hu:=HU.out
      by_cases hf:f=0
      ·subst hf
       simp only [if_true] at hu
       cases hu
       go_wp2_with fail
       refine Calls.mono (with_any (B:=w.heap.size) i ?_ HF.out HI.out ?_ ?_) ?_
       ·exact HS.out.below (by repeat (first|with_reducible (first|exact HB2.out|exact Below.refl _ _|apply Below.drew|apply below_alloc)|((first|with_reducible refine Below.alloc ?_ ?_ _|with_reducible refine Below.setCell ?_ ?_ _);rotate_left;focus (first|(simp <;> omega)|omega))))
       ·first
         |(refine own_base (B:=w1.heap.size+1) ?_ (by omega);(repeat (first|with_reducible (first|exact O2.out|apply own_drew|apply own_alloc)|((with_reducible apply own_set);rotate_left;focus (first|(simp <;> omega)|omega))));done)
         |(refine own_base (B:=w1.heap.size) ?_ (by omega);(repeat (first|with_reducible (first|exact O2.out|apply own_drew|apply own_alloc)|((with_reducible apply own_set);rotate_left;focus (first|(simp <;> omega)|omega))));done)
       ·first|omega|(simp;omega)
       rintro e w3 ⟨ta,tc,rfl,os,hb⟩
       obtain ⟨a3,cap3,b3,nc3,cc3,ev,-,-⟩:=os.reads.shape
       cases ev
       clear r0 r1 rz
       have HB3:Hid (Below w.heap.size w _):=below_step (by repeat (first|with_reducible (first|exact HB2.out|exact Below.refl _ _|apply Below.drew|apply below_alloc)|((first|with_reducible refine Below.alloc ?_ ?_ _|with_reducible refine Below.setCell ?_ ?_ _);rotate_left;focus (first|(simp <;> omega)|omega)))) hb
       have R:Blk _ (w.heap.size+2) _ _:=Blk.step (by repeat (first|with_reducible exact HR2.out|((with_reducible apply Blk.new);focus (first|rfl|(simp <;> omega)))|with_reducible (first|apply Blk.drew|apply Blk.alloc|apply Blk.set_)|((with_reducible apply Blk.far);rotate_left;focus (first|(simp <;> omega)|omega)))) hb
       try simp only [List.set_cons_zero,List.set_cons_succ] at R
       obtain ⟨r0,r1,rz⟩:=cells2 R
       have rl:=Blk.lt R
       have HR:=LH R
       clear R
       have e3:(s.tops.set i t').length=s.tops.length:=List.length_set ..
       have OS:Hid (OwnS w3 w.heap.size (.agg #[.slice a3 s.tops.length cap3,.slice b3 nc3 cc3]) ⟨s.tops.set i t',s.coms⟩):=LH (by rw [← e3];exact os)
       clear hb os e3
       go_wp2_with fail
       have HR3:=HR.out.set_ 0 (.slice a3 s.tops.length cap3)
       obtain ⟨t0,t1,-⟩:=cells2 (HR3.set_ 1 (.slice b3 nc3 cc3))
       refine bodyPost_ret (v:=.tuple #[.agg #[.slice a3 s.tops.length cap3,.slice b3 nc3 cc3],.int .i64 0]) (by simp [results,Tryz.results87,go_sem,t0,t1]) rfl ⟨_,_,rfl,?_,?_⟩
       ·exact (OS.out.blk HR.out (by decide) (by decide) (by decide) (by decide)).blk HR3 (by decide) (by decide) (by decide) (by decide)
       ·exact (HB3.out.setCell (p:=⟨w.heap.size+2,0,none⟩) (by simp) _).setCell (p:=⟨w.heap.size+2,1,none⟩) (by simp) _
      ·have hd:(f != 0)=true:=by simpa using hf
       rw [if_neg hf] at hu
       cases hu
       go_wp2_with fail
       first
        |(obtain ⟨t0,t1,-⟩:=cells2 (((HR2.out.set_ 0 (.slice none 0 0)).set_ 1 (.slice none 0 0)).alloc (.cells #[.int .i64 t'.base,.int .i64 t'.next,.int .i64 t'.mark,.slice ad2 t'.ents.length cp2] 103));refine bodyPost_ret (v:=.tuple #[.agg #[.slice none 0 0,.slice none 0 0],.int .i64 x]) ?_ rfl ⟨_,_,rfl,OwnS.zero _ _,?_⟩;focus (simp [results,Tryz.results87,go_sem,t0,t1];done))
        |(obtain ⟨t0,t1,-⟩:=cells2 ((((((HR2.out.far (b:=w1.heap.size) (o:=0) (by omega) (.int .i64 t'.base)).far (b:=w1.heap.size) (o:=1) (by omega) (.int .i64 t'.next)).far (b:=w1.heap.size) (o:=2) (by omega) (.int .i64 t'.mark)).far (b:=w1.heap.size) (o:=3) (by omega) (.slice ad2 t'.ents.length cp2)).set_ 0 (.slice none 0 0)).set_ 1 (.slice none 0 0));refine bodyPost_ret (v:=.tuple #[.agg #[.slice none 0 0,.slice none 0 0],.int .i64 x]) ?_ rfl ⟨_,_,rfl,OwnS.zero _ _,?_⟩;focus (simp [results,Tryz.results87,go_sem,t0,t1];done))
       repeat (first|with_reducible (first|exact HB2.out|exact Below.refl _ _|apply Below.drew|apply below_alloc)|((first|with_reducible refine Below.alloc ?_ ?_ _|with_reducible refine Below.setCell ?_ ?_ _);rotate_left;focus (first|(simp <;> omega)|omega)))
   ·have k5:¬ kind=5:=by omega
    have k6:¬ kind=6:=by omega
    rw [if_neg k5,if_neg k6] at hu
    cases hu
    clear h hk hT ha k56 hd4
    go_enter Tryz.func87,Tryz.ntmps87
    go_wp2_with fail
    refine Calls.mono (strAsked_any topic ?_ HK.out HA.out) ?_
    ·exact HS.out.below (by repeat (first|with_reducible (first|exact Below.refl _ _|apply Below.drew|apply below_alloc)|((first|with_reducible refine Below.alloc ?_ ?_ _|with_reducible refine Below.setCell ?_ ?_ _);rotate_left;focus (first|(simp <;> omega)|omega))))
    rintro e w1 ⟨rfl,hb⟩
    have HB:Hid (Below w.heap.size w _):=below_step (by repeat (first|with_reducible (first|exact Below.refl _ _|apply Below.drew|apply below_alloc)|((first|with_reducible refine Below.alloc ?_ ?_ _|with_reducible refine Below.setCell ?_ ?_ _);rotate_left;focus (first|(simp <;> omega)|omega)))) hb
    have HC:Hid (Blk w1 (w.heap.size+1) 79 _):=Blk.step (by repeat (first|with_reducible exact Blk.new rfl|((with_reducible apply Blk.new);focus (first|rfl|(simp <;> omega)))|with_reducible (first|apply Blk.drew|apply Blk.alloc|apply Blk.set_)|((with_reducible apply Blk.far);rotate_left;focus (first|(simp <;> omega)|omega)))) hb
    have R:Blk _ (w.heap.size+2) _ _:=Blk.step (by repeat (first|((with_reducible apply Blk.new);focus (first|rfl|(simp <;> omega)))|with_reducible (first|apply Blk.drew|apply Blk.alloc|apply Blk.set_)|((with_reducible apply Blk.far);rotate_left;focus (first|(simp <;> omega)|omega)))) hb
    obtain ⟨r0,r1,rz⟩:=cells2 R
    have rl:=Blk.lt R
    have HR:=LH R
    clear R
    obtain ⟨⟨⟨d0,-,-,-⟩,-,-,-,-,-⟩,dz⟩:=cells12 HC.out
    clear hb
    go_wp2_with fail
    refine bodyPost_ret (v:=.tuple #[.agg #[.slice none 0 0,.slice none 0 0],.int .i64 2]) (by simp [results,Tryz.results87,go_sem,r0,r1]) rfl ⟨_,_,rfl,OwnS.zero _ _,?_⟩
    repeat (first|with_reducible (first|exact HB.out|exact Below.refl _ _|apply Below.drew|apply below_alloc)|((first|with_reducible refine Below.alloc ?_ ?_ _|with_reducible refine Below.setCell ?_ ?_ _);rotate_left;focus (first|(simp <;> omega)|omega)))
 ·rw [doS,if_neg ha] at hu
  injection hu with hx hz
  subst hx
  have HA:=LH hz
  have hd:(x != 0)=true:=by rw [← hz];simpa using ha
  clear h hk hT ha hz
  go_enter Tryz.func87,Tryz.ntmps87
  go_wp2_with fail
  refine Calls.mono (strAsked_any topic ?_ HK.out HA.out) ?_
  ·exact HS.out.below (by repeat (first|with_reducible (first|exact Below.refl _ _|apply Below.drew|apply below_alloc)|((first|with_reducible refine Below.alloc ?_ ?_ _|with_reducible refine Below.setCell ?_ ?_ _);rotate_left;focus (first|(simp <;> omega)|omega))))
  rintro e w1 ⟨rfl,hb⟩
  have HB:Hid (Below w.heap.size w _):=below_step (by repeat (first|with_reducible (first|exact Below.refl _ _|apply Below.drew|apply below_alloc)|((first|with_reducible refine Below.alloc ?_ ?_ _|with_reducible refine Below.setCell ?_ ?_ _);rotate_left;focus (first|(simp <;> omega)|omega)))) hb
  have R:Blk _ (w.heap.size+2) _ _:=Blk.step (by repeat (first|((with_reducible apply Blk.new);focus (first|rfl|(simp <;> omega)))|with_reducible (first|apply Blk.drew|apply Blk.alloc|apply Blk.set_)|((with_reducible apply Blk.far);rotate_left;focus (first|(simp <;> omega)|omega)))) hb
  obtain ⟨r0,r1,rz⟩:=cells2 R
  have rl:=Blk.lt R
  have HR:=LH R
  clear R
  clear hb
  go_wp2_with fail
  refine bodyPost_ret (v:=.tuple #[.agg #[.slice none 0 0,.slice none 0 0],.int .i64 x]) (by simp [results,Tryz.results87,go_sem,r0,r1]) rfl ⟨_,_,rfl,OwnS.zero _ _,?_⟩
  repeat (first|with_reducible (first|exact HB.out|exact Below.refl _ _|apply Below.drew|apply below_alloc)|((first|with_reducible refine Below.alloc ?_ ?_ _|with_reducible refine Below.setCell ?_ ?_ _);rotate_left;focus (first|(simp <;> omega)|omega)))
set_option maxHeartbeats 8000000 in
set_option maxRecDepth 100000 in
theorem rd_k6 {w0 w:World} {g:Nat} {l:List Int} {o:Bool} {k:Int} (h:RdS w0 w g l o) (hk:k=min (nN l) 255) (hkk:k=6) {c:PC} {l':List Int} {o':Bool} (hr:rd56 6 (nL l) (nO l o)=(c,l',o')) :
  Calls Tryz.prog 53 #[.pointer (some ⟨g,0,none⟩)] w (RdCEnd w0 g c l' o' w):=by
 obtain ⟨n0,hn0⟩:∃ n,n=nN l:=⟨_,rfl⟩
 obtain ⟨l0,hl0⟩:∃ x,x=nL l:=⟨_,rfl⟩
 obtain ⟨o0,ho0⟩:∃ x,x=nO l o:=⟨_,rfl⟩
 have hpos:=nN_pos l
 rw [← hn0] at hk hpos
 rw [← hl0,← ho0] at hr
 have gl:g < w.heap.size:=by obtain ⟨_,_,hb,_⟩:=h;exact hb.lt
 have HR:=LH hr
 have RD:=LH h
 have HN0:=LH hn0
 have HL0:=LH hl0
 have HO0:=LH ho0
 clear h hr hn0 hl0 ho0
 obtain rfl:n0=6:=by omega
 clear hpos
 go_enter Tryz.func53,Tryz.ntmps53
 go_wp2_with fail
 refine Calls.mono (numbers_any (RD.out.keep (below_alloc (Below.refl _ _))) HN0.out HL0.out HO0.out) ?_
 rintro e w1 ⟨rfl,hrd,hf⟩
 have HZ:Hid (Blk w1 w.heap.size 79 [.int .u8 0,.int .i64 0,.slice none 0 0,.int .i64 0,.string ⟨#[]⟩,.string ⟨#[]⟩,.int .i64 0,.int .i64 0,.slice none 0 0,.int .i64 0,.int .i64 0,.int .i64 0]):=LH ((Blk.new rfl).frG hf (by omega))
 have FR:=LH (FrG.down (below_alloc (Below.refl _ _)) hf (Nat.le_of_lt gl))
 have RD:=LH hrd
 have s1:w.heap.size < w1.heap.size:=HZ.out.lt
 clear hrd hf
 go_wp2_with fail
 have HC:Hid (Blk (w1.alloc (.cells #[.int .u8 6,.int .i64 0,.slice none 0 0,.int .i64 0,.string ⟨#[]⟩,.string ⟨#[]⟩,.int .i64 0,.int .i64 0,.slice none 0 0,.int .i64 0,.int .i64 0,.int .i64 0] 79)) w1.heap.size 79 [.int .u8 6,.int .i64 0,.slice none 0 0,.int .i64 0,.string ⟨#[]⟩,.string ⟨#[]⟩,.int .i64 0,.int .i64 0,.slice none 0 0,.int .i64 0,.int .i64 0,.int .i64 0]):=LH (Blk.new rfl)
 replace HZ:Hid (Blk (w1.alloc (.cells #[.int .u8 6,.int .i64 0,.slice none 0 0,.int .i64 0,.string ⟨#[]⟩,.string ⟨#[]⟩,.int .i64 0,.int .i64 0,.slice none 0 0,.int .i64 0,.int .i64 0,.int .i64 0] 79)) w.heap.size 79 [.int .u8 0,.int .i64 0,.slice none 0 0,.int .i64 0,.string ⟨#[]⟩,.string ⟨#[]⟩,.int .i64 0,.int .i64 0,.slice none 0 0,.int .i64 0,.int .i64 0,.int .i64 0]):=LH (Blk.alloc HZ.out _)
 replace RD:Hid (RdS w0 (w1.alloc (.cells #[.int .u8 6,.int .i64 0,.slice none 0 0,.int .i64 0,.string ⟨#[]⟩,.string ⟨#[]⟩,.int .i64 0,.int .i64 0,.slice none 0 0,.int .i64 0,.int .i64 0,.int .i64 0] 79)) g l0 o0):=LH (RD.out.keep (below_alloc (Below.refl _ _)))
 replace FR:Hid (FrG g w (w1.alloc (.cells #[.int .u8 6,.int .i64 0,.slice none 0 0,.int .i64 0,.string ⟨#[]⟩,.string ⟨#[]⟩,.int .i64 0,.int .i64 0,.slice none 0 0,.int .i64 0,.int .i64 0,.int .i64 0] 79))):=LH (FR.out.up (below_alloc (Below.refl _ _)) (Nat.le_of_lt gl))
 try rw [show min (6:Int) 255=6 from rfl]
 generalize hW:w1.alloc (.cells #[.int .u8 6,.int .i64 0,.slice none 0 0,.int .i64 0,.string ⟨#[]⟩,.string ⟨#[]⟩,.int .i64 0,.int .i64 0,.slice none 0 0,.int .i64 0,.int .i64 0,.int .i64 0] 79)=W0 at HC HZ RD FR ⊢
 have sc:=HC.out.lt
 clear hW
 obtain ⟨⟨⟨c0,c1,c2,c3⟩,⟨c4,c5,c6,c7⟩,c8,c9,c10,c11⟩,cz⟩:=cells12 HC.out
 obtain ⟨n1,hn1⟩:∃ n,n=nN l0:=⟨_,rfl⟩
 obtain ⟨l1,hl1⟩:∃ x,x=nL l0:=⟨_,rfl⟩
 obtain ⟨o1,ho1⟩:∃ x,x=nO l0 o0:=⟨_,rfl⟩
 have HN1:=LH hn1
 have HL1:=LH hl1
 have HO1:=LH ho1
 clear hn1 hl1 ho1
 go_wp2_with fail
 refine Calls.mono (numbers_any RD.out HN1.out HL1.out HO1.out) ?_
 rintro e v1_ ⟨rfl,hrd,hf⟩
 replace HC:=LH (HC.out.frG hf (by omega))
 replace HZ:=LH (HZ.out.frG hf (by omega))
 replace FR:=LH (FR.out.trans hf)
 replace RD:=LH hrd
 have z1:W0.heap.size≤v1_.heap.size:=hf.1.size
 clear hrd hf c0 c1 c2 c3 c4 c5 c6 c7 c8 c9 c10 c11 cz
 obtain ⟨⟨⟨c0,c1,c2,c3⟩,⟨c4,c5,c6,c7⟩,c8,c9,c10,c11⟩,cz⟩:=cells12 HC.out
 have sc1:=HC.out.lt
 have HC1:Hid (Blk (v1_.setCell ⟨w1.heap.size,6,none⟩ (.int .i64 n1)) w1.heap.size 79 [.int .u8 6,.int .i64 0,.slice none 0 0,.int .i64 0,.string ⟨#[]⟩,.string ⟨#[]⟩,.int .i64 n1,.int .i64 0,.slice none 0 0,.int .i64 0,.int .i64 0,.int .i64 0]):=LH (HC.out.set_ 6 (.int .i64 n1))
 have HZ1:Hid (Blk (v1_.setCell ⟨w1.heap.size,6,none⟩ (.int .i64 n1)) w.heap.size 79 [.int .u8 0,.int .i64 0,.slice none 0 0,.int .i64 0,.string ⟨#[]⟩,.string ⟨#[]⟩,.int .i64 0,.int .i64 0,.slice none 0 0,.int .i64 0,.int .i64 0,.int .i64 0]):=LH (HZ.out.far (b:=w1.heap.size) (o:=6) (by omega) (.int .i64 n1))
 have RD1:Hid (RdS w0 (v1_.setCell ⟨w1.heap.size,6,none⟩ (.int .i64 n1)) g l1 o1):=LH (RD.out.far (by omega))
 have FR1:Hid (FrG g w (v1_.setCell ⟨w1.heap.size,6,none⟩ (.int .i64 n1))):=LH (FR.out.set_ (Nat.le_of_lt gl) (by omega))
 have zs1:(v1_.setCell ⟨w1.heap.size,6,none⟩ (.int .i64 n1)).heap.size=v1_.heap.size:=by simp
 clear HC HZ RD FR
 have HC:=HC1
 have HZ:=HZ1
 have RD:=RD1
 have FR:=FR1
 clear HC1 HZ1 RD1 FR1
 go_upto_region 19 with fail
 generalize hW:(v1_.setCell ⟨w1.heap.size,6,none⟩ (.int .i64 n1))=W1 at HC HZ RD FR zs1 ⊢
 clear hW c0 c1 c2 c3 c4 c5 c6 c7 c8 c9 c10 c11 cz
 obtain ⟨⟨⟨c0,c1,c2,c3⟩,⟨c4,c5,c6,c7⟩,c8,c9,c10,c11⟩,cz⟩:=cells12 HC.out
 have sd1:=HC.out.lt
 obtain ⟨n2,hn2⟩:∃ n,n=nN l1:=⟨_,rfl⟩
 obtain ⟨l2,hl2⟩:∃ x,x=nL l1:=⟨_,rfl⟩
 obtain ⟨o2,ho2⟩:∃ x,x=nO l1 o1:=⟨_,rfl⟩
 have HN2:=LH hn2
 have HL2:=LH hl2
 have HO2:=LH ho2
 clear hn2 hl2 ho2
 go_wp2_with fail
 refine Calls.mono (numbers_any RD.out HN2.out HL2.out HO2.out) ?_
 rintro e v2_ ⟨rfl,hrd,hf⟩
 replace HC:=LH (HC.out.frG hf (by omega))
 replace HZ:=LH (HZ.out.frG hf (by omega))
 replace FR:=LH (FR.out.trans hf)
 replace RD:=LH hrd
 have z2:W1.heap.size≤v2_.heap.size:=hf.1.size
 clear hrd hf c0 c1 c2 c3 c4 c5 c6 c7 c8 c9 c10 c11 cz
 obtain ⟨⟨⟨c0,c1,c2,c3⟩,⟨c4,c5,c6,c7⟩,c8,c9,c10,c11⟩,cz⟩:=cells12 HC.out
 have sc2:=HC.out.lt
 have HC2:Hid (Blk (v2_.setCell ⟨w1.heap.size,9,none⟩ (.int .i64 n2)) w1.heap.size 79 [.int .u8 6,.int .i64 0,.slice none 0 0,.int .i64 0,.string ⟨#[]⟩,.string ⟨#[]⟩,.int .i64 n1,.int .i64 0,.slice none 0 0,.int .i64 n2,.int .i64 0,.int .i64 0]):=LH (HC.out.set_ 9 (.int .i64 n2))
 have HZ2:Hid (Blk (v2_.setCell ⟨w1.heap.size,9,none⟩ (.int .i64 n2)) w.heap.size 79 [.int .u8 0,.int .i64 0,.slice none 0 0,.int .i64 0,.string ⟨#[]⟩,.string ⟨#[]⟩,.int .i64 0,.int .i64 0,.slice none 0 0,.int .i64 0,.int .i64 0,.int .i64 0]):=LH (HZ.out.far (b:=w1.heap.size) (o:=9) (by omega) (.int .i64 n2))
 have RD2:Hid (RdS w0 (v2_.setCell ⟨w1.heap.size,9,none⟩ (.int .i64 n2)) g l2 o2):=LH (RD.out.far (by omega))
 have FR2:Hid (FrG g w (v2_.setCell ⟨w1.heap.size,9,none⟩ (.int .i64 n2))):=LH (FR.out.set_ (Nat.le_of_lt gl) (by omega))
 have zs2:(v2_.setCell ⟨w1.heap.size,9,none⟩ (.int .i64 n2)).heap.size=v2_.heap.size:=by simp
 clear HC HZ RD FR
 have HC:=HC2
 have HZ:=HZ2
 have RD:=RD2
 have FR:=FR2
 clear HC2 HZ2 RD2 FR2
 go_upto_region 20 with fail
 generalize hW:(v2_.setCell ⟨w1.heap.size,9,none⟩ (.int .i64 n2))=W2 at HC HZ RD FR zs2 ⊢
 clear hW c0 c1 c2 c3 c4 c5 c6 c7 c8 c9 c10 c11 cz
 obtain ⟨⟨⟨c0,c1,c2,c3⟩,⟨c4,c5,c6,c7⟩,c8,c9,c10,c11⟩,cz⟩:=cells12 HC.out
 have sd2:=HC.out.lt
 obtain ⟨n3,hn3⟩:∃ n,n=nN l2:=⟨_,rfl⟩
 obtain ⟨l3,hl3⟩:∃ x,x=nL l2:=⟨_,rfl⟩
 obtain ⟨o3,ho3⟩:∃ x,x=nO l2 o2:=⟨_,rfl⟩
 have HN3:=LH hn3
 have HL3:=LH hl3
 have HO3:=LH ho3
 clear hn3 hl3 ho3
 go_wp2_with fail
 refine Calls.mono (numbers_any RD.out HN3.out HL3.out HO3.out) ?_
 rintro e v3_ ⟨rfl,hrd,hf⟩
 replace HC:=LH (HC.out.frG hf (by omega))
 replace HZ:=LH (HZ.out.frG hf (by omega))
 replace FR:=LH (FR.out.trans hf)
 replace RD:=LH hrd
 have z3:W2.heap.size≤v3_.heap.size:=hf.1.size
 clear hrd hf c0 c1 c2 c3 c4 c5 c6 c7 c8 c9 c10 c11 cz
 obtain ⟨⟨⟨c0,c1,c2,c3⟩,⟨c4,c5,c6,c7⟩,c8,c9,c10,c11⟩,cz⟩:=cells12 HC.out
 have sc3:=HC.out.lt
 have HC3:Hid (Blk (v3_.setCell ⟨w1.heap.size,11,none⟩ (.int .i64 n3)) w1.heap.size 79 [.int .u8 6,.int .i64 0,.slice none 0 0,.int .i64 0,.string ⟨#[]⟩,.string ⟨#[]⟩,.int .i64 n1,.int .i64 0,.slice none 0 0,.int .i64 n2,.int .i64 0,.int .i64 n3]):=LH (HC.out.set_ 11 (.int .i64 n3))
 have HZ3:Hid (Blk (v3_.setCell ⟨w1.heap.size,11,none⟩ (.int .i64 n3)) w.heap.size 79 [.int .u8 0,.int .i64 0,.slice none 0 0,.int .i64 0,.string ⟨#[]⟩,.string ⟨#[]⟩,.int .i64 0,.int .i64 0,.slice none 0 0,.int .i64 0,.int .i64 0,.int .i64 0]):=LH (HZ.out.far (b:=w1.heap.size) (o:=11) (by omega) (.int .i64 n3))
 have RD3:Hid (RdS w0 (v3_.setCell ⟨w1.heap.size,11,none⟩ (.int .i64 n3)) g l3 o3):=LH (RD.out.far (by omega))
 have FR3:Hid (FrG g w (v3_.setCell ⟨w1.heap.size,11,none⟩ (.int .i64 n3))):=LH (FR.out.set_ (Nat.le_of_lt gl) (by omega))
 have zs3:(v3_.setCell ⟨w1.heap.size,11,none⟩ (.int .i64 n3)).heap.size=v3_.heap.size:=by simp
 clear HC HZ RD FR
 have HC:=HC3
 have HZ:=HZ3
 have RD:=RD3
 have FR:=FR3
 clear HC3 HZ3 RD3 FR3
 go_upto_region 23 with fail
 generalize hW:(v3_.setCell ⟨w1.heap.size,11,none⟩ (.int .i64 n3))=W3 at HC HZ RD FR zs3 ⊢
 clear hW c0 c1 c2 c3 c4 c5 c6 c7 c8 c9 c10 c11 cz
 obtain ⟨⟨⟨c0,c1,c2,c3⟩,⟨c4,c5,c6,c7⟩,c8,c9,c10,c11⟩,cz⟩:=cells12 HC.out
 have sd3:=HC.out.lt
 have hfin:=HR.out
 rw [show rd56 6 l0 o0=(⟨6,default,n1,0,[],n2,0,n3⟩,l3,o3) by rw [HO3.out,HL3.out,HN3.out,HO2.out,HL2.out,HN2.out,HO1.out,HL1.out,HN1.out];rfl] at hfin
 cases hfin
 obtain ⟨⟨⟨e0,e1,e2,e3⟩,⟨e4,e5,e6,e7⟩,e8,e9,e10,e11⟩,ez⟩:=cells12 HZ.out
 have el:=HZ.out.lt
 go_wp2_with fail
 obtain ⟨⟨⟨t0,t1_,t2,t3⟩,⟨t4,t5,t6,t7⟩,t8,t9,t10,t11⟩,-⟩:=cells12 (blk_put12 HZ.out (.int .u8 6) (.int .i64 0) (.slice none 0 0) (.int .i64 0) (.string ⟨#[]⟩) (.string ⟨#[]⟩) (.int .i64 n1) (.int .i64 0) (.slice none 0 0) (.int .i64 n2) (.int .i64 0) (.int .i64 n3))
 exact bodyPost_ret (v:=.agg #[.int .u8 6,.int .i64 0,.slice none 0 0,.int .i64 0,.string ⟨#[]⟩,.string ⟨#[]⟩,.int .i64 n1,.int .i64 0,.slice none 0 0,.int .i64 n2,.int .i64 0,.int .i64 n3]) (by simp [results,Tryz.results53,go_sem,t0,t1_,t2,t3,t4,t5,t6,t7,t8,t9,t10,t11]) rfl ⟨_,rfl,⟨none,0,none,0,rfl,ownI_nil _ _,ownI_nil _ _⟩,((((((((((((RD.out.far (b:=w.heap.size) (o:=0) (v:=.int .u8 6) gl).far (b:=w.heap.size) (o:=1) (v:=.int .i64 0) gl).far (b:=w.heap.size) (o:=2) (v:=.slice none 0 0) gl).far (b:=w.heap.size) (o:=3) (v:=.int .i64 0) gl).far (b:=w.heap.size) (o:=4) (v:=.string ⟨#[]⟩) gl).far (b:=w.heap.size) (o:=5) (v:=.string ⟨#[]⟩) gl).far (b:=w.heap.size) (o:=6) (v:=.int .i64 n1) gl).far (b:=w.heap.size) (o:=7) (v:=.int .i64 0) gl).far (b:=w.heap.size) (o:=8) (v:=.slice none 0 0) gl).far (b:=w.heap.size) (o:=9) (v:=.int .i64 n2) gl).far (b:=w.heap.size) (o:=10) (v:=.int .i64 0) gl).far (b:=w.heap.size) (o:=11) (v:=.int .i64 n3) gl),((((((((((((FR.out.set_ (b:=w.heap.size) (o:=0) (v:=.int .u8 6) (Nat.le_of_lt gl) (Nat.le_refl _)).set_ (b:=w.heap.size) (o:=1) (v:=.int .i64 0) (Nat.le_of_lt gl) (Nat.le_refl _)).set_ (b:=w.heap.size) (o:=2) (v:=.slice none 0 0) (Nat.le_of_lt gl) (Nat.le_refl _)).set_ (b:=w.heap.size) (o:=3) (v:=.int .i64 0) (Nat.le_of_lt gl) (Nat.le_refl _)).set_ (b:=w.heap.size) (o:=4) (v:=.string ⟨#[]⟩) (Nat.le_of_lt gl) (Nat.le_refl _)).set_ (b:=w.heap.size) (o:=5) (v:=.string ⟨#[]⟩) (Nat.le_of_lt gl) (Nat.le_refl _)).set_ (b:=w.heap.size) (o:=6) (v:=.int .i64 n1) (Nat.le_of_lt gl) (Nat.le_refl _)).set_ (b:=w.heap.size) (o:=7) (v:=.int .i64 0) (Nat.le_of_lt gl) (Nat.le_refl _)).set_ (b:=w.heap.size) (o:=8) (v:=.slice none 0 0) (Nat.le_of_lt gl) (Nat.le_refl _)).set_ (b:=w.heap.size) (o:=9) (v:=.int .i64 n2) (Nat.le_of_lt gl) (Nat.le_refl _)).set_ (b:=w.heap.size) (o:=10) (v:=.int .i64 0) (Nat.le_of_lt gl) (Nat.le_refl _)).set_ (b:=w.heap.size) (o:=11) (v:=.int .i64 n3) (Nat.le_of_lt gl) (Nat.le_refl _))⟩
set_option maxHeartbeats 8000000 in
set_option maxRecDepth 100000 in
theorem rd_k9b {w0 w:World} {g:Nat} {l:List Int} {o:Bool} {k:Int} (h:RdS w0 w g l o) (hk:k=min (nN l) 255) (hkk:¬ 255 < nN l∧k≠1∧k≠2∧k≠3∧k≠4∧k≠5∧k≠6) {c:PC} {l':List Int} {o':Bool} (hr:((⟨k,default,0,0,[],0,0,0⟩:PC),nL l,nO l o)=(c,l',o')) :
  Calls Tryz.prog 53 #[.pointer (some ⟨g,0,none⟩)] w (RdCEnd w0 g c l' o' w):=by
 obtain ⟨n0,hn0⟩:∃ n,n=nN l:=⟨_,rfl⟩
 obtain ⟨l0,hl0⟩:∃ x,x=nL l:=⟨_,rfl⟩
 obtain ⟨o0,ho0⟩:∃ x,x=nO l o:=⟨_,rfl⟩
 have hpos:=nN_pos l
 rw [← hn0] at hk hpos
 rw [← hl0,← ho0] at hr
 have gl:g < w.heap.size:=by obtain ⟨_,_,hb,_⟩:=h;exact hb.lt
 have HR:=LH hr
 have RD:=LH h
 have HN0:=LH hn0
 have HL0:=LH hl0
 have HO0:=LH ho0
 clear h hr hn0 hl0 ho0
 rw [← HN0.out] at hkk
 obtain ⟨h0,h1,h2,h3,h4,h5,h6⟩:=hkk
 obtain rfl:k=n0:=by omega
 have h1_:(k == 1)=false:=by simp [h1]
 have h2_:(k == 2)=false:=by simp [h2]
 have h3_:(k == 3)=false:=by simp [h3]
 have h4_:(k == 4)=false:=by simp [h4]
 have h5_:(k == 5)=false:=by simp [h5]
 have h6_:(k == 6)=false:=by simp [h6]
 clear hk h1 h2 h3 h4 h5 h6
 go_enter Tryz.func53,Tryz.ntmps53
 go_wp2_with fail
 refine Calls.mono (numbers_any (RD.out.keep (below_alloc (Below.refl _ _))) HN0.out HL0.out HO0.out) ?_
 rintro e w1 ⟨rfl,hrd,hf⟩
 have HZ:Hid (Blk w1 w.heap.size 79 [.int .u8 0,.int .i64 0,.slice none 0 0,.int .i64 0,.string ⟨#[]⟩,.string ⟨#[]⟩,.int .i64 0,.int .i64 0,.slice none 0 0,.int .i64 0,.int .i64 0,.int .i64 0]):=LH ((Blk.new rfl).frG hf (by omega))
 have FR:=LH (FrG.down (below_alloc (Below.refl _ _)) hf (Nat.le_of_lt gl))
 have RD:=LH hrd
 have s1:w.heap.size < w1.heap.size:=HZ.out.lt
 clear hrd hf
 go_upto_region 3 with fail
 have HC:Hid (Blk (w1.alloc (.cells #[.int .u8 k,.int .i64 0,.slice none 0 0,.int .i64 0,.string ⟨#[]⟩,.string ⟨#[]⟩,.int .i64 0,.int .i64 0,.slice none 0 0,.int .i64 0,.int .i64 0,.int .i64 0] 79)) w1.heap.size 79 [.int .u8 k,.int .i64 0,.slice none 0 0,.int .i64 0,.string ⟨#[]⟩,.string ⟨#[]⟩,.int .i64 0,.int .i64 0,.slice none 0 0,.int .i64 0,.int .i64 0,.int .i64 0]):=LH (Blk.new rfl)
 replace HZ:Hid (Blk (w1.alloc (.cells #[.int .u8 k,.int .i64 0,.slice none 0 0,.int .i64 0,.string ⟨#[]⟩,.string ⟨#[]⟩,.int .i64 0,.int .i64 0,.slice none 0 0,.int .i64 0,.int .i64 0,.int .i64 0] 79)) w.heap.size 79 [.int .u8 0,.int .i64 0,.slice none 0 0,.int .i64 0,.string ⟨#[]⟩,.string ⟨#[]⟩,.int .i64 0,.int .i64 0,.slice none 0 0,.int .i64 0,.int .i64 0,.int .i64 0]):=LH (Blk.alloc HZ.out _)
 replace RD:Hid (RdS w0 (w1.alloc (.cells #[.int .u8 k,.int .i64 0,.slice none 0 0,.int .i64 0,.string ⟨#[]⟩,.string ⟨#[]⟩,.int .i64 0,.int .i64 0,.slice none 0 0,.int .i64 0,.int .i64 0,.int .i64 0] 79)) g l0 o0):=LH (RD.out.keep (below_alloc (Below.refl _ _)))
 replace FR:Hid (FrG g w (w1.alloc (.cells #[.int .u8 k,.int .i64 0,.slice none 0 0,.int .i64 0,.string ⟨#[]⟩,.string ⟨#[]⟩,.int .i64 0,.int .i64 0,.slice none 0 0,.int .i64 0,.int .i64 0,.int .i64 0] 79))):=LH (FR.out.up (below_alloc (Below.refl _ _)) (Nat.le_of_lt gl))
 try rw [show min k (255:Int)=k by omega]
 generalize hW:w1.alloc (.cells #[.int .u8 k,.int .i64 0,.slice none 0 0,.int .i64 0,.string ⟨#[]⟩,.string ⟨#[]⟩,.int .i64 0,.int .i64 0,.slice none 0 0,.int .i64 0,.int .i64 0,.int .i64 0] 79)=W0 at HC HZ RD FR ⊢
 have sc:=HC.out.lt
 clear hW
 obtain ⟨⟨⟨c0,c1,c2,c3⟩,⟨c4,c5,c6,c7⟩,c8,c9,c10,c11⟩,cz⟩:=cells12 HC.out
 have hfin:=HR.out
 skip
 cases hfin
 obtain ⟨⟨⟨e0,e1,e2,e3⟩,⟨e4,e5,e6,e7⟩,e8,e9,e10,e11⟩,ez⟩:=cells12 HZ.out
 have el:=HZ.out.lt
 go_wp2_with fail
 obtain ⟨⟨⟨t0,t1_,t2,t3⟩,⟨t4,t5,t6,t7⟩,t8,t9,t10,t11⟩,-⟩:=cells12 (blk_put12 HZ.out (.int .u8 k) (.int .i64 0) (.slice none 0 0) (.int .i64 0) (.string ⟨#[]⟩) (.string ⟨#[]⟩) (.int .i64 0) (.int .i64 0) (.slice none 0 0) (.int .i64 0) (.int .i64 0) (.int .i64 0))
 exact bodyPost_ret (v:=.agg #[.int .u8 k,.int .i64 0,.slice none 0 0,.int .i64 0,.string ⟨#[]⟩,.string ⟨#[]⟩,.int .i64 0,.int .i64 0,.slice none 0 0,.int .i64 0,.int .i64 0,.int .i64 0]) (by simp [results,Tryz.results53,go_sem,t0,t1_,t2,t3,t4,t5,t6,t7,t8,t9,t10,t11]) rfl ⟨_,rfl,⟨none,0,none,0,rfl,ownI_nil _ _,ownI_nil _ _⟩,((((((((((((RD.out.far (b:=w.heap.size) (o:=0) (v:=.int .u8 k) gl).far (b:=w.heap.size) (o:=1) (v:=.int .i64 0) gl).far (b:=w.heap.size) (o:=2) (v:=.slice none 0 0) gl).far (b:=w.heap.size) (o:=3) (v:=.int .i64 0) gl).far (b:=w.heap.size) (o:=4) (v:=.string ⟨#[]⟩) gl).far (b:=w.heap.size) (o:=5) (v:=.string ⟨#[]⟩) gl).far (b:=w.heap.size) (o:=6) (v:=.int .i64 0) gl).far (b:=w.heap.size) (o:=7) (v:=.int .i64 0) gl).far (b:=w.heap.size) (o:=8) (v:=.slice none 0 0) gl).far (b:=w.heap.size) (o:=9) (v:=.int .i64 0) gl).far (b:=w.heap.size) (o:=10) (v:=.int .i64 0) gl).far (b:=w.heap.size) (o:=11) (v:=.int .i64 0) gl),((((((((((((FR.out.set_ (b:=w.heap.size) (o:=0) (v:=.int .u8 k) (Nat.le_of_lt gl) (Nat.le_refl _)).set_ (b:=w.heap.size) (o:=1) (v:=.int .i64 0) (Nat.le_of_lt gl) (Nat.le_refl _)).set_ (b:=w.heap.size) (o:=2) (v:=.slice none 0 0) (Nat.le_of_lt gl) (Nat.le_refl _)).set_ (b:=w.heap.size) (o:=3) (v:=.int .i64 0) (Nat.le_of_lt gl) (Nat.le_refl _)).set_ (b:=w.heap.size) (o:=4) (v:=.string ⟨#[]⟩) (Nat.le_of_lt gl) (Nat.le_refl _)).set_ (b:=w.heap.size) (o:=5) (v:=.string ⟨#[]⟩) (Nat.le_of_lt gl) (Nat.le_refl _)).set_ (b:=w.heap.size) (o:=6) (v:=.int .i64 0) (Nat.le_of_lt gl) (Nat.le_refl _)).set_ (b:=w.heap.size) (o:=7) (v:=.int .i64 0) (Nat.le_of_lt gl) (Nat.le_refl _)).set_ (b:=w.heap.size) (o:=8) (v:=.slice none 0 0) (Nat.le_of_lt gl) (Nat.le_refl _)).set_ (b:=w.heap.size) (o:=9) (v:=.int .i64 0) (Nat.le_of_lt gl) (Nat.le_refl _)).set_ (b:=w.heap.size) (o:=10) (v:=.int .i64 0) (Nat.le_of_lt gl) (Nat.le_refl _)).set_ (b:=w.heap.size) (o:=11) (v:=.int .i64 0) (Nat.le_of_lt gl) (Nat.le_refl _))⟩
end Go.Proofs.YtdfmcgekfogpbabGreatDoor
