/-
  Proved here: The given statement TopModel, walked: a group's topics are what the pl
-/
import Derived.Test.YtdfmcgekfogpbabGreatDoorY33
import Derived.Test.YtdfmcgekfogpbabGreatDoorY44
import Derived.Test.YtdfmcgekfogpbabGreatDoorY45
set_option maxRecDepth 100000
namespace Go.Proofs.YtdfmcgekfogpbabGreatDoor.TopModel
open Go.RowKit
theorem eq_self (x:Ent) (w:World):(binOp .eql 50 (.agg #[.int .i64 x.off,.int .i64 x.id,.string x.key,.string x.body]) (.agg #[.int .i64 x.off,.int .i64 x.id,.string x.key,.string x.body])).run Tryz.prog w=.ok (.bool true) w:=by
 have:=ent_eql x x w
 rwa [(eqEnt_iff x x).2 rfl] at this
theorem one_log {w:World} {g:Nat} {t:TypeId} {v:Value} {l:List ByteArray} (h:Blk w g t [v]) (hv:SliceR w v 1 strCell l):LogsR w (.slice (some ⟨g,0,none⟩) 1 1) [l] :=
 ⟨[v],⟨_,1,rfl,by simp,by decide,(fun h=>by cases h),fun _=>⟨g,0,rfl,fun i hi j hj=>by
  obtain rfl:j=0:=by omega
  have:=h.cell i
  simp only [List.length_cons,List.length_nil] at hi
  obtain rfl:i=0:=by omega
  simpa [oneCell] using this⟩⟩,rfl,fun i hi=>by
  simp only [List.length_cons,List.length_nil] at hi
  obtain rfl:i=0:=by omega
  simpa using hv⟩
set_option maxHeartbeats 8000000 in
set_option maxRecDepth 100000 in
theorem walk {v:Value} {l:List ByteArray} {w:World} (g n o k:Int) (hty:ErrTy w) (h:SliceR w v 1 strCell l) (hs:∀ s∈l,s.size≤maxLen):Calls Tryz.prog 3 #[.int .i64 g,v,.int .i64 n,.int .i64 o,.int .i64 k] w (LawEnd w):=by
 obtain ⟨va,vc,ev,-⟩:=id h
 subst ev
 obtain ⟨vn,hvn⟩:∃ vn,vn=l.length:=⟨_,rfl⟩
 rw [← hvn] at h ⊢
 obtain ⟨⟨cs,x⟩,hcs⟩:∃ R,R=cmdsP l:=⟨_,rfl⟩
 obtain ⟨px,hpx⟩:∃ px,px=playX g l:=⟨_,rfl⟩
 obtain ⟨⟨G,tk⟩,hG⟩:∃ R,R=playR g l:=⟨_,rfl⟩
 have HV:=LH h
 have HT:=LH hty
 have KP:Hid (∀ W,Below w.heap.size w W→Calls Tryz.prog 6 #[.int .i64 g,.slice va vn vc] W (PlayEnd px (G,tk) W)):=fun W hW=>by
  rw [hpx,hG]
  exact play_any (hty.below hW) (h.below (fun _=>rfl) hW) hs
 have KC:Hid (∀ W,Below w.heap.size w W→Calls Tryz.prog 7 #[.slice va vn vc] W fun e W'=>∃ a m c,e=.returned (.tuple #[.slice a m c,.int .i64 x])∧m=cs.length∧OwnK W' W.heap.size (.slice a m c) cs∧Below W.heap.size W W'):=fun W hW=>(logCmds_any (h.below (fun _=>rfl) hW) hs hcs.symm).mono fun e W' ⟨a,cap,h1,h2,h3⟩=>⟨a,_,cap,h1,rfl,h2,h3⟩
 have HX:Hid (px=0→x=0∧(∀ c∈cs,okCom c=true)∧cs.length≤200∧OkH G∧(runQ g cs gs0 []).1=G):=LH (fun h0=>by
  rw [hpx,playX] at h0
  split at h0
  ·cases h0
  ·rw [← hcs] at h0
   simp only at h0
   subst h0
   obtain ⟨q1,q2⟩:=cmdsP_ok hcs.symm
   have hr:runQ g cs gs0 []=(G,tk):=by rw [hG,playR,← hcs]
   exact ⟨rfl,q1,q2,by have:=runQ_okH (g:=g) cs gs0 [] gs0_ok;rwa [hr] at this,by rw [hr]⟩)
 have hG':=ent_eqGuard
 clear h hty hs hcs hpx hG hvn
 go_enter Tryz.func3,Tryz.ntmps3
 go_wp2_with fail
 refine (deliv_any HT.out).mono ?_
 rintro e w1 ⟨rfl,hb⟩
 have HB1:Hid (Below w.heap.size w w1):=below_step (by repeat (first|with_reducible (first|exact Below.refl _ _|apply Below.drew|apply below_alloc)|((first|with_reducible refine Below.alloc ?_ ?_ _|with_reducible refine Below.setCell ?_ ?_ _);rotate_left;focus (first|(simp <;> omega)|omega)))) hb
 clear hb
 go_wp2_with fail
 refine (topGreat_any (m:=[l]) (one_log (Blk.new (cs:=[.slice va vn vc]) rfl) (HV.out.below (fun _=>rfl) (by repeat (first|with_reducible (first|exact HB1.out|exact Below.refl _ _|apply Below.drew|apply below_alloc)|((first|with_reducible refine Below.alloc ?_ ?_ _|with_reducible refine Below.setCell ?_ ?_ _);rotate_left;focus (first|(simp <;> omega)|omega))))))).mono ?_
 rintro e w2 ⟨⟨z,rfl⟩,rfl⟩
 cases z
 rotate_left
 ·go_wp2_with fail
  go_ret
  refine ⟨rfl,?_⟩
  repeat (first|with_reducible (first|exact HB1.out|exact Below.refl _ _|apply Below.drew|apply below_alloc)|((first|with_reducible refine Below.alloc ?_ ?_ _|with_reducible refine Below.setCell ?_ ?_ _);rotate_left;focus (first|(simp <;> omega)|omega)))
 go_wp2_with fail
 refine (KP.out _ (by repeat (first|with_reducible (first|exact HB1.out|exact Below.refl _ _|apply Below.drew|apply below_alloc)|((first|with_reducible refine Below.alloc ?_ ?_ _|with_reducible refine Below.setCell ?_ ?_ _);rotate_left;focus (first|(simp <;> omega)|omega))))).mono ?_
 rintro e w2 ⟨ck,wa,wn,wc,da,dn,dc,ta,tn,tc,ca,cn,cc,la,ln,lc,a,tq,cap,rfl,hb,hr⟩
 have HB2:Hid (Below w.heap.size w w2):=below_step (by repeat (first|with_reducible (first|exact HB1.out|exact Below.refl _ _|apply Below.drew|apply below_alloc)|((first|with_reducible refine Below.alloc ?_ ?_ _|with_reducible refine Below.setCell ?_ ?_ _);rotate_left;focus (first|(simp <;> omega)|omega)))) hb
 have HRD:=LH hr
 clear hb hr HB1
 go_wp2_with fail
 refine (KC.out _ (by repeat (first|with_reducible (first|exact HB2.out|exact Below.refl _ _|apply Below.drew|apply below_alloc)|((first|with_reducible refine Below.alloc ?_ ?_ _|with_reducible refine Below.setCell ?_ ?_ _);rotate_left;focus (first|(simp <;> omega)|omega))))).mono ?_
 rintro e w3 ⟨ka,km,kc,rfl,hkm,ok,hb⟩
 have HKM:=LH hkm
 have HB:Hid (Below w.heap.size w w3):=below_step (by repeat (first|with_reducible (first|exact HB2.out|exact Below.refl _ _|apply Below.drew|apply below_alloc)|((first|with_reducible refine Below.alloc ?_ ?_ _|with_reducible refine Below.setCell ?_ ?_ _);rotate_left;focus (first|(simp <;> omega)|omega)))) hb
 have HJ:Hid (Blk w3 w2.heap.size 36 [.int .i64 ck,.slice wa wn wc,.slice da dn dc,.slice ta tn tc,.slice ca cn cc,.slice la ln lc]):=LH (Blk.step (by repeat (first|with_reducible exact Blk.new rfl|((with_reducible apply Blk.new);focus (first|rfl|(simp <;> omega)))|with_reducible (first|apply Blk.drew|apply Blk.alloc|apply Blk.set_)|((with_reducible apply Blk.far);rotate_left;focus (first|(simp <;> omega)|omega)))) hb)
 have HU23:Hid (Below w2.heap.size w2 w3):=below_step (by repeat (first|with_reducible (first|exact Below.refl _ _|apply Below.drew|apply below_alloc)|((first|with_reducible refine Below.alloc ?_ ?_ _|with_reducible refine Below.setCell ?_ ?_ _);rotate_left;focus (first|(simp <;> omega)|omega)))) hb
 have HKS:=LH ok.reads
 have j3:=HJ.out.cell 3
 have j4:=HJ.out.cell 4
 have jl:=HJ.out.lt
 clear hkm hb ok KC KP
 by_cases hx:px=0
 rotate_left
 ·have hxb:(px != 0)=true:=by simpa using hx
  clear hx
  go_wp2_with fail
  go_ret
  exact ⟨rfl,HB.out⟩
 subst hx
 obtain ⟨hx0,hok,hfew,hoh,hrun⟩:=HX.out rfl
 subst hx0
 obtain ⟨_,_,_,hstr⟩:=HRD.out rfl
 have T:Hid (StrR w3 (.agg #[.slice ta tn tc,.slice ca cn cc]) (streamM G.m)):=LH (hstr.below HU23.out)
 have HOK:=LH hok
 have HFEW:=LH hfew
 have HRUN:=LH hrun
 have hm:=hoh.may
 have HFW:=LH (okC_few hm.2.1)
 have HST:=LH (show streamE G.m=(streamM G.m,0) by rw [streamE,if_pos hm])
 have HK:=LH (keysS_of_may (mayM_str hm))
 obtain ⟨xx,e1,h1⟩:∃ x e,fetchM G.m n o=(x,e):=⟨_,_,rfl⟩
 obtain ⟨yy,e2,h2⟩:∃ x e,farM G.m n k=(x,e):=⟨_,_,rfl⟩
 obtain ⟨zz,e3,h3⟩:∃ x e,endM G.m n=(x,e):=⟨_,_,rfl⟩
 have H1:=LH h1
 have H2:=LH h2
 have H3:=LH h3
 have L1:=LH ((fetchM_str hm n o).trans h1)
 have L2:=LH ((farM_str hm n k).trans h2)
 have L3:=LH ((endM_str hm n).trans h3)
 have hE:=eq_self xx
 have hsp:=HKS.out
 clear hok hfew hoh hrun hstr hm h1 h2 h3 HX HRD HB2 HV HT HU23
 go_wp2_with fail
 refine (topPlain_any (gr:=g) hsp HOK.out HFEW.out).mono ?_
 rintro e w4 ⟨a1,n1,c1,a2,n2,c2,rfl,hmr,hb⟩
 rw [HRUN.out] at hmr
 replace HB:Hid (Below w.heap.size w _):=below_step (by repeat (first|with_reducible (first|exact HB.out|exact Below.refl _ _|apply Below.drew|apply below_alloc)|((first|with_reducible refine Below.alloc ?_ ?_ _|with_reducible refine Below.setCell ?_ ?_ _);rotate_left;focus (first|(simp <;> omega)|omega)))) hb
 replace T:Hid (StrR _ _ _):=strR_step T.out (by repeat (first|with_reducible (first|exact Below.refl _ _|apply Below.drew|apply below_alloc)|((first|with_reducible refine Below.alloc ?_ ?_ _|with_reducible refine Below.setCell ?_ ?_ _);rotate_left;focus (first|(simp <;> omega)|omega)))) hb
 have S:Hid (MdlR w4 (.agg #[.slice a1 n1 c1,.slice a2 n2 c2]) G.m):=LH hmr
 replace HJ:=LH (HJ.out.step hb)
 clear hmr hb hsp HKS j3 j4 jl
 have j3:=HJ.out.cell 3
 have j4:=HJ.out.cell 4
 have jl:=HJ.out.lt
 go_wp2_with fail
 refine Calls.mono (strFetch_any n o ?_ HK.out L1.out) ?_
 ·exact T.out.below (by repeat (first|with_reducible (first|exact Below.refl _ _|apply Below.drew|apply below_alloc)|((first|with_reducible refine Below.alloc ?_ ?_ _|with_reducible refine Below.setCell ?_ ?_ _);rotate_left;focus (first|(simp <;> omega)|omega))))
 rintro e w5 ⟨rfl,hb⟩
 replace HB:Hid (Below w.heap.size w _):=below_step (by repeat (first|with_reducible (first|exact HB.out|exact Below.refl _ _|apply Below.drew|apply below_alloc)|((first|with_reducible refine Below.alloc ?_ ?_ _|with_reducible refine Below.setCell ?_ ?_ _);rotate_left;focus (first|(simp <;> omega)|omega)))) hb
 replace T:Hid (StrR _ _ _):=strR_step T.out (by repeat (first|with_reducible (first|exact Below.refl _ _|apply Below.drew|apply below_alloc)|((first|with_reducible refine Below.alloc ?_ ?_ _|with_reducible refine Below.setCell ?_ ?_ _);rotate_left;focus (first|(simp <;> omega)|omega)))) hb
 replace S:Hid (MdlR _ _ _):=mdlR_step S.out (by repeat (first|with_reducible (first|exact Below.refl _ _|apply Below.drew|apply below_alloc)|((first|with_reducible refine Below.alloc ?_ ?_ _|with_reducible refine Below.setCell ?_ ?_ _);rotate_left;focus (first|(simp <;> omega)|omega)))) hb
 have D:Blk _ (w4.heap.size) _ _:=Blk.step (by repeat (first|((with_reducible apply Blk.new);focus (first|rfl|(simp <;> omega)))|with_reducible (first|apply Blk.drew|apply Blk.alloc|apply Blk.set_)|((with_reducible apply Blk.far);rotate_left;focus (first|(simp <;> omega)|omega)))) hb
 obtain ⟨d0,d1,dz⟩:=cells2 D
 have dl:=Blk.lt D
 have HD:=LH D
 clear D
 have s4:w4.heap.size < w5.heap.size:=dl
 replace HJ:=LH ((HJ.out.alloc _).step hb)
 clear hb j3 j4 jl
 have j3:=HJ.out.cell 3
 have j4:=HJ.out.cell 4
 have jl:=HJ.out.lt
 go_wp2_with fail
 refine Calls.mono (mdlFetch_any n o ?_ HFW.out H1.out) ?_
 ·exact S.out.below (by repeat (first|with_reducible (first|exact Below.refl _ _|apply Below.drew|apply below_alloc)|((first|with_reducible refine Below.alloc ?_ ?_ _|with_reducible refine Below.setCell ?_ ?_ _);rotate_left;focus (first|(simp <;> omega)|omega))))
 rintro e w6 ⟨rfl,hb⟩
 replace HB:Hid (Below w.heap.size w _):=below_step (by repeat (first|with_reducible (first|exact HB.out|exact Below.refl _ _|apply Below.drew|apply below_alloc)|((first|with_reducible refine Below.alloc ?_ ?_ _|with_reducible refine Below.setCell ?_ ?_ _);rotate_left;focus (first|(simp <;> omega)|omega)))) hb
 clear d0 d1 dz dl
 replace HD:Hid (Blk _ (w4.heap.size) _ _):=Blk.step (by repeat (first|with_reducible exact HD.out|((with_reducible apply Blk.new);focus (first|rfl|(simp <;> omega)))|with_reducible (first|apply Blk.drew|apply Blk.alloc|apply Blk.set_)|((with_reducible apply Blk.far);rotate_left;focus (first|(simp <;> omega)|omega)))) hb
 obtain ⟨d0,d1,dz⟩:=cells2 HD.out
 have dl:=Blk.lt HD.out
 replace T:Hid (StrR _ _ _):=strR_step T.out (by repeat (first|with_reducible (first|exact Below.refl _ _|apply Below.drew|apply below_alloc)|((first|with_reducible refine Below.alloc ?_ ?_ _|with_reducible refine Below.setCell ?_ ?_ _);rotate_left;focus (first|(simp <;> omega)|omega)))) hb
 replace S:Hid (MdlR _ _ _):=mdlR_step S.out (by repeat (first|with_reducible (first|exact Below.refl _ _|apply Below.drew|apply below_alloc)|((first|with_reducible refine Below.alloc ?_ ?_ _|with_reducible refine Below.setCell ?_ ?_ _);rotate_left;focus (first|(simp <;> omega)|omega)))) hb
 have A:Blk _ (w5.heap.size) _ _:=Blk.step (by repeat (first|((with_reducible apply Blk.new);focus (first|rfl|(simp <;> omega)))|with_reducible (first|apply Blk.drew|apply Blk.alloc|apply Blk.set_)|((with_reducible apply Blk.far);rotate_left;focus (first|(simp <;> omega)|omega)))) hb
 obtain ⟨a0,a1,a2,a3,az⟩:=cells4 A
 have al:=Blk.lt A
 have HA:=LH A
 clear A
 have s5:w4.heap.size < w6.heap.size∧w5.heap.size < w6.heap.size:=⟨dl,al⟩
 replace HJ:=LH ((HJ.out.alloc _).step hb)
 clear hb j3 j4 jl
 have j3:=HJ.out.cell 3
 have j4:=HJ.out.cell 4
 have jl:=HJ.out.lt
 go_wp2_with fail
 refine Calls.mono (strFar_any n k ?_ HK.out L2.out) ?_
 ·exact T.out.below (by repeat (first|with_reducible (first|exact Below.refl _ _|apply Below.drew|apply below_alloc)|((first|with_reducible refine Below.alloc ?_ ?_ _|with_reducible refine Below.setCell ?_ ?_ _);rotate_left;focus (first|(simp <;> omega)|omega))))
 rintro e w7 ⟨rfl,hb⟩
 replace HB:Hid (Below w.heap.size w _):=below_step (by repeat (first|with_reducible (first|exact HB.out|exact Below.refl _ _|apply Below.drew|apply below_alloc)|((first|with_reducible refine Below.alloc ?_ ?_ _|with_reducible refine Below.setCell ?_ ?_ _);rotate_left;focus (first|(simp <;> omega)|omega)))) hb
 clear d0 d1 dz dl
 replace HD:Hid (Blk _ (w4.heap.size) _ _):=Blk.step (by repeat (first|with_reducible exact HD.out|((with_reducible apply Blk.new);focus (first|rfl|(simp <;> omega)))|with_reducible (first|apply Blk.drew|apply Blk.alloc|apply Blk.set_)|((with_reducible apply Blk.far);rotate_left;focus (first|(simp <;> omega)|omega)))) hb
 obtain ⟨d0,d1,dz⟩:=cells2 HD.out
 have dl:=Blk.lt HD.out
 clear a0 a1 a2 a3 az al
 replace HA:Hid (Blk _ (w5.heap.size) _ _):=Blk.step (by repeat (first|with_reducible exact HA.out|((with_reducible apply Blk.new);focus (first|rfl|(simp <;> omega)))|with_reducible (first|apply Blk.drew|apply Blk.alloc|apply Blk.set_)|((with_reducible apply Blk.far);rotate_left;focus (first|(simp <;> omega)|omega)))) hb
 obtain ⟨a0,a1,a2,a3,az⟩:=cells4 HA.out
 have al:=Blk.lt HA.out
 replace T:Hid (StrR _ _ _):=strR_step T.out (by repeat (first|with_reducible (first|exact Below.refl _ _|apply Below.drew|apply below_alloc)|((first|with_reducible refine Below.alloc ?_ ?_ _|with_reducible refine Below.setCell ?_ ?_ _);rotate_left;focus (first|(simp <;> omega)|omega)))) hb
 replace S:Hid (MdlR _ _ _):=mdlR_step S.out (by repeat (first|with_reducible (first|exact Below.refl _ _|apply Below.drew|apply below_alloc)|((first|with_reducible refine Below.alloc ?_ ?_ _|with_reducible refine Below.setCell ?_ ?_ _);rotate_left;focus (first|(simp <;> omega)|omega)))) hb
 have C:Blk _ (w6.heap.size) _ _:=Blk.step (by repeat (first|((with_reducible apply Blk.new);focus (first|rfl|(simp <;> omega)))|with_reducible (first|apply Blk.drew|apply Blk.alloc|apply Blk.set_)|((with_reducible apply Blk.far);rotate_left;focus (first|(simp <;> omega)|omega)))) hb
 obtain ⟨c0,c1,c2,c3,cz⟩:=cells4 C
 have cl:=Blk.lt C
 have HC:=LH C
 clear C
 have s6:(w4.heap.size < w7.heap.size∧w5.heap.size < w7.heap.size)∧w6.heap.size < w7.heap.size:=⟨⟨dl,al⟩,cl⟩
 replace HJ:=LH ((HJ.out.alloc _).step hb)
 clear hb j3 j4 jl
 have j3:=HJ.out.cell 3
 have j4:=HJ.out.cell 4
 have jl:=HJ.out.lt
 go_wp2_with fail
 refine Calls.mono (mdlFar_any n k ?_ HFW.out H2.out) ?_
 ·exact S.out.below (by repeat (first|with_reducible (first|exact Below.refl _ _|apply Below.drew|apply below_alloc)|((first|with_reducible refine Below.alloc ?_ ?_ _|with_reducible refine Below.setCell ?_ ?_ _);rotate_left;focus (first|(simp <;> omega)|omega))))
 rintro e w8 ⟨rfl,hb⟩
 replace HB:Hid (Below w.heap.size w _):=below_step (by repeat (first|with_reducible (first|exact HB.out|exact Below.refl _ _|apply Below.drew|apply below_alloc)|((first|with_reducible refine Below.alloc ?_ ?_ _|with_reducible refine Below.setCell ?_ ?_ _);rotate_left;focus (first|(simp <;> omega)|omega)))) hb
 clear d0 d1 dz dl
 replace HD:Hid (Blk _ (w4.heap.size) _ _):=Blk.step (by repeat (first|with_reducible exact HD.out|((with_reducible apply Blk.new);focus (first|rfl|(simp <;> omega)))|with_reducible (first|apply Blk.drew|apply Blk.alloc|apply Blk.set_)|((with_reducible apply Blk.far);rotate_left;focus (first|(simp <;> omega)|omega)))) hb
 obtain ⟨d0,d1,dz⟩:=cells2 HD.out
 have dl:=Blk.lt HD.out
 clear a0 a1 a2 a3 az al
 replace HA:Hid (Blk _ (w5.heap.size) _ _):=Blk.step (by repeat (first|with_reducible exact HA.out|((with_reducible apply Blk.new);focus (first|rfl|(simp <;> omega)))|with_reducible (first|apply Blk.drew|apply Blk.alloc|apply Blk.set_)|((with_reducible apply Blk.far);rotate_left;focus (first|(simp <;> omega)|omega)))) hb
 obtain ⟨a0,a1,a2,a3,az⟩:=cells4 HA.out
 have al:=Blk.lt HA.out
 clear c0 c1 c2 c3 cz cl
 replace HC:Hid (Blk _ (w6.heap.size) _ _):=Blk.step (by repeat (first|with_reducible exact HC.out|((with_reducible apply Blk.new);focus (first|rfl|(simp <;> omega)))|with_reducible (first|apply Blk.drew|apply Blk.alloc|apply Blk.set_)|((with_reducible apply Blk.far);rotate_left;focus (first|(simp <;> omega)|omega)))) hb
 obtain ⟨c0,c1,c2,c3,cz⟩:=cells4 HC.out
 have cl:=Blk.lt HC.out
 replace T:Hid (StrR _ _ _):=strR_step T.out (by repeat (first|with_reducible (first|exact Below.refl _ _|apply Below.drew|apply below_alloc)|((first|with_reducible refine Below.alloc ?_ ?_ _|with_reducible refine Below.setCell ?_ ?_ _);rotate_left;focus (first|(simp <;> omega)|omega)))) hb
 replace S:Hid (MdlR _ _ _):=mdlR_step S.out (by repeat (first|with_reducible (first|exact Below.refl _ _|apply Below.drew|apply below_alloc)|((first|with_reducible refine Below.alloc ?_ ?_ _|with_reducible refine Below.setCell ?_ ?_ _);rotate_left;focus (first|(simp <;> omega)|omega)))) hb
 have s7:(w4.heap.size < w8.heap.size∧w5.heap.size < w8.heap.size)∧w6.heap.size < w8.heap.size:=⟨⟨dl,al⟩,cl⟩
 replace HJ:=LH (HJ.out.step hb)
 clear hb j3 j4 jl
 have j3:=HJ.out.cell 3
 have j4:=HJ.out.cell 4
 have jl:=HJ.out.lt
 go_wp2_with fail
 refine Calls.mono (strEnd_any n ?_ HK.out L3.out) ?_
 ·exact T.out.below (by repeat (first|with_reducible (first|exact Below.refl _ _|apply Below.drew|apply below_alloc)|((first|with_reducible refine Below.alloc ?_ ?_ _|with_reducible refine Below.setCell ?_ ?_ _);rotate_left;focus (first|(simp <;> omega)|omega))))
 rintro e w9 ⟨rfl,hb⟩
 replace HB:Hid (Below w.heap.size w _):=below_step (by repeat (first|with_reducible (first|exact HB.out|exact Below.refl _ _|apply Below.drew|apply below_alloc)|((first|with_reducible refine Below.alloc ?_ ?_ _|with_reducible refine Below.setCell ?_ ?_ _);rotate_left;focus (first|(simp <;> omega)|omega)))) hb
 clear d0 d1 dz dl
 replace HD:Hid (Blk _ (w4.heap.size) _ _):=Blk.step (by repeat (first|with_reducible exact HD.out|((with_reducible apply Blk.new);focus (first|rfl|(simp <;> omega)))|with_reducible (first|apply Blk.drew|apply Blk.alloc|apply Blk.set_)|((with_reducible apply Blk.far);rotate_left;focus (first|(simp <;> omega)|omega)))) hb
 obtain ⟨d0,d1,dz⟩:=cells2 HD.out
 have dl:=Blk.lt HD.out
 clear a0 a1 a2 a3 az al
 replace HA:Hid (Blk _ (w5.heap.size) _ _):=Blk.step (by repeat (first|with_reducible exact HA.out|((with_reducible apply Blk.new);focus (first|rfl|(simp <;> omega)))|with_reducible (first|apply Blk.drew|apply Blk.alloc|apply Blk.set_)|((with_reducible apply Blk.far);rotate_left;focus (first|(simp <;> omega)|omega)))) hb
 obtain ⟨a0,a1,a2,a3,az⟩:=cells4 HA.out
 have al:=Blk.lt HA.out
 clear c0 c1 c2 c3 cz cl
 replace HC:Hid (Blk _ (w6.heap.size) _ _):=Blk.step (by repeat (first|with_reducible exact HC.out|((with_reducible apply Blk.new);focus (first|rfl|(simp <;> omega)))|with_reducible (first|apply Blk.drew|apply Blk.alloc|apply Blk.set_)|((with_reducible apply Blk.far);rotate_left;focus (first|(simp <;> omega)|omega)))) hb
 obtain ⟨c0,c1,c2,c3,cz⟩:=cells4 HC.out
 have cl:=Blk.lt HC.out
 replace T:Hid (StrR _ _ _):=strR_step T.out (by repeat (first|with_reducible (first|exact Below.refl _ _|apply Below.drew|apply below_alloc)|((first|with_reducible refine Below.alloc ?_ ?_ _|with_reducible refine Below.setCell ?_ ?_ _);rotate_left;focus (first|(simp <;> omega)|omega)))) hb
 replace S:Hid (MdlR _ _ _):=mdlR_step S.out (by repeat (first|with_reducible (first|exact Below.refl _ _|apply Below.drew|apply below_alloc)|((first|with_reducible refine Below.alloc ?_ ?_ _|with_reducible refine Below.setCell ?_ ?_ _);rotate_left;focus (first|(simp <;> omega)|omega)))) hb
 have s8:(w4.heap.size < w9.heap.size∧w5.heap.size < w9.heap.size)∧w6.heap.size < w9.heap.size:=⟨⟨dl,al⟩,cl⟩
 replace HJ:=LH (HJ.out.step hb)
 clear hb j3 j4 jl
 have j3:=HJ.out.cell 3
 have j4:=HJ.out.cell 4
 have jl:=HJ.out.lt
 go_wp2_with fail
 refine Calls.mono (mdlEnd_any n ?_ HFW.out H3.out) ?_
 ·exact S.out.below (by repeat (first|with_reducible (first|exact Below.refl _ _|apply Below.drew|apply below_alloc)|((first|with_reducible refine Below.alloc ?_ ?_ _|with_reducible refine Below.setCell ?_ ?_ _);rotate_left;focus (first|(simp <;> omega)|omega))))
 rintro e w10 ⟨rfl,hb⟩
 replace HB:Hid (Below w.heap.size w _):=below_step (by repeat (first|with_reducible (first|exact HB.out|exact Below.refl _ _|apply Below.drew|apply below_alloc)|((first|with_reducible refine Below.alloc ?_ ?_ _|with_reducible refine Below.setCell ?_ ?_ _);rotate_left;focus (first|(simp <;> omega)|omega)))) hb
 clear d0 d1 dz dl
 replace HD:Hid (Blk _ (w4.heap.size) _ _):=Blk.step (by repeat (first|with_reducible exact HD.out|((with_reducible apply Blk.new);focus (first|rfl|(simp <;> omega)))|with_reducible (first|apply Blk.drew|apply Blk.alloc|apply Blk.set_)|((with_reducible apply Blk.far);rotate_left;focus (first|(simp <;> omega)|omega)))) hb
 obtain ⟨d0,d1,dz⟩:=cells2 HD.out
 have dl:=Blk.lt HD.out
 clear a0 a1 a2 a3 az al
 replace HA:Hid (Blk _ (w5.heap.size) _ _):=Blk.step (by repeat (first|with_reducible exact HA.out|((with_reducible apply Blk.new);focus (first|rfl|(simp <;> omega)))|with_reducible (first|apply Blk.drew|apply Blk.alloc|apply Blk.set_)|((with_reducible apply Blk.far);rotate_left;focus (first|(simp <;> omega)|omega)))) hb
 obtain ⟨a0,a1,a2,a3,az⟩:=cells4 HA.out
 have al:=Blk.lt HA.out
 clear c0 c1 c2 c3 cz cl
 replace HC:Hid (Blk _ (w6.heap.size) _ _):=Blk.step (by repeat (first|with_reducible exact HC.out|((with_reducible apply Blk.new);focus (first|rfl|(simp <;> omega)))|with_reducible (first|apply Blk.drew|apply Blk.alloc|apply Blk.set_)|((with_reducible apply Blk.far);rotate_left;focus (first|(simp <;> omega)|omega)))) hb
 obtain ⟨c0,c1,c2,c3,cz⟩:=cells4 HC.out
 have cl:=Blk.lt HC.out
 replace T:Hid (StrR _ _ _):=strR_step T.out (by repeat (first|with_reducible (first|exact Below.refl _ _|apply Below.drew|apply below_alloc)|((first|with_reducible refine Below.alloc ?_ ?_ _|with_reducible refine Below.setCell ?_ ?_ _);rotate_left;focus (first|(simp <;> omega)|omega)))) hb
 replace S:Hid (MdlR _ _ _):=mdlR_step S.out (by repeat (first|with_reducible (first|exact Below.refl _ _|apply Below.drew|apply below_alloc)|((first|with_reducible refine Below.alloc ?_ ?_ _|with_reducible refine Below.setCell ?_ ?_ _);rotate_left;focus (first|(simp <;> omega)|omega)))) hb
 have s9:(w4.heap.size < w10.heap.size∧w5.heap.size < w10.heap.size)∧w6.heap.size < w10.heap.size:=⟨⟨dl,al⟩,cl⟩
 replace HJ:=LH (HJ.out.step hb)
 clear hb j3 j4 jl
 have j3:=HJ.out.cell 3
 have j4:=HJ.out.cell 4
 have jl:=HJ.out.lt
 go_wp2_with fail
 refine Calls.mono (mdlStream_any ?_ HFW.out HST.out) ?_
 ·exact S.out.below (by repeat (first|with_reducible (first|exact Below.refl _ _|apply Below.drew|apply below_alloc)|((first|with_reducible refine Below.alloc ?_ ?_ _|with_reducible refine Below.setCell ?_ ?_ _);rotate_left;focus (first|(simp <;> omega)|omega))))
 rintro e w11 ⟨tx,ty,rfl,os,hb⟩
 obtain ⟨a5,n5,c5,b5,d5,ev,-,-⟩:=os.reads.shape
 cases ev
 replace HB:Hid (Below w.heap.size w _):=below_step (by repeat (first|with_reducible (first|exact HB.out|exact Below.refl _ _|apply Below.drew|apply below_alloc)|((first|with_reducible refine Below.alloc ?_ ?_ _|with_reducible refine Below.setCell ?_ ?_ _);rotate_left;focus (first|(simp <;> omega)|omega)))) hb
 clear a0 a1 a2 a3 az al
 replace HA:Hid (Blk _ (w5.heap.size) _ _):=Blk.step (by repeat (first|with_reducible exact HA.out|((with_reducible apply Blk.new);focus (first|rfl|(simp <;> omega)))|with_reducible (first|apply Blk.drew|apply Blk.alloc|apply Blk.set_)|((with_reducible apply Blk.far);rotate_left;focus (first|(simp <;> omega)|omega)))) hb
 obtain ⟨a0,a1,a2,a3,az⟩:=cells4 HA.out
 have al:=Blk.lt HA.out
 clear c0 c1 c2 c3 cz cl
 replace HC:Hid (Blk _ (w6.heap.size) _ _):=Blk.step (by repeat (first|with_reducible exact HC.out|((with_reducible apply Blk.new);focus (first|rfl|(simp <;> omega)))|with_reducible (first|apply Blk.drew|apply Blk.alloc|apply Blk.set_)|((with_reducible apply Blk.far);rotate_left;focus (first|(simp <;> omega)|omega)))) hb
 obtain ⟨c0,c1,c2,c3,cz⟩:=cells4 HC.out
 have cl:=Blk.lt HC.out
 replace T:Hid (StrR _ _ _):=strR_step T.out (by repeat (first|with_reducible (first|exact Below.refl _ _|apply Below.drew|apply below_alloc)|((first|with_reducible refine Below.alloc ?_ ?_ _|with_reducible refine Below.setCell ?_ ?_ _);rotate_left;focus (first|(simp <;> omega)|omega)))) hb
 have T2:=LH os.reads
 have s10:w5.heap.size < w11.heap.size∧w6.heap.size < w11.heap.size:=⟨al,cl⟩
 replace HJ:=LH (HJ.out.step hb)
 clear hb j3 j4 jl os d0 d1 dz dl HD S
 have j3:=HJ.out.cell 3
 have j4:=HJ.out.cell 4
 have jl:=HJ.out.lt
 go_wp2_with fail
 refine Calls.mono (strSame_any (z:=true) (T2.out.below (by repeat (first|with_reducible (first|exact Below.refl _ _|apply Below.drew|apply below_alloc)|((first|with_reducible refine Below.alloc ?_ ?_ _|with_reducible refine Below.setCell ?_ ?_ _);rotate_left;focus (first|(simp <;> omega)|omega))))) (T.out.below (by repeat (first|with_reducible (first|exact Below.refl _ _|apply Below.drew|apply below_alloc)|((first|with_reducible refine Below.alloc ?_ ?_ _|with_reducible refine Below.setCell ?_ ?_ _);rotate_left;focus (first|(simp <;> omega)|omega))))) (by simp)) ?_
 rintro e w12 ⟨rfl,hb⟩
 replace HB:Hid (Below w.heap.size w _):=below_step (by repeat (first|with_reducible (first|exact HB.out|exact Below.refl _ _|apply Below.drew|apply below_alloc)|((first|with_reducible refine Below.alloc ?_ ?_ _|with_reducible refine Below.setCell ?_ ?_ _);rotate_left;focus (first|(simp <;> omega)|omega)))) hb
 clear hb
 go_wp2_with fail
 go_ret
 exact ⟨rfl,HB.out⟩
end Go.Proofs.YtdfmcgekfogpbabGreatDoor.TopModel
