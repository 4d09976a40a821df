/-
  Proved here: command.plain at one kind of commands. No condition but the kind. command.plain at one kind of commands. No condition but the kind. command.plain at one kind of commands. No condition but the kind. command's reader: one kind of commands. No condition but the kind.
-/
import Derived.Test.YtkkohllhebdlcaaGreatDoorY09
import Derived.Test.YtkkohllhebdlcaaGreatDoorY16
set_option maxRecDepth 100000
namespace Go.Proofs.YtkkohllhebdlcaaGreatDoor
open Go.RowKit
set_option maxHeartbeats 8000000 in
set_option maxRecDepth 100000 in
theorem plain_k4 {v:Value} {c:PC} {w:World} (h:ComR w v c) (hk:c.kind=4):Calls Tryz.prog 70 #[v] w (PlainEnd (pC c) (okP c) w):=by
 obtain ⟨a,cap,b,bc,rfl,hg,hm⟩:=h
 obtain ⟨q,hq⟩:∃ q,q=onT c:=⟨_,rfl⟩
 have HPC:=LH (show pC c=pC c from rfl)
 have HOK:=LH (show okP c=okP c from rfl)
 obtain ⟨pc,hpc⟩:∃ pc,pc=pC c:=⟨_,rfl⟩
 obtain ⟨ok,hok⟩:∃ ok,ok=okP c:=⟨_,rfl⟩
 rw [← hpc,← hok]
 clear HPC HOK
 obtain ⟨kd,⟨i1,g1,t1,k1,b1⟩,ci,ct,ml,cp,cw,cn⟩:=c
 simp only [onT] at hq hg hm hk ⊢
 have HK:=LH hk
 clear hk
 have HQ:=LH hq
 have HPC:=LH hpc
 have HOK:=LH hok
 have G:=LH hg
 have M:=LH hm
 obtain ⟨gn,hgn⟩:∃ n,n=g1.length:=⟨_,rfl⟩
 obtain ⟨mn,hmn⟩:∃ n,n=ml.length:=⟨_,rfl⟩
 rw [← hgn] at G ⊢
 rw [← hmn] at M ⊢
 have HGN:=LH hgn
 have HMN:=LH hmn
 clear hq hg hm hpc hok hgn hmn
 obtain ⟨z1,hz1⟩:∃ z:Bool,z=idB ci:=⟨_,rfl⟩
 obtain ⟨z2,hz2⟩:∃ z:Bool,z=inB cp 0 3:=⟨_,rfl⟩
 obtain ⟨z3,hz3⟩:∃ z:Bool,z=inB cn 0 1073741824:=⟨_,rfl⟩
 have HZ1:=LH hz1
 have HZ2:=LH hz2
 have HZ3:=LH hz3
 rw [← hz1,← hz2,← hz3] at HQ
 clear hz1 hz2 hz3
 go_enter Tryz.func70,Tryz.ntmps70
 go_upto_region 2 with fail
 go_cut [5] (fun c wx=>c=.bool q∧Hid (Below w.heap.size w wx)∧Hid (Blk wx w.heap.size 58 [.int .u8 kd,.int .i64 i1,.slice a gn cap,.int .i64 t1,.string k1,.string b1,.int .i64 ci,.int .i64 ct,.slice b mn bc,.int .i64 cp,.int .i64 cw,.int .i64 cn])∧Hid (Blk wx (w.heap.size+1) 58 [.int .u8 0,.int .i64 0,.slice none 0 0,.int .i64 0,.string ⟨#[]⟩,.string ⟨#[]⟩,.int .i64 0,.int .i64 0,.slice none 0 0,.int .i64 0,.int .i64 0,.int .i64 0])∧Hid (Blk wx (w.heap.size+1+1) 58 [.int .u8 kd,.int .i64 0,.slice none 0 0,.int .i64 0,.string ⟨#[]⟩,.string ⟨#[]⟩,.int .i64 0,.int .i64 0,.slice none 0 0,.int .i64 0,.int .i64 0,.int .i64 0]))
 case first =>
  have HB0:Hid (Below w.heap.size w (((w.alloc (.cells #[.int .u8 kd,.int .i64 i1,.slice a gn cap,.int .i64 t1,.string k1,.string b1,.int .i64 ci,.int .i64 ct,.slice b mn bc,.int .i64 cp,.int .i64 cw,.int .i64 cn] 58)).alloc (.cells #[.int .u8 0,.int .i64 0,.slice none 0 0,.int .i64 0,.string ⟨#[]⟩,.string ⟨#[]⟩,.int .i64 0,.int .i64 0,.slice none 0 0,.int .i64 0,.int .i64 0,.int .i64 0] 58)).alloc (.cells #[.int .u8 kd,.int .i64 0,.slice none 0 0,.int .i64 0,.string ⟨#[]⟩,.string ⟨#[]⟩,.int .i64 0,.int .i64 0,.slice none 0 0,.int .i64 0,.int .i64 0,.int .i64 0] 58))):=LH (by repeat (first|with_reducible (first|exact Below.refl _ _|apply Below.drew|apply below_alloc)|((first|with_reducible refine Below.alloc ?_ ?_ _|with_reducible refine Below.setCell ?_ ?_ _);rotate_left;focus (first|(simp <;> omega)|omega))))
  have HE:Hid (Blk (((w.alloc (.cells #[.int .u8 kd,.int .i64 i1,.slice a gn cap,.int .i64 t1,.string k1,.string b1,.int .i64 ci,.int .i64 ct,.slice b mn bc,.int .i64 cp,.int .i64 cw,.int .i64 cn] 58)).alloc (.cells #[.int .u8 0,.int .i64 0,.slice none 0 0,.int .i64 0,.string ⟨#[]⟩,.string ⟨#[]⟩,.int .i64 0,.int .i64 0,.slice none 0 0,.int .i64 0,.int .i64 0,.int .i64 0] 58)).alloc (.cells #[.int .u8 kd,.int .i64 0,.slice none 0 0,.int .i64 0,.string ⟨#[]⟩,.string ⟨#[]⟩,.int .i64 0,.int .i64 0,.slice none 0 0,.int .i64 0,.int .i64 0,.int .i64 0] 58)) w.heap.size 58 [.int .u8 kd,.int .i64 i1,.slice a gn cap,.int .i64 t1,.string k1,.string b1,.int .i64 ci,.int .i64 ct,.slice b mn bc,.int .i64 cp,.int .i64 cw,.int .i64 cn]∧Blk (((w.alloc (.cells #[.int .u8 kd,.int .i64 i1,.slice a gn cap,.int .i64 t1,.string k1,.string b1,.int .i64 ci,.int .i64 ct,.slice b mn bc,.int .i64 cp,.int .i64 cw,.int .i64 cn] 58)).alloc (.cells #[.int .u8 0,.int .i64 0,.slice none 0 0,.int .i64 0,.string ⟨#[]⟩,.string ⟨#[]⟩,.int .i64 0,.int .i64 0,.slice none 0 0,.int .i64 0,.int .i64 0,.int .i64 0] 58)).alloc (.cells #[.int .u8 kd,.int .i64 0,.slice none 0 0,.int .i64 0,.string ⟨#[]⟩,.string ⟨#[]⟩,.int .i64 0,.int .i64 0,.slice none 0 0,.int .i64 0,.int .i64 0,.int .i64 0] 58)) (w.heap.size+1) 58 [.int .u8 0,.int .i64 0,.slice none 0 0,.int .i64 0,.string ⟨#[]⟩,.string ⟨#[]⟩,.int .i64 0,.int .i64 0,.slice none 0 0,.int .i64 0,.int .i64 0,.int .i64 0]∧Blk (((w.alloc (.cells #[.int .u8 kd,.int .i64 i1,.slice a gn cap,.int .i64 t1,.string k1,.string b1,.int .i64 ci,.int .i64 ct,.slice b mn bc,.int .i64 cp,.int .i64 cw,.int .i64 cn] 58)).alloc (.cells #[.int .u8 0,.int .i64 0,.slice none 0 0,.int .i64 0,.string ⟨#[]⟩,.string ⟨#[]⟩,.int .i64 0,.int .i64 0,.slice none 0 0,.int .i64 0,.int .i64 0,.int .i64 0] 58)).alloc (.cells #[.int .u8 kd,.int .i64 0,.slice none 0 0,.int .i64 0,.string ⟨#[]⟩,.string ⟨#[]⟩,.int .i64 0,.int .i64 0,.slice none 0 0,.int .i64 0,.int .i64 0,.int .i64 0] 58)) (w.heap.size+1+1) 58 [.int .u8 kd,.int .i64 0,.slice none 0 0,.int .i64 0,.string ⟨#[]⟩,.string ⟨#[]⟩,.int .i64 0,.int .i64 0,.slice none 0 0,.int .i64 0,.int .i64 0,.int .i64 0]) :=
   LH ⟨((Blk.new rfl).alloc _).alloc _,(Blk.new (by simp)).alloc _,Blk.new (by simp)⟩
  cases z1
  ·obtain rfl:q=false:=HQ.out
   go_wp2_with fail
   refine Calls.mono (idB_any ci _) ?_
   rintro e w1 ⟨rfl,rfl⟩
   rw [← HZ1.out]
   go_wp2_with fail
   go_meet
   case rel=>exact ⟨rfl,HB0,HE.out.1,HE.out.2.1,HE.out.2.2⟩
  ·cases z2
   ·obtain rfl:q=false:=HQ.out
    go_wp2_with fail
    refine Calls.mono (idB_any ci _) ?_
    rintro e w1 ⟨rfl,rfl⟩
    rw [← HZ1.out]
    go_wp2_with fail
    refine Calls.mono (inB_any cp 0 3 _) ?_
    rintro e w1 ⟨rfl,rfl⟩
    rw [← HZ2.out]
    go_wp2_with fail
    go_meet
    case rel=>exact ⟨rfl,HB0,HE.out.1,HE.out.2.1,HE.out.2.2⟩
   ·obtain rfl:q=z3:=HQ.out
    go_wp2_with fail
    refine Calls.mono (idB_any ci _) ?_
    rintro e w1 ⟨rfl,rfl⟩
    rw [← HZ1.out]
    go_wp2_with fail
    refine Calls.mono (inB_any cp 0 3 _) ?_
    rintro e w1 ⟨rfl,rfl⟩
    rw [← HZ2.out]
    go_wp2_with fail
    refine Calls.mono (inB_any cn 0 1073741824 _) ?_
    rintro e w1 ⟨rfl,rfl⟩
    rw [← HZ3.out]
    go_wp2_with fail
    go_meet
    case rel=>exact ⟨rfl,HB0,HE.out.1,HE.out.2.1,HE.out.2.2⟩
 case rest =>
  obtain ⟨rfl,HB,HP,HRR,HQQ⟩:=hcut
  have hk:=HK.out
  obtain ⟨⟨⟨q0,q1,q2,q3⟩,⟨q4,q5,q6,q7⟩,q8,q9,q10,q11⟩,qz⟩:=cells12 HQQ.out
  have ql:=HQQ.out.lt
  obtain ⟨⟨⟨p0,p1,p2,p3⟩,⟨p4,p5,p6,p7⟩,p8,p9,p10,p11⟩,pz⟩:=cells12 HP.out
  have pl:=HP.out.lt
  obtain ⟨⟨⟨r0,r1,r2,r3⟩,⟨r4,r5,r6,r7⟩,r8,r9,r10,r11⟩,rz⟩:=cells12 HRR.out
  have rl:=HRR.out.lt
  obtain rfl:pc=⟨4,default,ci,0,[],cp,cw,cn⟩:=by rw [HPC.out,hk];rfl
  have HOK':=LH (show ok=((idB ci && (inB cp 0 3 && inB cn 0 1073741824)) && inB cw 0 7) by rw [HOK.out,hk];rfl)
  clear HOK HPC
  subst hk
  cases q
  ·obtain rfl:ok=false:=by rw [HOK'.out,← HZ1.out,← HZ2.out,← HZ3.out,← HQ.out];rfl
   go_wp2_with fail
   go_region
   have HQ2:=LH (Blk.drew ((((HQQ.out.set_ 10 (.int .i64 cw)).set_ 6 (.int .i64 ci)).set_ 9 (.int .i64 cp)).set_ 11 (.int .i64 cn)))
   have HR2:=LH (Blk.drew ((((HRR.out.far (b:=w.heap.size+1+1) (o:=10) (by omega) (.int .i64 cw)).far (b:=w.heap.size+1+1) (o:=6) (by omega) (.int .i64 ci)).far (b:=w.heap.size+1+1) (o:=9) (by omega) (.int .i64 cp)).far (b:=w.heap.size+1+1) (o:=11) (by omega) (.int .i64 cn)))
   have HP2:=LH (Blk.drew ((((HP.out.far (b:=w.heap.size+1+1) (o:=10) (by omega) (.int .i64 cw)).far (b:=w.heap.size+1+1) (o:=6) (by omega) (.int .i64 ci)).far (b:=w.heap.size+1+1) (o:=9) (by omega) (.int .i64 cp)).far (b:=w.heap.size+1+1) (o:=11) (by omega) (.int .i64 cn)))
   have HB2:=LH (((((HB.out.setCell (p:=⟨w.heap.size+1+1,10,none⟩) (by simp;omega) (.int .i64 cw)).setCell (p:=⟨w.heap.size+1+1,6,none⟩) (by simp;omega) (.int .i64 ci)).setCell (p:=⟨w.heap.size+1+1,9,none⟩) (by simp;omega) (.int .i64 cp)).setCell (p:=⟨w.heap.size+1+1,11,none⟩) (by simp;omega) (.int .i64 cn))).drew
   generalize hW:((((wc.setCell ⟨w.heap.size+1+1,10,none⟩ (.int .i64 cw)).setCell ⟨w.heap.size+1+1,6,none⟩ (.int .i64 ci)).setCell ⟨w.heap.size+1+1,9,none⟩ (.int .i64 cp)).setCell ⟨w.heap.size+1+1,11,none⟩ (.int .i64 cn)).drew=W at HQ2 HR2 HP2 HB2 ⊢
   clear q0 q1 q2 q3 q4 q5 q6 q7 q8 q9 q10 q11 qz ql p0 p1 p2 p3 p4 p5 p6 p7 p8 p9 p10 p11 pz pl r0 r1 r2 r3 r4 r5 r6 r7 r8 r9 r10 r11 rz rl hW HP HRR HQQ HB
   obtain ⟨⟨⟨q0,q1,q2,q3⟩,⟨q4,q5,q6,q7⟩,q8,q9,q10,q11⟩,qz⟩:=cells12 HQ2.out
   have ql:=HQ2.out.lt
   obtain ⟨⟨⟨p0,p1,p2,p3⟩,⟨p4,p5,p6,p7⟩,p8,p9,p10,p11⟩,pz⟩:=cells12 HP2.out
   have pl:=HP2.out.lt
   obtain ⟨⟨⟨r0,r1,r2,r3⟩,⟨r4,r5,r6,r7⟩,r8,r9,r10,r11⟩,rz⟩:=cells12 HR2.out
   have rl:=HR2.out.lt
   go_wp2_with fail
   obtain ⟨⟨⟨t0,t1_,t2,t3⟩,⟨t4,t5,t6,t7⟩,t8,t9,t10,t11⟩,-⟩:=cells12 (blk_put12 HR2.out (.int .u8 4) (.int .i64 0) (.slice none 0 0) (.int .i64 0) (.string ⟨#[]⟩) (.string ⟨#[]⟩) (.int .i64 ci) (.int .i64 0) (.slice none 0 0) (.int .i64 cp) (.int .i64 cw) (.int .i64 cn))
   have HBF:=((((((((((((HB2.out.setCell (p:=⟨w.heap.size+1,0,none⟩) (by simp) (.int .u8 4)).setCell (p:=⟨w.heap.size+1,1,none⟩) (by simp) (.int .i64 0)).setCell (p:=⟨w.heap.size+1,2,none⟩) (by simp) (.slice none 0 0)).setCell (p:=⟨w.heap.size+1,3,none⟩) (by simp) (.int .i64 0)).setCell (p:=⟨w.heap.size+1,4,none⟩) (by simp) (.string ⟨#[]⟩)).setCell (p:=⟨w.heap.size+1,5,none⟩) (by simp) (.string ⟨#[]⟩)).setCell (p:=⟨w.heap.size+1,6,none⟩) (by simp) (.int .i64 ci)).setCell (p:=⟨w.heap.size+1,7,none⟩) (by simp) (.int .i64 0)).setCell (p:=⟨w.heap.size+1,8,none⟩) (by simp) (.slice none 0 0)).setCell (p:=⟨w.heap.size+1,9,none⟩) (by simp) (.int .i64 cp)).setCell (p:=⟨w.heap.size+1,10,none⟩) (by simp) (.int .i64 cw)).setCell (p:=⟨w.heap.size+1,11,none⟩) (by simp) (.int .i64 cn))
   obtain rfl:=HGN.out
   obtain rfl:=HMN.out
   exact bodyPost_ret (v:=.tuple #[.agg #[.int .u8 4,.int .i64 0,.slice none 0 0,.int .i64 0,.string ⟨#[]⟩,.string ⟨#[]⟩,.int .i64 ci,.int .i64 0,.slice none 0 0,.int .i64 cp,.int .i64 cw,.int .i64 cn],.bool false]) (by simp [results,Tryz.results70,go_sem,t0,t1_,t2,t3,t4,t5,t6,t7,t8,t9,t10,t11]) rfl ⟨_,rfl,⟨none,0,none,0,rfl,ints_nil _,ints_nil _⟩,HBF⟩
  ·obtain ⟨zt,hzt⟩:∃ zt,zt=inB cw 0 7:=⟨_,rfl⟩
   obtain rfl:ok=zt:=by rw [HOK'.out,← HZ1.out,← HZ2.out,← HZ3.out,← HQ.out,hzt];rfl
   have HZT:=LH hzt
   clear hzt
   go_wp2_with fail
   refine Calls.mono (inB_any cw 0 7 _) ?_
   rintro e w1 ⟨rfl,rfl⟩
   rw [← HZT.out]
   go_wp2_with fail
   go_region
   have HQ2:=LH (Blk.drew ((((HQQ.out.set_ 10 (.int .i64 cw)).set_ 6 (.int .i64 ci)).set_ 9 (.int .i64 cp)).set_ 11 (.int .i64 cn)))
   have HR2:=LH (Blk.drew ((((HRR.out.far (b:=w.heap.size+1+1) (o:=10) (by omega) (.int .i64 cw)).far (b:=w.heap.size+1+1) (o:=6) (by omega) (.int .i64 ci)).far (b:=w.heap.size+1+1) (o:=9) (by omega) (.int .i64 cp)).far (b:=w.heap.size+1+1) (o:=11) (by omega) (.int .i64 cn)))
   have HP2:=LH (Blk.drew ((((HP.out.far (b:=w.heap.size+1+1) (o:=10) (by omega) (.int .i64 cw)).far (b:=w.heap.size+1+1) (o:=6) (by omega) (.int .i64 ci)).far (b:=w.heap.size+1+1) (o:=9) (by omega) (.int .i64 cp)).far (b:=w.heap.size+1+1) (o:=11) (by omega) (.int .i64 cn)))
   have HB2:=LH (((((HB.out.setCell (p:=⟨w.heap.size+1+1,10,none⟩) (by simp;omega) (.int .i64 cw)).setCell (p:=⟨w.heap.size+1+1,6,none⟩) (by simp;omega) (.int .i64 ci)).setCell (p:=⟨w.heap.size+1+1,9,none⟩) (by simp;omega) (.int .i64 cp)).setCell (p:=⟨w.heap.size+1+1,11,none⟩) (by simp;omega) (.int .i64 cn))).drew
   generalize hW:((((wc.setCell ⟨w.heap.size+1+1,10,none⟩ (.int .i64 cw)).setCell ⟨w.heap.size+1+1,6,none⟩ (.int .i64 ci)).setCell ⟨w.heap.size+1+1,9,none⟩ (.int .i64 cp)).setCell ⟨w.heap.size+1+1,11,none⟩ (.int .i64 cn)).drew=W at HQ2 HR2 HP2 HB2 ⊢
   clear q0 q1 q2 q3 q4 q5 q6 q7 q8 q9 q10 q11 qz ql p0 p1 p2 p3 p4 p5 p6 p7 p8 p9 p10 p11 pz pl r0 r1 r2 r3 r4 r5 r6 r7 r8 r9 r10 r11 rz rl hW HP HRR HQQ HB
   obtain ⟨⟨⟨q0,q1,q2,q3⟩,⟨q4,q5,q6,q7⟩,q8,q9,q10,q11⟩,qz⟩:=cells12 HQ2.out
   have ql:=HQ2.out.lt
   obtain ⟨⟨⟨p0,p1,p2,p3⟩,⟨p4,p5,p6,p7⟩,p8,p9,p10,p11⟩,pz⟩:=cells12 HP2.out
   have pl:=HP2.out.lt
   obtain ⟨⟨⟨r0,r1,r2,r3⟩,⟨r4,r5,r6,r7⟩,r8,r9,r10,r11⟩,rz⟩:=cells12 HR2.out
   have rl:=HR2.out.lt
   go_wp2_with fail
   obtain ⟨⟨⟨t0,t1_,t2,t3⟩,⟨t4,t5,t6,t7⟩,t8,t9,t10,t11⟩,-⟩:=cells12 (blk_put12 HR2.out (.int .u8 4) (.int .i64 0) (.slice none 0 0) (.int .i64 0) (.string ⟨#[]⟩) (.string ⟨#[]⟩) (.int .i64 ci) (.int .i64 0) (.slice none 0 0) (.int .i64 cp) (.int .i64 cw) (.int .i64 cn))
   have HBF:=((((((((((((HB2.out.setCell (p:=⟨w.heap.size+1,0,none⟩) (by simp) (.int .u8 4)).setCell (p:=⟨w.heap.size+1,1,none⟩) (by simp) (.int .i64 0)).setCell (p:=⟨w.heap.size+1,2,none⟩) (by simp) (.slice none 0 0)).setCell (p:=⟨w.heap.size+1,3,none⟩) (by simp) (.int .i64 0)).setCell (p:=⟨w.heap.size+1,4,none⟩) (by simp) (.string ⟨#[]⟩)).setCell (p:=⟨w.heap.size+1,5,none⟩) (by simp) (.string ⟨#[]⟩)).setCell (p:=⟨w.heap.size+1,6,none⟩) (by simp) (.int .i64 ci)).setCell (p:=⟨w.heap.size+1,7,none⟩) (by simp) (.int .i64 0)).setCell (p:=⟨w.heap.size+1,8,none⟩) (by simp) (.slice none 0 0)).setCell (p:=⟨w.heap.size+1,9,none⟩) (by simp) (.int .i64 cp)).setCell (p:=⟨w.heap.size+1,10,none⟩) (by simp) (.int .i64 cw)).setCell (p:=⟨w.heap.size+1,11,none⟩) (by simp) (.int .i64 cn))
   obtain rfl:=HGN.out
   obtain rfl:=HMN.out
   exact bodyPost_ret (v:=.tuple #[.agg #[.int .u8 4,.int .i64 0,.slice none 0 0,.int .i64 0,.string ⟨#[]⟩,.string ⟨#[]⟩,.int .i64 ci,.int .i64 0,.slice none 0 0,.int .i64 cp,.int .i64 cw,.int .i64 cn],.bool ok]) (by simp [results,Tryz.results70,go_sem,t0,t1_,t2,t3,t4,t5,t6,t7,t8,t9,t10,t11]) rfl ⟨_,rfl,⟨none,0,none,0,rfl,ints_nil _,ints_nil _⟩,HBF⟩
set_option maxHeartbeats 8000000 in
set_option maxRecDepth 100000 in
theorem plain_k5 {v:Value} {c:PC} {w:World} (h:ComR w v c) (hk:c.kind=5):Calls Tryz.prog 70 #[v] w (PlainEnd (pC c) (okP c) w):=by
 obtain ⟨a,cap,b,bc,rfl,hg,hm⟩:=h
 obtain ⟨q,hq⟩:∃ q,q=onT c:=⟨_,rfl⟩
 have HPC:=LH (show pC c=pC c from rfl)
 have HOK:=LH (show okP c=okP c from rfl)
 obtain ⟨pc,hpc⟩:∃ pc,pc=pC c:=⟨_,rfl⟩
 obtain ⟨ok,hok⟩:∃ ok,ok=okP c:=⟨_,rfl⟩
 rw [← hpc,← hok]
 clear HPC HOK
 obtain ⟨kd,⟨i1,g1,t1,k1,b1⟩,ci,ct,ml,cp,cw,cn⟩:=c
 simp only [onT] at hq hg hm hk ⊢
 have HK:=LH hk
 clear hk
 have HQ:=LH hq
 have HPC:=LH hpc
 have HOK:=LH hok
 have G:=LH hg
 have M:=LH hm
 obtain ⟨gn,hgn⟩:∃ n,n=g1.length:=⟨_,rfl⟩
 obtain ⟨mn,hmn⟩:∃ n,n=ml.length:=⟨_,rfl⟩
 rw [← hgn] at G ⊢
 rw [← hmn] at M ⊢
 have HGN:=LH hgn
 have HMN:=LH hmn
 clear hq hg hm hpc hok hgn hmn
 obtain ⟨z1,hz1⟩:∃ z:Bool,z=idB ci:=⟨_,rfl⟩
 obtain ⟨z2,hz2⟩:∃ z:Bool,z=inB cp 0 3:=⟨_,rfl⟩
 obtain ⟨z3,hz3⟩:∃ z:Bool,z=inB cn 0 1073741824:=⟨_,rfl⟩
 have HZ1:=LH hz1
 have HZ2:=LH hz2
 have HZ3:=LH hz3
 rw [← hz1,← hz2,← hz3] at HQ
 clear hz1 hz2 hz3
 go_enter Tryz.func70,Tryz.ntmps70
 go_upto_region 2 with fail
 go_cut [5] (fun c wx=>c=.bool q∧Hid (Below w.heap.size w wx)∧Hid (Blk wx w.heap.size 58 [.int .u8 kd,.int .i64 i1,.slice a gn cap,.int .i64 t1,.string k1,.string b1,.int .i64 ci,.int .i64 ct,.slice b mn bc,.int .i64 cp,.int .i64 cw,.int .i64 cn])∧Hid (Blk wx (w.heap.size+1) 58 [.int .u8 0,.int .i64 0,.slice none 0 0,.int .i64 0,.string ⟨#[]⟩,.string ⟨#[]⟩,.int .i64 0,.int .i64 0,.slice none 0 0,.int .i64 0,.int .i64 0,.int .i64 0])∧Hid (Blk wx (w.heap.size+1+1) 58 [.int .u8 kd,.int .i64 0,.slice none 0 0,.int .i64 0,.string ⟨#[]⟩,.string ⟨#[]⟩,.int .i64 0,.int .i64 0,.slice none 0 0,.int .i64 0,.int .i64 0,.int .i64 0]))
 case first =>
  have HB0:Hid (Below w.heap.size w (((w.alloc (.cells #[.int .u8 kd,.int .i64 i1,.slice a gn cap,.int .i64 t1,.string k1,.string b1,.int .i64 ci,.int .i64 ct,.slice b mn bc,.int .i64 cp,.int .i64 cw,.int .i64 cn] 58)).alloc (.cells #[.int .u8 0,.int .i64 0,.slice none 0 0,.int .i64 0,.string ⟨#[]⟩,.string ⟨#[]⟩,.int .i64 0,.int .i64 0,.slice none 0 0,.int .i64 0,.int .i64 0,.int .i64 0] 58)).alloc (.cells #[.int .u8 kd,.int .i64 0,.slice none 0 0,.int .i64 0,.string ⟨#[]⟩,.string ⟨#[]⟩,.int .i64 0,.int .i64 0,.slice none 0 0,.int .i64 0,.int .i64 0,.int .i64 0] 58))):=LH (by repeat (first|with_reducible (first|exact Below.refl _ _|apply Below.drew|apply below_alloc)|((first|with_reducible refine Below.alloc ?_ ?_ _|with_reducible refine Below.setCell ?_ ?_ _);rotate_left;focus (first|(simp <;> omega)|omega))))
  have HE:Hid (Blk (((w.alloc (.cells #[.int .u8 kd,.int .i64 i1,.slice a gn cap,.int .i64 t1,.string k1,.string b1,.int .i64 ci,.int .i64 ct,.slice b mn bc,.int .i64 cp,.int .i64 cw,.int .i64 cn] 58)).alloc (.cells #[.int .u8 0,.int .i64 0,.slice none 0 0,.int .i64 0,.string ⟨#[]⟩,.string ⟨#[]⟩,.int .i64 0,.int .i64 0,.slice none 0 0,.int .i64 0,.int .i64 0,.int .i64 0] 58)).alloc (.cells #[.int .u8 kd,.int .i64 0,.slice none 0 0,.int .i64 0,.string ⟨#[]⟩,.string ⟨#[]⟩,.int .i64 0,.int .i64 0,.slice none 0 0,.int .i64 0,.int .i64 0,.int .i64 0] 58)) w.heap.size 58 [.int .u8 kd,.int .i64 i1,.slice a gn cap,.int .i64 t1,.string k1,.string b1,.int .i64 ci,.int .i64 ct,.slice b mn bc,.int .i64 cp,.int .i64 cw,.int .i64 cn]∧Blk (((w.alloc (.cells #[.int .u8 kd,.int .i64 i1,.slice a gn cap,.int .i64 t1,.string k1,.string b1,.int .i64 ci,.int .i64 ct,.slice b mn bc,.int .i64 cp,.int .i64 cw,.int .i64 cn] 58)).alloc (.cells #[.int .u8 0,.int .i64 0,.slice none 0 0,.int .i64 0,.string ⟨#[]⟩,.string ⟨#[]⟩,.int .i64 0,.int .i64 0,.slice none 0 0,.int .i64 0,.int .i64 0,.int .i64 0] 58)).alloc (.cells #[.int .u8 kd,.int .i64 0,.slice none 0 0,.int .i64 0,.string ⟨#[]⟩,.string ⟨#[]⟩,.int .i64 0,.int .i64 0,.slice none 0 0,.int .i64 0,.int .i64 0,.int .i64 0] 58)) (w.heap.size+1) 58 [.int .u8 0,.int .i64 0,.slice none 0 0,.int .i64 0,.string ⟨#[]⟩,.string ⟨#[]⟩,.int .i64 0,.int .i64 0,.slice none 0 0,.int .i64 0,.int .i64 0,.int .i64 0]∧Blk (((w.alloc (.cells #[.int .u8 kd,.int .i64 i1,.slice a gn cap,.int .i64 t1,.string k1,.string b1,.int .i64 ci,.int .i64 ct,.slice b mn bc,.int .i64 cp,.int .i64 cw,.int .i64 cn] 58)).alloc (.cells #[.int .u8 0,.int .i64 0,.slice none 0 0,.int .i64 0,.string ⟨#[]⟩,.string ⟨#[]⟩,.int .i64 0,.int .i64 0,.slice none 0 0,.int .i64 0,.int .i64 0,.int .i64 0] 58)).alloc (.cells #[.int .u8 kd,.int .i64 0,.slice none 0 0,.int .i64 0,.string ⟨#[]⟩,.string ⟨#[]⟩,.int .i64 0,.int .i64 0,.slice none 0 0,.int .i64 0,.int .i64 0,.int .i64 0] 58)) (w.heap.size+1+1) 58 [.int .u8 kd,.int .i64 0,.slice none 0 0,.int .i64 0,.string ⟨#[]⟩,.string ⟨#[]⟩,.int .i64 0,.int .i64 0,.slice none 0 0,.int .i64 0,.int .i64 0,.int .i64 0]) :=
   LH ⟨((Blk.new rfl).alloc _).alloc _,(Blk.new (by simp)).alloc _,Blk.new (by simp)⟩
  cases z1
  ·obtain rfl:q=false:=HQ.out
   go_wp2_with fail
   refine Calls.mono (idB_any ci _) ?_
   rintro e w1 ⟨rfl,rfl⟩
   rw [← HZ1.out]
   go_wp2_with fail
   go_meet
   case rel=>exact ⟨rfl,HB0,HE.out.1,HE.out.2.1,HE.out.2.2⟩
  ·cases z2
   ·obtain rfl:q=false:=HQ.out
    go_wp2_with fail
    refine Calls.mono (idB_any ci _) ?_
    rintro e w1 ⟨rfl,rfl⟩
    rw [← HZ1.out]
    go_wp2_with fail
    refine Calls.mono (inB_any cp 0 3 _) ?_
    rintro e w1 ⟨rfl,rfl⟩
    rw [← HZ2.out]
    go_wp2_with fail
    go_meet
    case rel=>exact ⟨rfl,HB0,HE.out.1,HE.out.2.1,HE.out.2.2⟩
   ·obtain rfl:q=z3:=HQ.out
    go_wp2_with fail
    refine Calls.mono (idB_any ci _) ?_
    rintro e w1 ⟨rfl,rfl⟩
    rw [← HZ1.out]
    go_wp2_with fail
    refine Calls.mono (inB_any cp 0 3 _) ?_
    rintro e w1 ⟨rfl,rfl⟩
    rw [← HZ2.out]
    go_wp2_with fail
    refine Calls.mono (inB_any cn 0 1073741824 _) ?_
    rintro e w1 ⟨rfl,rfl⟩
    rw [← HZ3.out]
    go_wp2_with fail
    go_meet
    case rel=>exact ⟨rfl,HB0,HE.out.1,HE.out.2.1,HE.out.2.2⟩
 case rest =>
  obtain ⟨rfl,HB,HP,HRR,HQQ⟩:=hcut
  have hk:=HK.out
  obtain ⟨⟨⟨q0,q1,q2,q3⟩,⟨q4,q5,q6,q7⟩,q8,q9,q10,q11⟩,qz⟩:=cells12 HQQ.out
  have ql:=HQQ.out.lt
  obtain ⟨⟨⟨p0,p1,p2,p3⟩,⟨p4,p5,p6,p7⟩,p8,p9,p10,p11⟩,pz⟩:=cells12 HP.out
  have pl:=HP.out.lt
  obtain ⟨⟨⟨r0,r1,r2,r3⟩,⟨r4,r5,r6,r7⟩,r8,r9,r10,r11⟩,rz⟩:=cells12 HRR.out
  have rl:=HRR.out.lt
  obtain rfl:pc=⟨5,default,ci,0,[],cp,0,cn⟩:=by rw [HPC.out,hk];rfl
  have HOK':=LH (show ok=(idB ci && (inB cp 0 3 && inB cn 0 1073741824)) by rw [HOK.out,hk];rfl)
  clear HOK HPC
  subst hk
  obtain rfl:ok=q:=HOK'.out.trans (by rw [HQ.out,HZ1.out,HZ2.out,HZ3.out])
  go_wp2_with fail
  go_region
  have HQ2:=LH (Blk.drew (((HQQ.out.set_ 6 (.int .i64 ci)).set_ 9 (.int .i64 cp)).set_ 11 (.int .i64 cn)))
  have HR2:=LH (Blk.drew (((HRR.out.far (b:=w.heap.size+1+1) (o:=6) (by omega) (.int .i64 ci)).far (b:=w.heap.size+1+1) (o:=9) (by omega) (.int .i64 cp)).far (b:=w.heap.size+1+1) (o:=11) (by omega) (.int .i64 cn)))
  have HP2:=LH (Blk.drew (((HP.out.far (b:=w.heap.size+1+1) (o:=6) (by omega) (.int .i64 ci)).far (b:=w.heap.size+1+1) (o:=9) (by omega) (.int .i64 cp)).far (b:=w.heap.size+1+1) (o:=11) (by omega) (.int .i64 cn)))
  have HB2:=LH ((((HB.out.setCell (p:=⟨w.heap.size+1+1,6,none⟩) (by simp;omega) (.int .i64 ci)).setCell (p:=⟨w.heap.size+1+1,9,none⟩) (by simp;omega) (.int .i64 cp)).setCell (p:=⟨w.heap.size+1+1,11,none⟩) (by simp;omega) (.int .i64 cn))).drew
  generalize hW:(((wc.setCell ⟨w.heap.size+1+1,6,none⟩ (.int .i64 ci)).setCell ⟨w.heap.size+1+1,9,none⟩ (.int .i64 cp)).setCell ⟨w.heap.size+1+1,11,none⟩ (.int .i64 cn)).drew=W at HQ2 HR2 HP2 HB2 ⊢
  clear q0 q1 q2 q3 q4 q5 q6 q7 q8 q9 q10 q11 qz ql p0 p1 p2 p3 p4 p5 p6 p7 p8 p9 p10 p11 pz pl r0 r1 r2 r3 r4 r5 r6 r7 r8 r9 r10 r11 rz rl hW HP HRR HQQ HB
  obtain ⟨⟨⟨q0,q1,q2,q3⟩,⟨q4,q5,q6,q7⟩,q8,q9,q10,q11⟩,qz⟩:=cells12 HQ2.out
  have ql:=HQ2.out.lt
  obtain ⟨⟨⟨p0,p1,p2,p3⟩,⟨p4,p5,p6,p7⟩,p8,p9,p10,p11⟩,pz⟩:=cells12 HP2.out
  have pl:=HP2.out.lt
  obtain ⟨⟨⟨r0,r1,r2,r3⟩,⟨r4,r5,r6,r7⟩,r8,r9,r10,r11⟩,rz⟩:=cells12 HR2.out
  have rl:=HR2.out.lt
  go_wp2_with fail
  obtain ⟨⟨⟨t0,t1_,t2,t3⟩,⟨t4,t5,t6,t7⟩,t8,t9,t10,t11⟩,-⟩:=cells12 (blk_put12 HR2.out (.int .u8 5) (.int .i64 0) (.slice none 0 0) (.int .i64 0) (.string ⟨#[]⟩) (.string ⟨#[]⟩) (.int .i64 ci) (.int .i64 0) (.slice none 0 0) (.int .i64 cp) (.int .i64 0) (.int .i64 cn))
  have HBF:=((((((((((((HB2.out.setCell (p:=⟨w.heap.size+1,0,none⟩) (by simp) (.int .u8 5)).setCell (p:=⟨w.heap.size+1,1,none⟩) (by simp) (.int .i64 0)).setCell (p:=⟨w.heap.size+1,2,none⟩) (by simp) (.slice none 0 0)).setCell (p:=⟨w.heap.size+1,3,none⟩) (by simp) (.int .i64 0)).setCell (p:=⟨w.heap.size+1,4,none⟩) (by simp) (.string ⟨#[]⟩)).setCell (p:=⟨w.heap.size+1,5,none⟩) (by simp) (.string ⟨#[]⟩)).setCell (p:=⟨w.heap.size+1,6,none⟩) (by simp) (.int .i64 ci)).setCell (p:=⟨w.heap.size+1,7,none⟩) (by simp) (.int .i64 0)).setCell (p:=⟨w.heap.size+1,8,none⟩) (by simp) (.slice none 0 0)).setCell (p:=⟨w.heap.size+1,9,none⟩) (by simp) (.int .i64 cp)).setCell (p:=⟨w.heap.size+1,10,none⟩) (by simp) (.int .i64 0)).setCell (p:=⟨w.heap.size+1,11,none⟩) (by simp) (.int .i64 cn))
  obtain rfl:=HGN.out
  obtain rfl:=HMN.out
  exact bodyPost_ret (v:=.tuple #[.agg #[.int .u8 5,.int .i64 0,.slice none 0 0,.int .i64 0,.string ⟨#[]⟩,.string ⟨#[]⟩,.int .i64 ci,.int .i64 0,.slice none 0 0,.int .i64 cp,.int .i64 0,.int .i64 cn],.bool ok]) (by simp [results,Tryz.results70,go_sem,t0,t1_,t2,t3,t4,t5,t6,t7,t8,t9,t10,t11]) rfl ⟨_,rfl,⟨none,0,none,0,rfl,ints_nil _,ints_nil _⟩,HBF⟩
set_option maxHeartbeats 8000000 in
set_option maxRecDepth 100000 in
theorem plain_k6 {v:Value} {c:PC} {w:World} (h:ComR w v c) (hk:c.kind=6):Calls Tryz.prog 70 #[v] w (PlainEnd (pC c) (okP c) w):=by
 obtain ⟨a,cap,b,bc,rfl,hg,hm⟩:=h
 obtain ⟨q,hq⟩:∃ q,q=onT c:=⟨_,rfl⟩
 have HPC:=LH (show pC c=pC c from rfl)
 have HOK:=LH (show okP c=okP c from rfl)
 obtain ⟨pc,hpc⟩:∃ pc,pc=pC c:=⟨_,rfl⟩
 obtain ⟨ok,hok⟩:∃ ok,ok=okP c:=⟨_,rfl⟩
 rw [← hpc,← hok]
 clear HPC HOK
 obtain ⟨kd,⟨i1,g1,t1,k1,b1⟩,ci,ct,ml,cp,cw,cn⟩:=c
 simp only [onT] at hq hg hm hk ⊢
 have HK:=LH hk
 clear hk
 have HQ:=LH hq
 have HPC:=LH hpc
 have HOK:=LH hok
 have G:=LH hg
 have M:=LH hm
 obtain ⟨gn,hgn⟩:∃ n,n=g1.length:=⟨_,rfl⟩
 obtain ⟨mn,hmn⟩:∃ n,n=ml.length:=⟨_,rfl⟩
 rw [← hgn] at G ⊢
 rw [← hmn] at M ⊢
 have HGN:=LH hgn
 have HMN:=LH hmn
 clear hq hg hm hpc hok hgn hmn
 obtain ⟨z1,hz1⟩:∃ z:Bool,z=idB ci:=⟨_,rfl⟩
 obtain ⟨z2,hz2⟩:∃ z:Bool,z=inB cp 0 3:=⟨_,rfl⟩
 obtain ⟨z3,hz3⟩:∃ z:Bool,z=inB cn 0 1073741824:=⟨_,rfl⟩
 have HZ1:=LH hz1
 have HZ2:=LH hz2
 have HZ3:=LH hz3
 rw [← hz1,← hz2,← hz3] at HQ
 clear hz1 hz2 hz3
 go_enter Tryz.func70,Tryz.ntmps70
 go_upto_region 2 with fail
 go_cut [5] (fun c wx=>c=.bool q∧Hid (Below w.heap.size w wx)∧Hid (Blk wx w.heap.size 58 [.int .u8 kd,.int .i64 i1,.slice a gn cap,.int .i64 t1,.string k1,.string b1,.int .i64 ci,.int .i64 ct,.slice b mn bc,.int .i64 cp,.int .i64 cw,.int .i64 cn])∧Hid (Blk wx (w.heap.size+1) 58 [.int .u8 0,.int .i64 0,.slice none 0 0,.int .i64 0,.string ⟨#[]⟩,.string ⟨#[]⟩,.int .i64 0,.int .i64 0,.slice none 0 0,.int .i64 0,.int .i64 0,.int .i64 0])∧Hid (Blk wx (w.heap.size+1+1) 58 [.int .u8 kd,.int .i64 0,.slice none 0 0,.int .i64 0,.string ⟨#[]⟩,.string ⟨#[]⟩,.int .i64 0,.int .i64 0,.slice none 0 0,.int .i64 0,.int .i64 0,.int .i64 0]))
 case first =>
  have HB0:Hid (Below w.heap.size w (((w.alloc (.cells #[.int .u8 kd,.int .i64 i1,.slice a gn cap,.int .i64 t1,.string k1,.string b1,.int .i64 ci,.int .i64 ct,.slice b mn bc,.int .i64 cp,.int .i64 cw,.int .i64 cn] 58)).alloc (.cells #[.int .u8 0,.int .i64 0,.slice none 0 0,.int .i64 0,.string ⟨#[]⟩,.string ⟨#[]⟩,.int .i64 0,.int .i64 0,.slice none 0 0,.int .i64 0,.int .i64 0,.int .i64 0] 58)).alloc (.cells #[.int .u8 kd,.int .i64 0,.slice none 0 0,.int .i64 0,.string ⟨#[]⟩,.string ⟨#[]⟩,.int .i64 0,.int .i64 0,.slice none 0 0,.int .i64 0,.int .i64 0,.int .i64 0] 58))):=LH (by repeat (first|with_reducible (first|exact Below.refl _ _|apply Below.drew|apply below_alloc)|((first|with_reducible refine Below.alloc ?_ ?_ _|with_reducible refine Below.setCell ?_ ?_ _);rotate_left;focus (first|(simp <;> omega)|omega))))
  have HE:Hid (Blk (((w.alloc (.cells #[.int .u8 kd,.int .i64 i1,.slice a gn cap,.int .i64 t1,.string k1,.string b1,.int .i64 ci,.int .i64 ct,.slice b mn bc,.int .i64 cp,.int .i64 cw,.int .i64 cn] 58)).alloc (.cells #[.int .u8 0,.int .i64 0,.slice none 0 0,.int .i64 0,.string ⟨#[]⟩,.string ⟨#[]⟩,.int .i64 0,.int .i64 0,.slice none 0 0,.int .i64 0,.int .i64 0,.int .i64 0] 58)).alloc (.cells #[.int .u8 kd,.int .i64 0,.slice none 0 0,.int .i64 0,.string ⟨#[]⟩,.string ⟨#[]⟩,.int .i64 0,.int .i64 0,.slice none 0 0,.int .i64 0,.int .i64 0,.int .i64 0] 58)) w.heap.size 58 [.int .u8 kd,.int .i64 i1,.slice a gn cap,.int .i64 t1,.string k1,.string b1,.int .i64 ci,.int .i64 ct,.slice b mn bc,.int .i64 cp,.int .i64 cw,.int .i64 cn]∧Blk (((w.alloc (.cells #[.int .u8 kd,.int .i64 i1,.slice a gn cap,.int .i64 t1,.string k1,.string b1,.int .i64 ci,.int .i64 ct,.slice b mn bc,.int .i64 cp,.int .i64 cw,.int .i64 cn] 58)).alloc (.cells #[.int .u8 0,.int .i64 0,.slice none 0 0,.int .i64 0,.string ⟨#[]⟩,.string ⟨#[]⟩,.int .i64 0,.int .i64 0,.slice none 0 0,.int .i64 0,.int .i64 0,.int .i64 0] 58)).alloc (.cells #[.int .u8 kd,.int .i64 0,.slice none 0 0,.int .i64 0,.string ⟨#[]⟩,.string ⟨#[]⟩,.int .i64 0,.int .i64 0,.slice none 0 0,.int .i64 0,.int .i64 0,.int .i64 0] 58)) (w.heap.size+1) 58 [.int .u8 0,.int .i64 0,.slice none 0 0,.int .i64 0,.string ⟨#[]⟩,.string ⟨#[]⟩,.int .i64 0,.int .i64 0,.slice none 0 0,.int .i64 0,.int .i64 0,.int .i64 0]∧Blk (((w.alloc (.cells #[.int .u8 kd,.int .i64 i1,.slice a gn cap,.int .i64 t1,.string k1,.string b1,.int .i64 ci,.int .i64 ct,.slice b mn bc,.int .i64 cp,.int .i64 cw,.int .i64 cn] 58)).alloc (.cells #[.int .u8 0,.int .i64 0,.slice none 0 0,.int .i64 0,.string ⟨#[]⟩,.string ⟨#[]⟩,.int .i64 0,.int .i64 0,.slice none 0 0,.int .i64 0,.int .i64 0,.int .i64 0] 58)).alloc (.cells #[.int .u8 kd,.int .i64 0,.slice none 0 0,.int .i64 0,.string ⟨#[]⟩,.string ⟨#[]⟩,.int .i64 0,.int .i64 0,.slice none 0 0,.int .i64 0,.int .i64 0,.int .i64 0] 58)) (w.heap.size+1+1) 58 [.int .u8 kd,.int .i64 0,.slice none 0 0,.int .i64 0,.string ⟨#[]⟩,.string ⟨#[]⟩,.int .i64 0,.int .i64 0,.slice none 0 0,.int .i64 0,.int .i64 0,.int .i64 0]) :=
   LH ⟨((Blk.new rfl).alloc _).alloc _,(Blk.new (by simp)).alloc _,Blk.new (by simp)⟩
  cases z1
  ·obtain rfl:q=false:=HQ.out
   go_wp2_with fail
   refine Calls.mono (idB_any ci _) ?_
   rintro e w1 ⟨rfl,rfl⟩
   rw [← HZ1.out]
   go_wp2_with fail
   go_meet
   case rel=>exact ⟨rfl,HB0,HE.out.1,HE.out.2.1,HE.out.2.2⟩
  ·cases z2
   ·obtain rfl:q=false:=HQ.out
    go_wp2_with fail
    refine Calls.mono (idB_any ci _) ?_
    rintro e w1 ⟨rfl,rfl⟩
    rw [← HZ1.out]
    go_wp2_with fail
    refine Calls.mono (inB_any cp 0 3 _) ?_
    rintro e w1 ⟨rfl,rfl⟩
    rw [← HZ2.out]
    go_wp2_with fail
    go_meet
    case rel=>exact ⟨rfl,HB0,HE.out.1,HE.out.2.1,HE.out.2.2⟩
   ·obtain rfl:q=z3:=HQ.out
    go_wp2_with fail
    refine Calls.mono (idB_any ci _) ?_
    rintro e w1 ⟨rfl,rfl⟩
    rw [← HZ1.out]
    go_wp2_with fail
    refine Calls.mono (inB_any cp 0 3 _) ?_
    rintro e w1 ⟨rfl,rfl⟩
    rw [← HZ2.out]
    go_wp2_with fail
    refine Calls.mono (inB_any cn 0 1073741824 _) ?_
    rintro e w1 ⟨rfl,rfl⟩
    rw [← HZ3.out]
    go_wp2_with fail
    go_meet
    case rel=>exact ⟨rfl,HB0,HE.out.1,HE.out.2.1,HE.out.2.2⟩
 case rest =>
  obtain ⟨rfl,HB,HP,HRR,HQQ⟩:=hcut
  have hk:=HK.out
  obtain ⟨⟨⟨q0,q1,q2,q3⟩,⟨q4,q5,q6,q7⟩,q8,q9,q10,q11⟩,qz⟩:=cells12 HQQ.out
  have ql:=HQQ.out.lt
  obtain ⟨⟨⟨p0,p1,p2,p3⟩,⟨p4,p5,p6,p7⟩,p8,p9,p10,p11⟩,pz⟩:=cells12 HP.out
  have pl:=HP.out.lt
  obtain ⟨⟨⟨r0,r1,r2,r3⟩,⟨r4,r5,r6,r7⟩,r8,r9,r10,r11⟩,rz⟩:=cells12 HRR.out
  have rl:=HRR.out.lt
  obtain rfl:pc=⟨6,default,ci,0,[],cp,0,cn⟩:=by rw [HPC.out,hk];rfl
  have HOK':=LH (show ok=(idB ci && (inB cp 0 3 && inB cn 0 1073741824)) by rw [HOK.out,hk];rfl)
  clear HOK HPC
  subst hk
  obtain rfl:ok=q:=HOK'.out.trans (by rw [HQ.out,HZ1.out,HZ2.out,HZ3.out])
  go_wp2_with fail
  go_region
  have HQ2:=LH (Blk.drew (((HQQ.out.set_ 6 (.int .i64 ci)).set_ 9 (.int .i64 cp)).set_ 11 (.int .i64 cn)))
  have HR2:=LH (Blk.drew (((HRR.out.far (b:=w.heap.size+1+1) (o:=6) (by omega) (.int .i64 ci)).far (b:=w.heap.size+1+1) (o:=9) (by omega) (.int .i64 cp)).far (b:=w.heap.size+1+1) (o:=11) (by omega) (.int .i64 cn)))
  have HP2:=LH (Blk.drew (((HP.out.far (b:=w.heap.size+1+1) (o:=6) (by omega) (.int .i64 ci)).far (b:=w.heap.size+1+1) (o:=9) (by omega) (.int .i64 cp)).far (b:=w.heap.size+1+1) (o:=11) (by omega) (.int .i64 cn)))
  have HB2:=LH ((((HB.out.setCell (p:=⟨w.heap.size+1+1,6,none⟩) (by simp;omega) (.int .i64 ci)).setCell (p:=⟨w.heap.size+1+1,9,none⟩) (by simp;omega) (.int .i64 cp)).setCell (p:=⟨w.heap.size+1+1,11,none⟩) (by simp;omega) (.int .i64 cn))).drew
  generalize hW:(((wc.setCell ⟨w.heap.size+1+1,6,none⟩ (.int .i64 ci)).setCell ⟨w.heap.size+1+1,9,none⟩ (.int .i64 cp)).setCell ⟨w.heap.size+1+1,11,none⟩ (.int .i64 cn)).drew=W at HQ2 HR2 HP2 HB2 ⊢
  clear q0 q1 q2 q3 q4 q5 q6 q7 q8 q9 q10 q11 qz ql p0 p1 p2 p3 p4 p5 p6 p7 p8 p9 p10 p11 pz pl r0 r1 r2 r3 r4 r5 r6 r7 r8 r9 r10 r11 rz rl hW HP HRR HQQ HB
  obtain ⟨⟨⟨q0,q1,q2,q3⟩,⟨q4,q5,q6,q7⟩,q8,q9,q10,q11⟩,qz⟩:=cells12 HQ2.out
  have ql:=HQ2.out.lt
  obtain ⟨⟨⟨p0,p1,p2,p3⟩,⟨p4,p5,p6,p7⟩,p8,p9,p10,p11⟩,pz⟩:=cells12 HP2.out
  have pl:=HP2.out.lt
  obtain ⟨⟨⟨r0,r1,r2,r3⟩,⟨r4,r5,r6,r7⟩,r8,r9,r10,r11⟩,rz⟩:=cells12 HR2.out
  have rl:=HR2.out.lt
  go_wp2_with fail
  obtain ⟨⟨⟨t0,t1_,t2,t3⟩,⟨t4,t5,t6,t7⟩,t8,t9,t10,t11⟩,-⟩:=cells12 (blk_put12 HR2.out (.int .u8 6) (.int .i64 0) (.slice none 0 0) (.int .i64 0) (.string ⟨#[]⟩) (.string ⟨#[]⟩) (.int .i64 ci) (.int .i64 0) (.slice none 0 0) (.int .i64 cp) (.int .i64 0) (.int .i64 cn))
  have HBF:=((((((((((((HB2.out.setCell (p:=⟨w.heap.size+1,0,none⟩) (by simp) (.int .u8 6)).setCell (p:=⟨w.heap.size+1,1,none⟩) (by simp) (.int .i64 0)).setCell (p:=⟨w.heap.size+1,2,none⟩) (by simp) (.slice none 0 0)).setCell (p:=⟨w.heap.size+1,3,none⟩) (by simp) (.int .i64 0)).setCell (p:=⟨w.heap.size+1,4,none⟩) (by simp) (.string ⟨#[]⟩)).setCell (p:=⟨w.heap.size+1,5,none⟩) (by simp) (.string ⟨#[]⟩)).setCell (p:=⟨w.heap.size+1,6,none⟩) (by simp) (.int .i64 ci)).setCell (p:=⟨w.heap.size+1,7,none⟩) (by simp) (.int .i64 0)).setCell (p:=⟨w.heap.size+1,8,none⟩) (by simp) (.slice none 0 0)).setCell (p:=⟨w.heap.size+1,9,none⟩) (by simp) (.int .i64 cp)).setCell (p:=⟨w.heap.size+1,10,none⟩) (by simp) (.int .i64 0)).setCell (p:=⟨w.heap.size+1,11,none⟩) (by simp) (.int .i64 cn))
  obtain rfl:=HGN.out
  obtain rfl:=HMN.out
  exact bodyPost_ret (v:=.tuple #[.agg #[.int .u8 6,.int .i64 0,.slice none 0 0,.int .i64 0,.string ⟨#[]⟩,.string ⟨#[]⟩,.int .i64 ci,.int .i64 0,.slice none 0 0,.int .i64 cp,.int .i64 0,.int .i64 cn],.bool ok]) (by simp [results,Tryz.results70,go_sem,t0,t1_,t2,t3,t4,t5,t6,t7,t8,t9,t10,t11]) rfl ⟨_,rfl,⟨none,0,none,0,rfl,ints_nil _,ints_nil _⟩,HBF⟩
set_option maxHeartbeats 8000000 in
set_option maxRecDepth 100000 in
theorem rd_k9a {w0 w:World} {g:Nat} {l:List Int} {o:Bool} {k:Int} (h:RdS w0 w g l o) (hk:k=min (nN l) 255) (hkk:255 < nN l) {c:PC} {l':List Int} {o':Bool} (hr:((⟨255,default,0,0,[],0,0,0⟩:PC),nL l,nO l o)=(c,l',o')) :
  Calls Tryz.prog 62 #[.pointer (some ⟨g,0,none⟩)] w (RdCEnd w0 g c l' o' w):=by
 obtain ⟨n0,hn0⟩:∃ n,n=nN l:=⟨_,rfl⟩
 obtain ⟨l0,hl0⟩:∃ x,x=nL l:=⟨_,rfl⟩
 obtain ⟨o0,ho0⟩:∃ x,x=nO l o:=⟨_,rfl⟩
 have hpos:=nN_pos l
 rw [← hn0] at hk hpos
 rw [← hl0,← ho0] at hr
 have gl:g < w.heap.size:=by obtain ⟨_,_,hb,_⟩:=h;exact hb.lt
 have HR:=LH hr
 have RD:=LH h
 have HN0:=LH hn0
 have HL0:=LH hl0
 have HO0:=LH ho0
 clear h hr hn0 hl0 ho0
 rw [← HN0.out] at hkk
 obtain rfl:k=255:=by omega
 clear hk
 go_enter Tryz.func62,Tryz.ntmps62
 go_wp2_with fail
 refine Calls.mono (numbers_any (RD.out.keep (below_alloc (Below.refl _ _))) HN0.out HL0.out HO0.out) ?_
 rintro e w1 ⟨rfl,hrd,hf⟩
 have HZ:Hid (Blk w1 w.heap.size 58 [.int .u8 0,.int .i64 0,.slice none 0 0,.int .i64 0,.string ⟨#[]⟩,.string ⟨#[]⟩,.int .i64 0,.int .i64 0,.slice none 0 0,.int .i64 0,.int .i64 0,.int .i64 0]):=LH ((Blk.new rfl).frG hf (by omega))
 have FR:=LH (FrG.down (below_alloc (Below.refl _ _)) hf (Nat.le_of_lt gl))
 have RD:=LH hrd
 have s1:w.heap.size < w1.heap.size:=HZ.out.lt
 clear hrd hf
 go_upto_region 3 with fail
 have HC:Hid (Blk (w1.alloc (.cells #[.int .u8 255,.int .i64 0,.slice none 0 0,.int .i64 0,.string ⟨#[]⟩,.string ⟨#[]⟩,.int .i64 0,.int .i64 0,.slice none 0 0,.int .i64 0,.int .i64 0,.int .i64 0] 58)) w1.heap.size 58 [.int .u8 255,.int .i64 0,.slice none 0 0,.int .i64 0,.string ⟨#[]⟩,.string ⟨#[]⟩,.int .i64 0,.int .i64 0,.slice none 0 0,.int .i64 0,.int .i64 0,.int .i64 0]):=LH (Blk.new rfl)
 replace HZ:Hid (Blk (w1.alloc (.cells #[.int .u8 255,.int .i64 0,.slice none 0 0,.int .i64 0,.string ⟨#[]⟩,.string ⟨#[]⟩,.int .i64 0,.int .i64 0,.slice none 0 0,.int .i64 0,.int .i64 0,.int .i64 0] 58)) w.heap.size 58 [.int .u8 0,.int .i64 0,.slice none 0 0,.int .i64 0,.string ⟨#[]⟩,.string ⟨#[]⟩,.int .i64 0,.int .i64 0,.slice none 0 0,.int .i64 0,.int .i64 0,.int .i64 0]):=LH (Blk.alloc HZ.out _)
 replace RD:Hid (RdS w0 (w1.alloc (.cells #[.int .u8 255,.int .i64 0,.slice none 0 0,.int .i64 0,.string ⟨#[]⟩,.string ⟨#[]⟩,.int .i64 0,.int .i64 0,.slice none 0 0,.int .i64 0,.int .i64 0,.int .i64 0] 58)) g l0 o0):=LH (RD.out.keep (below_alloc (Below.refl _ _)))
 replace FR:Hid (FrG g w (w1.alloc (.cells #[.int .u8 255,.int .i64 0,.slice none 0 0,.int .i64 0,.string ⟨#[]⟩,.string ⟨#[]⟩,.int .i64 0,.int .i64 0,.slice none 0 0,.int .i64 0,.int .i64 0,.int .i64 0] 58))):=LH (FR.out.up (below_alloc (Below.refl _ _)) (Nat.le_of_lt gl))
 generalize hW:w1.alloc (.cells #[.int .u8 255,.int .i64 0,.slice none 0 0,.int .i64 0,.string ⟨#[]⟩,.string ⟨#[]⟩,.int .i64 0,.int .i64 0,.slice none 0 0,.int .i64 0,.int .i64 0,.int .i64 0] 58)=W0 at HC HZ RD FR ⊢
 have sc:=HC.out.lt
 clear hW
 obtain ⟨⟨⟨c0,c1,c2,c3⟩,⟨c4,c5,c6,c7⟩,c8,c9,c10,c11⟩,cz⟩:=cells12 HC.out
 have hfin:=HR.out
 skip
 cases hfin
 obtain ⟨⟨⟨e0,e1,e2,e3⟩,⟨e4,e5,e6,e7⟩,e8,e9,e10,e11⟩,ez⟩:=cells12 HZ.out
 have el:=HZ.out.lt
 go_wp2_with fail
 obtain ⟨⟨⟨t0,t1_,t2,t3⟩,⟨t4,t5,t6,t7⟩,t8,t9,t10,t11⟩,-⟩:=cells12 (blk_put12 HZ.out (.int .u8 255) (.int .i64 0) (.slice none 0 0) (.int .i64 0) (.string ⟨#[]⟩) (.string ⟨#[]⟩) (.int .i64 0) (.int .i64 0) (.slice none 0 0) (.int .i64 0) (.int .i64 0) (.int .i64 0))
 exact bodyPost_ret (v:=.agg #[.int .u8 255,.int .i64 0,.slice none 0 0,.int .i64 0,.string ⟨#[]⟩,.string ⟨#[]⟩,.int .i64 0,.int .i64 0,.slice none 0 0,.int .i64 0,.int .i64 0,.int .i64 0]) (by simp [results,Tryz.results62,go_sem,t0,t1_,t2,t3,t4,t5,t6,t7,t8,t9,t10,t11]) rfl ⟨_,rfl,⟨none,0,none,0,rfl,ownI_nil _ _,ownI_nil _ _⟩,((((((((((((RD.out.far (b:=w.heap.size) (o:=0) (v:=.int .u8 255) gl).far (b:=w.heap.size) (o:=1) (v:=.int .i64 0) gl).far (b:=w.heap.size) (o:=2) (v:=.slice none 0 0) gl).far (b:=w.heap.size) (o:=3) (v:=.int .i64 0) gl).far (b:=w.heap.size) (o:=4) (v:=.string ⟨#[]⟩) gl).far (b:=w.heap.size) (o:=5) (v:=.string ⟨#[]⟩) gl).far (b:=w.heap.size) (o:=6) (v:=.int .i64 0) gl).far (b:=w.heap.size) (o:=7) (v:=.int .i64 0) gl).far (b:=w.heap.size) (o:=8) (v:=.slice none 0 0) gl).far (b:=w.heap.size) (o:=9) (v:=.int .i64 0) gl).far (b:=w.heap.size) (o:=10) (v:=.int .i64 0) gl).far (b:=w.heap.size) (o:=11) (v:=.int .i64 0) gl),((((((((((((FR.out.set_ (b:=w.heap.size) (o:=0) (v:=.int .u8 255) (Nat.le_of_lt gl) (Nat.le_refl _)).set_ (b:=w.heap.size) (o:=1) (v:=.int .i64 0) (Nat.le_of_lt gl) (Nat.le_refl _)).set_ (b:=w.heap.size) (o:=2) (v:=.slice none 0 0) (Nat.le_of_lt gl) (Nat.le_refl _)).set_ (b:=w.heap.size) (o:=3) (v:=.int .i64 0) (Nat.le_of_lt gl) (Nat.le_refl _)).set_ (b:=w.heap.size) (o:=4) (v:=.string ⟨#[]⟩) (Nat.le_of_lt gl) (Nat.le_refl _)).set_ (b:=w.heap.size) (o:=5) (v:=.string ⟨#[]⟩) (Nat.le_of_lt gl) (Nat.le_refl _)).set_ (b:=w.heap.size) (o:=6) (v:=.int .i64 0) (Nat.le_of_lt gl) (Nat.le_refl _)).set_ (b:=w.heap.size) (o:=7) (v:=.int .i64 0) (Nat.le_of_lt gl) (Nat.le_refl _)).set_ (b:=w.heap.size) (o:=8) (v:=.slice none 0 0) (Nat.le_of_lt gl) (Nat.le_refl _)).set_ (b:=w.heap.size) (o:=9) (v:=.int .i64 0) (Nat.le_of_lt gl) (Nat.le_refl _)).set_ (b:=w.heap.size) (o:=10) (v:=.int .i64 0) (Nat.le_of_lt gl) (Nat.le_refl _)).set_ (b:=w.heap.size) (o:=11) (v:=.int .i64 0) (Nat.le_of_lt gl) (Nat.le_refl _))⟩
end Go.Proofs.YtkkohllhebdlcaaGreatDoor
