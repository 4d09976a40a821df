/-
  Proved here: command.plain at one kind of commands. No condition but the kind. command.Same: it compares commands. No condition.
-/
import Derived.Test.YtkkohllhebdlcaaGreatDoorY16
set_option maxRecDepth 100000
namespace Go.Proofs.YtkkohllhebdlcaaGreatDoor
open Go.RowKit
set_option maxHeartbeats 8000000 in
set_option maxRecDepth 100000 in
theorem plain_k0 {v:Value} {c:PC} {w:World} (h:ComR w v c) (hk:c.kind=0):Calls Tryz.prog 70 #[v] w (PlainEnd (pC c) (okP c) w):=by
 obtain ⟨a,cap,b,bc,rfl,hg,hm⟩:=h
 obtain ⟨q,hq⟩:∃ q,q=onT c:=⟨_,rfl⟩
 have HPC:=LH (show pC c=pC c from rfl)
 have HOK:=LH (show okP c=okP c from rfl)
 obtain ⟨pc,hpc⟩:∃ pc,pc=pC c:=⟨_,rfl⟩
 obtain ⟨ok,hok⟩:∃ ok,ok=okP c:=⟨_,rfl⟩
 rw [← hpc,← hok]
 clear HPC HOK
 obtain ⟨kd,⟨i1,g1,t1,k1,b1⟩,ci,ct,ml,cp,cw,cn⟩:=c
 simp only [onT] at hq hg hm hk ⊢
 have HK:=LH hk
 clear hk
 have HQ:=LH hq
 have HPC:=LH hpc
 have HOK:=LH hok
 have G:=LH hg
 have M:=LH hm
 obtain ⟨gn,hgn⟩:∃ n,n=g1.length:=⟨_,rfl⟩
 obtain ⟨mn,hmn⟩:∃ n,n=ml.length:=⟨_,rfl⟩
 rw [← hgn] at G ⊢
 rw [← hmn] at M ⊢
 have HGN:=LH hgn
 have HMN:=LH hmn
 clear hq hg hm hpc hok hgn hmn
 obtain ⟨z1,hz1⟩:∃ z:Bool,z=idB ci:=⟨_,rfl⟩
 obtain ⟨z2,hz2⟩:∃ z:Bool,z=inB cp 0 3:=⟨_,rfl⟩
 obtain ⟨z3,hz3⟩:∃ z:Bool,z=inB cn 0 1073741824:=⟨_,rfl⟩
 have HZ1:=LH hz1
 have HZ2:=LH hz2
 have HZ3:=LH hz3
 rw [← hz1,← hz2,← hz3] at HQ
 clear hz1 hz2 hz3
 go_enter Tryz.func70,Tryz.ntmps70
 go_upto_region 2 with fail
 go_cut [5] (fun c wx=>c=.bool q∧Hid (Below w.heap.size w wx)∧Hid (Blk wx w.heap.size 58 [.int .u8 kd,.int .i64 i1,.slice a gn cap,.int .i64 t1,.string k1,.string b1,.int .i64 ci,.int .i64 ct,.slice b mn bc,.int .i64 cp,.int .i64 cw,.int .i64 cn])∧Hid (Blk wx (w.heap.size+1) 58 [.int .u8 0,.int .i64 0,.slice none 0 0,.int .i64 0,.string ⟨#[]⟩,.string ⟨#[]⟩,.int .i64 0,.int .i64 0,.slice none 0 0,.int .i64 0,.int .i64 0,.int .i64 0])∧Hid (Blk wx (w.heap.size+1+1) 58 [.int .u8 kd,.int .i64 0,.slice none 0 0,.int .i64 0,.string ⟨#[]⟩,.string ⟨#[]⟩,.int .i64 0,.int .i64 0,.slice none 0 0,.int .i64 0,.int .i64 0,.int .i64 0]))
 case first =>
  have HB0:Hid (Below w.heap.size w (((w.alloc (.cells #[.int .u8 kd,.int .i64 i1,.slice a gn cap,.int .i64 t1,.string k1,.string b1,.int .i64 ci,.int .i64 ct,.slice b mn bc,.int .i64 cp,.int .i64 cw,.int .i64 cn] 58)).alloc (.cells #[.int .u8 0,.int .i64 0,.slice none 0 0,.int .i64 0,.string ⟨#[]⟩,.string ⟨#[]⟩,.int .i64 0,.int .i64 0,.slice none 0 0,.int .i64 0,.int .i64 0,.int .i64 0] 58)).alloc (.cells #[.int .u8 kd,.int .i64 0,.slice none 0 0,.int .i64 0,.string ⟨#[]⟩,.string ⟨#[]⟩,.int .i64 0,.int .i64 0,.slice none 0 0,.int .i64 0,.int .i64 0,.int .i64 0] 58))):=LH (by repeat (first|with_reducible (first|exact Below.refl _ _|apply Below.drew|apply below_alloc)|((first|with_reducible refine Below.alloc ?_ ?_ _|with_reducible refine Below.setCell ?_ ?_ _);rotate_left;focus (first|(simp <;> omega)|omega))))
  have HE:Hid (Blk (((w.alloc (.cells #[.int .u8 kd,.int .i64 i1,.slice a gn cap,.int .i64 t1,.string k1,.string b1,.int .i64 ci,.int .i64 ct,.slice b mn bc,.int .i64 cp,.int .i64 cw,.int .i64 cn] 58)).alloc (.cells #[.int .u8 0,.int .i64 0,.slice none 0 0,.int .i64 0,.string ⟨#[]⟩,.string ⟨#[]⟩,.int .i64 0,.int .i64 0,.slice none 0 0,.int .i64 0,.int .i64 0,.int .i64 0] 58)).alloc (.cells #[.int .u8 kd,.int .i64 0,.slice none 0 0,.int .i64 0,.string ⟨#[]⟩,.string ⟨#[]⟩,.int .i64 0,.int .i64 0,.slice none 0 0,.int .i64 0,.int .i64 0,.int .i64 0] 58)) w.heap.size 58 [.int .u8 kd,.int .i64 i1,.slice a gn cap,.int .i64 t1,.string k1,.string b1,.int .i64 ci,.int .i64 ct,.slice b mn bc,.int .i64 cp,.int .i64 cw,.int .i64 cn]∧Blk (((w.alloc (.cells #[.int .u8 kd,.int .i64 i1,.slice a gn cap,.int .i64 t1,.string k1,.string b1,.int .i64 ci,.int .i64 ct,.slice b mn bc,.int .i64 cp,.int .i64 cw,.int .i64 cn] 58)).alloc (.cells #[.int .u8 0,.int .i64 0,.slice none 0 0,.int .i64 0,.string ⟨#[]⟩,.string ⟨#[]⟩,.int .i64 0,.int .i64 0,.slice none 0 0,.int .i64 0,.int .i64 0,.int .i64 0] 58)).alloc (.cells #[.int .u8 kd,.int .i64 0,.slice none 0 0,.int .i64 0,.string ⟨#[]⟩,.string ⟨#[]⟩,.int .i64 0,.int .i64 0,.slice none 0 0,.int .i64 0,.int .i64 0,.int .i64 0] 58)) (w.heap.size+1) 58 [.int .u8 0,.int .i64 0,.slice none 0 0,.int .i64 0,.string ⟨#[]⟩,.string ⟨#[]⟩,.int .i64 0,.int .i64 0,.slice none 0 0,.int .i64 0,.int .i64 0,.int .i64 0]∧Blk (((w.alloc (.cells #[.int .u8 kd,.int .i64 i1,.slice a gn cap,.int .i64 t1,.string k1,.string b1,.int .i64 ci,.int .i64 ct,.slice b mn bc,.int .i64 cp,.int .i64 cw,.int .i64 cn] 58)).alloc (.cells #[.int .u8 0,.int .i64 0,.slice none 0 0,.int .i64 0,.string ⟨#[]⟩,.string ⟨#[]⟩,.int .i64 0,.int .i64 0,.slice none 0 0,.int .i64 0,.int .i64 0,.int .i64 0] 58)).alloc (.cells #[.int .u8 kd,.int .i64 0,.slice none 0 0,.int .i64 0,.string ⟨#[]⟩,.string ⟨#[]⟩,.int .i64 0,.int .i64 0,.slice none 0 0,.int .i64 0,.int .i64 0,.int .i64 0] 58)) (w.heap.size+1+1) 58 [.int .u8 kd,.int .i64 0,.slice none 0 0,.int .i64 0,.string ⟨#[]⟩,.string ⟨#[]⟩,.int .i64 0,.int .i64 0,.slice none 0 0,.int .i64 0,.int .i64 0,.int .i64 0]) :=
   LH ⟨((Blk.new rfl).alloc _).alloc _,(Blk.new (by simp)).alloc _,Blk.new (by simp)⟩
  cases z1
  ·obtain rfl:q=false:=HQ.out
   go_wp2_with fail
   refine Calls.mono (idB_any ci _) ?_
   rintro e w1 ⟨rfl,rfl⟩
   rw [← HZ1.out]
   go_wp2_with fail
   go_meet
   case rel=>exact ⟨rfl,HB0,HE.out.1,HE.out.2.1,HE.out.2.2⟩
  ·cases z2
   ·obtain rfl:q=false:=HQ.out
    go_wp2_with fail
    refine Calls.mono (idB_any ci _) ?_
    rintro e w1 ⟨rfl,rfl⟩
    rw [← HZ1.out]
    go_wp2_with fail
    refine Calls.mono (inB_any cp 0 3 _) ?_
    rintro e w1 ⟨rfl,rfl⟩
    rw [← HZ2.out]
    go_wp2_with fail
    go_meet
    case rel=>exact ⟨rfl,HB0,HE.out.1,HE.out.2.1,HE.out.2.2⟩
   ·obtain rfl:q=z3:=HQ.out
    go_wp2_with fail
    refine Calls.mono (idB_any ci _) ?_
    rintro e w1 ⟨rfl,rfl⟩
    rw [← HZ1.out]
    go_wp2_with fail
    refine Calls.mono (inB_any cp 0 3 _) ?_
    rintro e w1 ⟨rfl,rfl⟩
    rw [← HZ2.out]
    go_wp2_with fail
    refine Calls.mono (inB_any cn 0 1073741824 _) ?_
    rintro e w1 ⟨rfl,rfl⟩
    rw [← HZ3.out]
    go_wp2_with fail
    go_meet
    case rel=>exact ⟨rfl,HB0,HE.out.1,HE.out.2.1,HE.out.2.2⟩
 case rest =>
  obtain ⟨rfl,HB,HP,HRR,HQQ⟩:=hcut
  have hk:=HK.out
  obtain ⟨⟨⟨q0,q1,q2,q3⟩,⟨q4,q5,q6,q7⟩,q8,q9,q10,q11⟩,qz⟩:=cells12 HQQ.out
  have ql:=HQQ.out.lt
  obtain ⟨⟨⟨p0,p1,p2,p3⟩,⟨p4,p5,p6,p7⟩,p8,p9,p10,p11⟩,pz⟩:=cells12 HP.out
  have pl:=HP.out.lt
  obtain ⟨⟨⟨r0,r1,r2,r3⟩,⟨r4,r5,r6,r7⟩,r8,r9,r10,r11⟩,rz⟩:=cells12 HRR.out
  have rl:=HRR.out.lt
  obtain rfl:pc=pZ 0:=by rw [HPC.out,hk];rfl
  have HOK':=LH (show ok=true by rw [HOK.out,hk];rfl)
  clear HOK HPC
  subst hk
  obtain rfl:ok=true:=HOK'.out
  go_wp2_with fail
  obtain ⟨⟨⟨t0,t1_,t2,t3⟩,⟨t4,t5,t6,t7⟩,t8,t9,t10,t11⟩,-⟩:=cells12 (blk_put12 HRR.out (.int .u8 0) (.int .i64 0) (.slice none 0 0) (.int .i64 0) (.string ⟨#[]⟩) (.string ⟨#[]⟩) (.int .i64 0) (.int .i64 0) (.slice none 0 0) (.int .i64 0) (.int .i64 0) (.int .i64 0))
  have HBF:=((((((((((((HB.out.setCell (p:=⟨w.heap.size+1,0,none⟩) (by simp) (.int .u8 0)).setCell (p:=⟨w.heap.size+1,1,none⟩) (by simp) (.int .i64 0)).setCell (p:=⟨w.heap.size+1,2,none⟩) (by simp) (.slice none 0 0)).setCell (p:=⟨w.heap.size+1,3,none⟩) (by simp) (.int .i64 0)).setCell (p:=⟨w.heap.size+1,4,none⟩) (by simp) (.string ⟨#[]⟩)).setCell (p:=⟨w.heap.size+1,5,none⟩) (by simp) (.string ⟨#[]⟩)).setCell (p:=⟨w.heap.size+1,6,none⟩) (by simp) (.int .i64 0)).setCell (p:=⟨w.heap.size+1,7,none⟩) (by simp) (.int .i64 0)).setCell (p:=⟨w.heap.size+1,8,none⟩) (by simp) (.slice none 0 0)).setCell (p:=⟨w.heap.size+1,9,none⟩) (by simp) (.int .i64 0)).setCell (p:=⟨w.heap.size+1,10,none⟩) (by simp) (.int .i64 0)).setCell (p:=⟨w.heap.size+1,11,none⟩) (by simp) (.int .i64 0))
  obtain rfl:=HGN.out
  obtain rfl:=HMN.out
  exact bodyPost_ret (v:=.tuple #[.agg #[.int .u8 0,.int .i64 0,.slice none 0 0,.int .i64 0,.string ⟨#[]⟩,.string ⟨#[]⟩,.int .i64 0,.int .i64 0,.slice none 0 0,.int .i64 0,.int .i64 0,.int .i64 0],.bool true]) (by simp [results,Tryz.results70,go_sem,t0,t1_,t2,t3,t4,t5,t6,t7,t8,t9,t10,t11]) rfl ⟨_,rfl,⟨none,0,none,0,rfl,ints_nil _,ints_nil _⟩,HBF⟩
theorem pc_ext {c c':PC}:c=c'↔c.kind=c'.kind∧c.msg=c'.msg∧c.id=c'.id∧c.time=c'.time∧c.members=c'.members∧c.topic=c'.topic∧c.who=c'.who∧c.n=c'.n:=by
 cases c;cases c';simp
set_option maxHeartbeats 8000000 in
set_option maxRecDepth 100000 in
theorem sameCom_any {v v':Value} {c c':PC} {w:World} {z:Bool} (h:ComR w v c) (h':ComR w v' c') (hz:z=true↔c=c') :
  Calls Tryz.prog 71 #[v,v'] w fun e w'=>e=.returned (.bool z)∧Below w.heap.size w w':=by
 obtain ⟨a,cap,b,bc,rfl,hg,hm⟩:=h
 obtain ⟨a',cap',b',bc',rfl,hg',hm'⟩:=h'
 rw [pc_ext] at hz
 obtain ⟨kd,⟨i1,g1,t1,k1,b1⟩,ci,ct,ml,cp,cw,cn⟩:=c
 obtain ⟨kd',⟨i2,g2,t2,k2,b2⟩,ci',ct',ml',cp',cw',cn'⟩:=c'
 simp only at hz hg hg' hm hm' ⊢
 have G:Hid (MsgR w (.agg #[.int .i64 i1,.slice a g1.length cap,.int .i64 t1,.string k1,.string b1]) ⟨i1,g1,t1,k1,b1⟩):=LH ⟨a,cap,rfl,hg⟩
 have G':Hid (MsgR w (.agg #[.int .i64 i2,.slice a' g2.length cap',.int .i64 t2,.string k2,.string b2]) ⟨i2,g2,t2,k2,b2⟩):=LH ⟨a',cap',rfl,hg'⟩
 have M:=LH hm
 have M':=LH hm'
 obtain ⟨pm,hpm⟩:∃ m:PM,m=⟨i1,g1,t1,k1,b1⟩:=⟨_,rfl⟩
 obtain ⟨pm',hpm'⟩:∃ m:PM,m=⟨i2,g2,t2,k2,b2⟩:=⟨_,rfl⟩
 rw [← hpm,← hpm'] at hz
 rw [← hpm] at G
 rw [← hpm'] at G'
 obtain ⟨n,hn⟩:∃ n,n=g1.length:=⟨_,rfl⟩
 obtain ⟨n',hn'⟩:∃ n,n=g2.length:=⟨_,rfl⟩
 rw [← hn] at G ⊢
 rw [← hn'] at G' ⊢
 obtain ⟨m,hm1⟩:∃ m,m=ml.length:=⟨_,rfl⟩
 obtain ⟨m',hm1'⟩:∃ m,m=ml'.length:=⟨_,rfl⟩
 rw [← hm1] at M ⊢
 rw [← hm1'] at M' ⊢
 have HZ:=LH hz
 clear hg hg' hm hm' hn hn' hm1 hm1' hz hpm hpm'
 by_cases hk:kd=kd'
 ·have hk':(kd == kd')=true:=by simp [hk]
  by_cases hmsg:pm=pm'
  ·by_cases hi:ci=ci'
   ·have hi':(ci == ci')=true:=by simp [hi]
    by_cases ht:ct=ct'
    ·have ht':(ct == ct')=true:=by simp [ht]
     by_cases hml:ml=ml'
     ·by_cases hp:cp=cp'
      ·have hp':(cp == cp')=true:=by simp [hp]
       by_cases hw:cw=cw'
       ·have hw':(cw == cw')=true:=by simp [hw]
        by_cases hn:cn=cn'
        ·have hn':(cn == cn')=true:=by simp [hn]
         obtain rfl:z=true:=HZ.out.2 ⟨by assumption,by assumption,by assumption,by assumption,by assumption,by assumption,by assumption,by assumption⟩
         clear HZ
         try clear hk
         try clear hi
         try clear ht
         try clear hp
         try clear hw
         try clear hn
         go_enter Tryz.func71,Tryz.ntmps71
         go_wp2_with fail
         refine Calls.mono (sameMsg_any (z:=true) (m:=pm) (m':=pm') ?_ ?_ ?_) ?_
         ·exact G.out.below (by repeat (first|with_reducible (first|exact Below.refl _ _|apply Below.drew|apply below_alloc)|((first|with_reducible refine Below.alloc ?_ ?_ _|with_reducible refine Below.setCell ?_ ?_ _);rotate_left;focus (first|(simp <;> omega)|omega))))
         ·exact G'.out.below (by repeat (first|with_reducible (first|exact Below.refl _ _|apply Below.drew|apply below_alloc)|((first|with_reducible refine Below.alloc ?_ ?_ _|with_reducible refine Below.setCell ?_ ?_ _);rotate_left;focus (first|(simp <;> omega)|omega))))
         ·simp [hmsg]
         rintro e w1 ⟨rfl,hb⟩
         have HB:Hid (Below w.heap.size w _):=below_step (by repeat (first|with_reducible (first|exact Below.refl _ _|apply Below.drew|apply below_alloc)|((first|with_reducible refine Below.alloc ?_ ?_ _|with_reducible refine Below.setCell ?_ ?_ _);rotate_left;focus (first|(simp <;> omega)|omega)))) hb
         have HP:Hid (Blk w1 w.heap.size 58 [.int .u8 kd,.int .i64 i1,.slice a n cap,.int .i64 t1,.string k1,.string b1,.int .i64 ci,.int .i64 ct,.slice b m bc,.int .i64 cp,.int .i64 cw,.int .i64 cn]):=LH (Blk.step ((Blk.new rfl).alloc _) hb)
         have HQ:Hid (Blk w1 (w.heap.size+1) 58 [.int .u8 kd',.int .i64 i2,.slice a' n' cap',.int .i64 t2,.string k2,.string b2,.int .i64 ci',.int .i64 ct',.slice b' m' bc',.int .i64 cp',.int .i64 cw',.int .i64 cn']):=LH (Blk.step (Blk.new (by simp)) hb)
         clear hb
         have pl:=HP.out.lt
         have ql:=HQ.out.lt
         obtain ⟨⟨⟨d0,d1,d2,d3⟩,⟨d4,d5,d6,d7⟩,d8,d9,d10,d11⟩,dz⟩:=cells12 HP.out
         obtain ⟨⟨⟨f0,f1,f2,f3⟩,⟨f4,f5,f6,f7⟩,f8,f9,f10,f11⟩,fz⟩:=cells12 HQ.out
         go_wp2_with fail
         refine Calls.mono (eqI_q (q:=true) (l:=ml) (l':=ml') ?_ ?_ ?_) ?_
         ·exact M.out.below (by repeat (first|with_reducible (first|exact HB.out|exact Below.refl _ _|apply Below.drew|apply below_alloc)|((first|with_reducible refine Below.alloc ?_ ?_ _|with_reducible refine Below.setCell ?_ ?_ _);rotate_left;focus (first|(simp <;> omega)|omega))))
         ·exact M'.out.below (by repeat (first|with_reducible (first|exact HB.out|exact Below.refl _ _|apply Below.drew|apply below_alloc)|((first|with_reducible refine Below.alloc ?_ ?_ _|with_reducible refine Below.setCell ?_ ?_ _);rotate_left;focus (first|(simp <;> omega)|omega))))
         ·simp [hml]
         clear d0 d1 d2 d3 d4 d5 d6 d7 d8 d9 d10 d11 dz f0 f1 f2 f3 f4 f5 f6 f7 f8 f9 f10 f11 fz pl ql
         rintro e w2 ⟨rfl,hb⟩
         replace HB:Hid (Below w.heap.size w w2):=below_step (by repeat (first|with_reducible (first|exact HB.out|exact Below.refl _ _|apply Below.drew|apply below_alloc)|((first|with_reducible refine Below.alloc ?_ ?_ _|with_reducible refine Below.setCell ?_ ?_ _);rotate_left;focus (first|(simp <;> omega)|omega)))) hb
         have HP2:=LH (Blk.step HP.out hb)
         have HQ2:=LH (Blk.step HQ.out hb)
         clear hb HP HQ
         have pl:=HP2.out.lt
         have ql:=HQ2.out.lt
         obtain ⟨⟨⟨d0,d1,d2,d3⟩,⟨d4,d5,d6,d7⟩,d8,d9,d10,d11⟩,dz⟩:=cells12 HP2.out
         obtain ⟨⟨⟨f0,f1,f2,f3⟩,⟨f4,f5,f6,f7⟩,f8,f9,f10,f11⟩,fz⟩:=cells12 HQ2.out
         go_wp2_with fail
         go_ret
         refine ⟨rfl,?_⟩
         exact HB.out
        ·have hn':(cn == cn')=false:=by simp [hn]
         obtain rfl:z=false:=by
          cases z
          ·rfl
          ·have:=HZ.out.1 rfl;simp_all
         clear HZ
         try clear hk
         try clear hi
         try clear ht
         try clear hp
         try clear hw
         try clear hn
         go_enter Tryz.func71,Tryz.ntmps71
         go_wp2_with fail
         refine Calls.mono (sameMsg_any (z:=true) (m:=pm) (m':=pm') ?_ ?_ ?_) ?_
         ·exact G.out.below (by repeat (first|with_reducible (first|exact Below.refl _ _|apply Below.drew|apply below_alloc)|((first|with_reducible refine Below.alloc ?_ ?_ _|with_reducible refine Below.setCell ?_ ?_ _);rotate_left;focus (first|(simp <;> omega)|omega))))
         ·exact G'.out.below (by repeat (first|with_reducible (first|exact Below.refl _ _|apply Below.drew|apply below_alloc)|((first|with_reducible refine Below.alloc ?_ ?_ _|with_reducible refine Below.setCell ?_ ?_ _);rotate_left;focus (first|(simp <;> omega)|omega))))
         ·simp [hmsg]
         rintro e w1 ⟨rfl,hb⟩
         have HB:Hid (Below w.heap.size w _):=below_step (by repeat (first|with_reducible (first|exact Below.refl _ _|apply Below.drew|apply below_alloc)|((first|with_reducible refine Below.alloc ?_ ?_ _|with_reducible refine Below.setCell ?_ ?_ _);rotate_left;focus (first|(simp <;> omega)|omega)))) hb
         have HP:Hid (Blk w1 w.heap.size 58 [.int .u8 kd,.int .i64 i1,.slice a n cap,.int .i64 t1,.string k1,.string b1,.int .i64 ci,.int .i64 ct,.slice b m bc,.int .i64 cp,.int .i64 cw,.int .i64 cn]):=LH (Blk.step ((Blk.new rfl).alloc _) hb)
         have HQ:Hid (Blk w1 (w.heap.size+1) 58 [.int .u8 kd',.int .i64 i2,.slice a' n' cap',.int .i64 t2,.string k2,.string b2,.int .i64 ci',.int .i64 ct',.slice b' m' bc',.int .i64 cp',.int .i64 cw',.int .i64 cn']):=LH (Blk.step (Blk.new (by simp)) hb)
         clear hb
         have pl:=HP.out.lt
         have ql:=HQ.out.lt
         obtain ⟨⟨⟨d0,d1,d2,d3⟩,⟨d4,d5,d6,d7⟩,d8,d9,d10,d11⟩,dz⟩:=cells12 HP.out
         obtain ⟨⟨⟨f0,f1,f2,f3⟩,⟨f4,f5,f6,f7⟩,f8,f9,f10,f11⟩,fz⟩:=cells12 HQ.out
         go_wp2_with fail
         refine Calls.mono (eqI_q (q:=true) (l:=ml) (l':=ml') ?_ ?_ ?_) ?_
         ·exact M.out.below (by repeat (first|with_reducible (first|exact HB.out|exact Below.refl _ _|apply Below.drew|apply below_alloc)|((first|with_reducible refine Below.alloc ?_ ?_ _|with_reducible refine Below.setCell ?_ ?_ _);rotate_left;focus (first|(simp <;> omega)|omega))))
         ·exact M'.out.below (by repeat (first|with_reducible (first|exact HB.out|exact Below.refl _ _|apply Below.drew|apply below_alloc)|((first|with_reducible refine Below.alloc ?_ ?_ _|with_reducible refine Below.setCell ?_ ?_ _);rotate_left;focus (first|(simp <;> omega)|omega))))
         ·simp [hml]
         clear d0 d1 d2 d3 d4 d5 d6 d7 d8 d9 d10 d11 dz f0 f1 f2 f3 f4 f5 f6 f7 f8 f9 f10 f11 fz pl ql
         rintro e w2 ⟨rfl,hb⟩
         replace HB:Hid (Below w.heap.size w w2):=below_step (by repeat (first|with_reducible (first|exact HB.out|exact Below.refl _ _|apply Below.drew|apply below_alloc)|((first|with_reducible refine Below.alloc ?_ ?_ _|with_reducible refine Below.setCell ?_ ?_ _);rotate_left;focus (first|(simp <;> omega)|omega)))) hb
         have HP2:=LH (Blk.step HP.out hb)
         have HQ2:=LH (Blk.step HQ.out hb)
         clear hb HP HQ
         have pl:=HP2.out.lt
         have ql:=HQ2.out.lt
         obtain ⟨⟨⟨d0,d1,d2,d3⟩,⟨d4,d5,d6,d7⟩,d8,d9,d10,d11⟩,dz⟩:=cells12 HP2.out
         obtain ⟨⟨⟨f0,f1,f2,f3⟩,⟨f4,f5,f6,f7⟩,f8,f9,f10,f11⟩,fz⟩:=cells12 HQ2.out
         go_wp2_with fail
         go_ret
         refine ⟨rfl,?_⟩
         exact HB.out
       ·have hw':(cw == cw')=false:=by simp [hw]
        obtain rfl:z=false:=by
         cases z
         ·rfl
         ·have:=HZ.out.1 rfl;simp_all
        clear HZ
        try clear hk
        try clear hi
        try clear ht
        try clear hp
        try clear hw
        try clear hn
        go_enter Tryz.func71,Tryz.ntmps71
        go_wp2_with fail
        refine Calls.mono (sameMsg_any (z:=true) (m:=pm) (m':=pm') ?_ ?_ ?_) ?_
        ·exact G.out.below (by repeat (first|with_reducible (first|exact Below.refl _ _|apply Below.drew|apply below_alloc)|((first|with_reducible refine Below.alloc ?_ ?_ _|with_reducible refine Below.setCell ?_ ?_ _);rotate_left;focus (first|(simp <;> omega)|omega))))
        ·exact G'.out.below (by repeat (first|with_reducible (first|exact Below.refl _ _|apply Below.drew|apply below_alloc)|((first|with_reducible refine Below.alloc ?_ ?_ _|with_reducible refine Below.setCell ?_ ?_ _);rotate_left;focus (first|(simp <;> omega)|omega))))
        ·simp [hmsg]
        rintro e w1 ⟨rfl,hb⟩
        have HB:Hid (Below w.heap.size w _):=below_step (by repeat (first|with_reducible (first|exact Below.refl _ _|apply Below.drew|apply below_alloc)|((first|with_reducible refine Below.alloc ?_ ?_ _|with_reducible refine Below.setCell ?_ ?_ _);rotate_left;focus (first|(simp <;> omega)|omega)))) hb
        have HP:Hid (Blk w1 w.heap.size 58 [.int .u8 kd,.int .i64 i1,.slice a n cap,.int .i64 t1,.string k1,.string b1,.int .i64 ci,.int .i64 ct,.slice b m bc,.int .i64 cp,.int .i64 cw,.int .i64 cn]):=LH (Blk.step ((Blk.new rfl).alloc _) hb)
        have HQ:Hid (Blk w1 (w.heap.size+1) 58 [.int .u8 kd',.int .i64 i2,.slice a' n' cap',.int .i64 t2,.string k2,.string b2,.int .i64 ci',.int .i64 ct',.slice b' m' bc',.int .i64 cp',.int .i64 cw',.int .i64 cn']):=LH (Blk.step (Blk.new (by simp)) hb)
        clear hb
        have pl:=HP.out.lt
        have ql:=HQ.out.lt
        obtain ⟨⟨⟨d0,d1,d2,d3⟩,⟨d4,d5,d6,d7⟩,d8,d9,d10,d11⟩,dz⟩:=cells12 HP.out
        obtain ⟨⟨⟨f0,f1,f2,f3⟩,⟨f4,f5,f6,f7⟩,f8,f9,f10,f11⟩,fz⟩:=cells12 HQ.out
        go_wp2_with fail
        refine Calls.mono (eqI_q (q:=true) (l:=ml) (l':=ml') ?_ ?_ ?_) ?_
        ·exact M.out.below (by repeat (first|with_reducible (first|exact HB.out|exact Below.refl _ _|apply Below.drew|apply below_alloc)|((first|with_reducible refine Below.alloc ?_ ?_ _|with_reducible refine Below.setCell ?_ ?_ _);rotate_left;focus (first|(simp <;> omega)|omega))))
        ·exact M'.out.below (by repeat (first|with_reducible (first|exact HB.out|exact Below.refl _ _|apply Below.drew|apply below_alloc)|((first|with_reducible refine Below.alloc ?_ ?_ _|with_reducible refine Below.setCell ?_ ?_ _);rotate_left;focus (first|(simp <;> omega)|omega))))
        ·simp [hml]
        clear d0 d1 d2 d3 d4 d5 d6 d7 d8 d9 d10 d11 dz f0 f1 f2 f3 f4 f5 f6 f7 f8 f9 f10 f11 fz pl ql
        rintro e w2 ⟨rfl,hb⟩
        replace HB:Hid (Below w.heap.size w w2):=below_step (by repeat (first|with_reducible (first|exact HB.out|exact Below.refl _ _|apply Below.drew|apply below_alloc)|((first|with_reducible refine Below.alloc ?_ ?_ _|with_reducible refine Below.setCell ?_ ?_ _);rotate_left;focus (first|(simp <;> omega)|omega)))) hb
        have HP2:=LH (Blk.step HP.out hb)
        have HQ2:=LH (Blk.step HQ.out hb)
        clear hb HP HQ
        have pl:=HP2.out.lt
        have ql:=HQ2.out.lt
        obtain ⟨⟨⟨d0,d1,d2,d3⟩,⟨d4,d5,d6,d7⟩,d8,d9,d10,d11⟩,dz⟩:=cells12 HP2.out
        obtain ⟨⟨⟨f0,f1,f2,f3⟩,⟨f4,f5,f6,f7⟩,f8,f9,f10,f11⟩,fz⟩:=cells12 HQ2.out
        go_wp2_with fail
        go_ret
        refine ⟨rfl,?_⟩
        exact HB.out
      ·have hp':(cp == cp')=false:=by simp [hp]
       obtain rfl:z=false:=by
        cases z
        ·rfl
        ·have:=HZ.out.1 rfl;simp_all
       clear HZ
       try clear hk
       try clear hi
       try clear ht
       try clear hp
       try clear hw
       try clear hn
       go_enter Tryz.func71,Tryz.ntmps71
       go_wp2_with fail
       refine Calls.mono (sameMsg_any (z:=true) (m:=pm) (m':=pm') ?_ ?_ ?_) ?_
       ·exact G.out.below (by repeat (first|with_reducible (first|exact Below.refl _ _|apply Below.drew|apply below_alloc)|((first|with_reducible refine Below.alloc ?_ ?_ _|with_reducible refine Below.setCell ?_ ?_ _);rotate_left;focus (first|(simp <;> omega)|omega))))
       ·exact G'.out.below (by repeat (first|with_reducible (first|exact Below.refl _ _|apply Below.drew|apply below_alloc)|((first|with_reducible refine Below.alloc ?_ ?_ _|with_reducible refine Below.setCell ?_ ?_ _);rotate_left;focus (first|(simp <;> omega)|omega))))
       ·simp [hmsg]
       rintro e w1 ⟨rfl,hb⟩
       have HB:Hid (Below w.heap.size w _):=below_step (by repeat (first|with_reducible (first|exact Below.refl _ _|apply Below.drew|apply below_alloc)|((first|with_reducible refine Below.alloc ?_ ?_ _|with_reducible refine Below.setCell ?_ ?_ _);rotate_left;focus (first|(simp <;> omega)|omega)))) hb
       have HP:Hid (Blk w1 w.heap.size 58 [.int .u8 kd,.int .i64 i1,.slice a n cap,.int .i64 t1,.string k1,.string b1,.int .i64 ci,.int .i64 ct,.slice b m bc,.int .i64 cp,.int .i64 cw,.int .i64 cn]):=LH (Blk.step ((Blk.new rfl).alloc _) hb)
       have HQ:Hid (Blk w1 (w.heap.size+1) 58 [.int .u8 kd',.int .i64 i2,.slice a' n' cap',.int .i64 t2,.string k2,.string b2,.int .i64 ci',.int .i64 ct',.slice b' m' bc',.int .i64 cp',.int .i64 cw',.int .i64 cn']):=LH (Blk.step (Blk.new (by simp)) hb)
       clear hb
       have pl:=HP.out.lt
       have ql:=HQ.out.lt
       obtain ⟨⟨⟨d0,d1,d2,d3⟩,⟨d4,d5,d6,d7⟩,d8,d9,d10,d11⟩,dz⟩:=cells12 HP.out
       obtain ⟨⟨⟨f0,f1,f2,f3⟩,⟨f4,f5,f6,f7⟩,f8,f9,f10,f11⟩,fz⟩:=cells12 HQ.out
       go_wp2_with fail
       refine Calls.mono (eqI_q (q:=true) (l:=ml) (l':=ml') ?_ ?_ ?_) ?_
       ·exact M.out.below (by repeat (first|with_reducible (first|exact HB.out|exact Below.refl _ _|apply Below.drew|apply below_alloc)|((first|with_reducible refine Below.alloc ?_ ?_ _|with_reducible refine Below.setCell ?_ ?_ _);rotate_left;focus (first|(simp <;> omega)|omega))))
       ·exact M'.out.below (by repeat (first|with_reducible (first|exact HB.out|exact Below.refl _ _|apply Below.drew|apply below_alloc)|((first|with_reducible refine Below.alloc ?_ ?_ _|with_reducible refine Below.setCell ?_ ?_ _);rotate_left;focus (first|(simp <;> omega)|omega))))
       ·simp [hml]
       clear d0 d1 d2 d3 d4 d5 d6 d7 d8 d9 d10 d11 dz f0 f1 f2 f3 f4 f5 f6 f7 f8 f9 f10 f11 fz pl ql
       rintro e w2 ⟨rfl,hb⟩
       replace HB:Hid (Below w.heap.size w w2):=below_step (by repeat (first|with_reducible (first|exact HB.out|exact Below.refl _ _|apply Below.drew|apply below_alloc)|((first|with_reducible refine Below.alloc ?_ ?_ _|with_reducible refine Below.setCell ?_ ?_ _);rotate_left;focus (first|(simp <;> omega)|omega)))) hb
       have HP2:=LH (Blk.step HP.out hb)
       have HQ2:=LH (Blk.step HQ.out hb)
       clear hb HP HQ
       have pl:=HP2.out.lt
       have ql:=HQ2.out.lt
       obtain ⟨⟨⟨d0,d1,d2,d3⟩,⟨d4,d5,d6,d7⟩,d8,d9,d10,d11⟩,dz⟩:=cells12 HP2.out
       obtain ⟨⟨⟨f0,f1,f2,f3⟩,⟨f4,f5,f6,f7⟩,f8,f9,f10,f11⟩,fz⟩:=cells12 HQ2.out
       go_wp2_with fail
       go_ret
       refine ⟨rfl,?_⟩
       exact HB.out
     ·obtain rfl:z=false:=by
       cases z
       ·rfl
       ·have:=HZ.out.1 rfl;simp_all
      clear HZ
      try clear hk
      try clear hi
      try clear ht
      try clear hp
      try clear hw
      try clear hn
      go_enter Tryz.func71,Tryz.ntmps71
      go_wp2_with fail
      refine Calls.mono (sameMsg_any (z:=true) (m:=pm) (m':=pm') ?_ ?_ ?_) ?_
      ·exact G.out.below (by repeat (first|with_reducible (first|exact Below.refl _ _|apply Below.drew|apply below_alloc)|((first|with_reducible refine Below.alloc ?_ ?_ _|with_reducible refine Below.setCell ?_ ?_ _);rotate_left;focus (first|(simp <;> omega)|omega))))
      ·exact G'.out.below (by repeat (first|with_reducible (first|exact Below.refl _ _|apply Below.drew|apply below_alloc)|((first|with_reducible refine Below.alloc ?_ ?_ _|with_reducible refine Below.setCell ?_ ?_ _);rotate_left;focus (first|(simp <;> omega)|omega))))
      ·simp [hmsg]
      rintro e w1 ⟨rfl,hb⟩
      have HB:Hid (Below w.heap.size w _):=below_step (by repeat (first|with_reducible (first|exact Below.refl _ _|apply Below.drew|apply below_alloc)|((first|with_reducible refine Below.alloc ?_ ?_ _|with_reducible refine Below.setCell ?_ ?_ _);rotate_left;focus (first|(simp <;> omega)|omega)))) hb
      have HP:Hid (Blk w1 w.heap.size 58 [.int .u8 kd,.int .i64 i1,.slice a n cap,.int .i64 t1,.string k1,.string b1,.int .i64 ci,.int .i64 ct,.slice b m bc,.int .i64 cp,.int .i64 cw,.int .i64 cn]):=LH (Blk.step ((Blk.new rfl).alloc _) hb)
      have HQ:Hid (Blk w1 (w.heap.size+1) 58 [.int .u8 kd',.int .i64 i2,.slice a' n' cap',.int .i64 t2,.string k2,.string b2,.int .i64 ci',.int .i64 ct',.slice b' m' bc',.int .i64 cp',.int .i64 cw',.int .i64 cn']):=LH (Blk.step (Blk.new (by simp)) hb)
      clear hb
      have pl:=HP.out.lt
      have ql:=HQ.out.lt
      obtain ⟨⟨⟨d0,d1,d2,d3⟩,⟨d4,d5,d6,d7⟩,d8,d9,d10,d11⟩,dz⟩:=cells12 HP.out
      obtain ⟨⟨⟨f0,f1,f2,f3⟩,⟨f4,f5,f6,f7⟩,f8,f9,f10,f11⟩,fz⟩:=cells12 HQ.out
      go_wp2_with fail
      refine Calls.mono (eqI_q (q:=false) (l:=ml) (l':=ml') ?_ ?_ ?_) ?_
      ·exact M.out.below (by repeat (first|with_reducible (first|exact HB.out|exact Below.refl _ _|apply Below.drew|apply below_alloc)|((first|with_reducible refine Below.alloc ?_ ?_ _|with_reducible refine Below.setCell ?_ ?_ _);rotate_left;focus (first|(simp <;> omega)|omega))))
      ·exact M'.out.below (by repeat (first|with_reducible (first|exact HB.out|exact Below.refl _ _|apply Below.drew|apply below_alloc)|((first|with_reducible refine Below.alloc ?_ ?_ _|with_reducible refine Below.setCell ?_ ?_ _);rotate_left;focus (first|(simp <;> omega)|omega))))
      ·simp [hml]
      clear d0 d1 d2 d3 d4 d5 d6 d7 d8 d9 d10 d11 dz f0 f1 f2 f3 f4 f5 f6 f7 f8 f9 f10 f11 fz pl ql
      rintro e w2 ⟨rfl,hb⟩
      replace HB:Hid (Below w.heap.size w w2):=below_step (by repeat (first|with_reducible (first|exact HB.out|exact Below.refl _ _|apply Below.drew|apply below_alloc)|((first|with_reducible refine Below.alloc ?_ ?_ _|with_reducible refine Below.setCell ?_ ?_ _);rotate_left;focus (first|(simp <;> omega)|omega)))) hb
      have HP2:=LH (Blk.step HP.out hb)
      have HQ2:=LH (Blk.step HQ.out hb)
      clear hb HP HQ
      have pl:=HP2.out.lt
      have ql:=HQ2.out.lt
      obtain ⟨⟨⟨d0,d1,d2,d3⟩,⟨d4,d5,d6,d7⟩,d8,d9,d10,d11⟩,dz⟩:=cells12 HP2.out
      obtain ⟨⟨⟨f0,f1,f2,f3⟩,⟨f4,f5,f6,f7⟩,f8,f9,f10,f11⟩,fz⟩:=cells12 HQ2.out
      go_wp2_with fail
      go_ret
      refine ⟨rfl,?_⟩
      exact HB.out
    ·have ht':(ct == ct')=false:=by simp [ht]
     obtain rfl:z=false:=by
      cases z
      ·rfl
      ·have:=HZ.out.1 rfl;simp_all
     clear HZ
     try clear hk
     try clear hi
     try clear ht
     try clear hp
     try clear hw
     try clear hn
     go_enter Tryz.func71,Tryz.ntmps71
     go_wp2_with fail
     refine Calls.mono (sameMsg_any (z:=true) (m:=pm) (m':=pm') ?_ ?_ ?_) ?_
     ·exact G.out.below (by repeat (first|with_reducible (first|exact Below.refl _ _|apply Below.drew|apply below_alloc)|((first|with_reducible refine Below.alloc ?_ ?_ _|with_reducible refine Below.setCell ?_ ?_ _);rotate_left;focus (first|(simp <;> omega)|omega))))
     ·exact G'.out.below (by repeat (first|with_reducible (first|exact Below.refl _ _|apply Below.drew|apply below_alloc)|((first|with_reducible refine Below.alloc ?_ ?_ _|with_reducible refine Below.setCell ?_ ?_ _);rotate_left;focus (first|(simp <;> omega)|omega))))
     ·simp [hmsg]
     rintro e w1 ⟨rfl,hb⟩
     have HB:Hid (Below w.heap.size w _):=below_step (by repeat (first|with_reducible (first|exact Below.refl _ _|apply Below.drew|apply below_alloc)|((first|with_reducible refine Below.alloc ?_ ?_ _|with_reducible refine Below.setCell ?_ ?_ _);rotate_left;focus (first|(simp <;> omega)|omega)))) hb
     have HP:Hid (Blk w1 w.heap.size 58 [.int .u8 kd,.int .i64 i1,.slice a n cap,.int .i64 t1,.string k1,.string b1,.int .i64 ci,.int .i64 ct,.slice b m bc,.int .i64 cp,.int .i64 cw,.int .i64 cn]):=LH (Blk.step ((Blk.new rfl).alloc _) hb)
     have HQ:Hid (Blk w1 (w.heap.size+1) 58 [.int .u8 kd',.int .i64 i2,.slice a' n' cap',.int .i64 t2,.string k2,.string b2,.int .i64 ci',.int .i64 ct',.slice b' m' bc',.int .i64 cp',.int .i64 cw',.int .i64 cn']):=LH (Blk.step (Blk.new (by simp)) hb)
     clear hb
     have pl:=HP.out.lt
     have ql:=HQ.out.lt
     obtain ⟨⟨⟨d0,d1,d2,d3⟩,⟨d4,d5,d6,d7⟩,d8,d9,d10,d11⟩,dz⟩:=cells12 HP.out
     obtain ⟨⟨⟨f0,f1,f2,f3⟩,⟨f4,f5,f6,f7⟩,f8,f9,f10,f11⟩,fz⟩:=cells12 HQ.out
     go_wp2_with fail
     go_ret
     refine ⟨rfl,?_⟩
     exact HB.out
   ·have hi':(ci == ci')=false:=by simp [hi]
    obtain rfl:z=false:=by
     cases z
     ·rfl
     ·have:=HZ.out.1 rfl;simp_all
    clear HZ
    try clear hk
    try clear hi
    try clear ht
    try clear hp
    try clear hw
    try clear hn
    go_enter Tryz.func71,Tryz.ntmps71
    go_wp2_with fail
    refine Calls.mono (sameMsg_any (z:=true) (m:=pm) (m':=pm') ?_ ?_ ?_) ?_
    ·exact G.out.below (by repeat (first|with_reducible (first|exact Below.refl _ _|apply Below.drew|apply below_alloc)|((first|with_reducible refine Below.alloc ?_ ?_ _|with_reducible refine Below.setCell ?_ ?_ _);rotate_left;focus (first|(simp <;> omega)|omega))))
    ·exact G'.out.below (by repeat (first|with_reducible (first|exact Below.refl _ _|apply Below.drew|apply below_alloc)|((first|with_reducible refine Below.alloc ?_ ?_ _|with_reducible refine Below.setCell ?_ ?_ _);rotate_left;focus (first|(simp <;> omega)|omega))))
    ·simp [hmsg]
    rintro e w1 ⟨rfl,hb⟩
    have HB:Hid (Below w.heap.size w _):=below_step (by repeat (first|with_reducible (first|exact Below.refl _ _|apply Below.drew|apply below_alloc)|((first|with_reducible refine Below.alloc ?_ ?_ _|with_reducible refine Below.setCell ?_ ?_ _);rotate_left;focus (first|(simp <;> omega)|omega)))) hb
    have HP:Hid (Blk w1 w.heap.size 58 [.int .u8 kd,.int .i64 i1,.slice a n cap,.int .i64 t1,.string k1,.string b1,.int .i64 ci,.int .i64 ct,.slice b m bc,.int .i64 cp,.int .i64 cw,.int .i64 cn]):=LH (Blk.step ((Blk.new rfl).alloc _) hb)
    have HQ:Hid (Blk w1 (w.heap.size+1) 58 [.int .u8 kd',.int .i64 i2,.slice a' n' cap',.int .i64 t2,.string k2,.string b2,.int .i64 ci',.int .i64 ct',.slice b' m' bc',.int .i64 cp',.int .i64 cw',.int .i64 cn']):=LH (Blk.step (Blk.new (by simp)) hb)
    clear hb
    have pl:=HP.out.lt
    have ql:=HQ.out.lt
    obtain ⟨⟨⟨d0,d1,d2,d3⟩,⟨d4,d5,d6,d7⟩,d8,d9,d10,d11⟩,dz⟩:=cells12 HP.out
    obtain ⟨⟨⟨f0,f1,f2,f3⟩,⟨f4,f5,f6,f7⟩,f8,f9,f10,f11⟩,fz⟩:=cells12 HQ.out
    go_wp2_with fail
    go_ret
    refine ⟨rfl,?_⟩
    exact HB.out
  ·obtain rfl:z=false:=by
    cases z
    ·rfl
    ·have:=HZ.out.1 rfl;simp_all
   clear HZ
   try clear hk
   try clear hi
   try clear ht
   try clear hp
   try clear hw
   try clear hn
   go_enter Tryz.func71,Tryz.ntmps71
   go_wp2_with fail
   refine Calls.mono (sameMsg_any (z:=false) (m:=pm) (m':=pm') ?_ ?_ ?_) ?_
   ·exact G.out.below (by repeat (first|with_reducible (first|exact Below.refl _ _|apply Below.drew|apply below_alloc)|((first|with_reducible refine Below.alloc ?_ ?_ _|with_reducible refine Below.setCell ?_ ?_ _);rotate_left;focus (first|(simp <;> omega)|omega))))
   ·exact G'.out.below (by repeat (first|with_reducible (first|exact Below.refl _ _|apply Below.drew|apply below_alloc)|((first|with_reducible refine Below.alloc ?_ ?_ _|with_reducible refine Below.setCell ?_ ?_ _);rotate_left;focus (first|(simp <;> omega)|omega))))
   ·simp [hmsg]
   rintro e w1 ⟨rfl,hb⟩
   have HB:Hid (Below w.heap.size w _):=below_step (by repeat (first|with_reducible (first|exact Below.refl _ _|apply Below.drew|apply below_alloc)|((first|with_reducible refine Below.alloc ?_ ?_ _|with_reducible refine Below.setCell ?_ ?_ _);rotate_left;focus (first|(simp <;> omega)|omega)))) hb
   have HP:Hid (Blk w1 w.heap.size 58 [.int .u8 kd,.int .i64 i1,.slice a n cap,.int .i64 t1,.string k1,.string b1,.int .i64 ci,.int .i64 ct,.slice b m bc,.int .i64 cp,.int .i64 cw,.int .i64 cn]):=LH (Blk.step ((Blk.new rfl).alloc _) hb)
   have HQ:Hid (Blk w1 (w.heap.size+1) 58 [.int .u8 kd',.int .i64 i2,.slice a' n' cap',.int .i64 t2,.string k2,.string b2,.int .i64 ci',.int .i64 ct',.slice b' m' bc',.int .i64 cp',.int .i64 cw',.int .i64 cn']):=LH (Blk.step (Blk.new (by simp)) hb)
   clear hb
   have pl:=HP.out.lt
   have ql:=HQ.out.lt
   obtain ⟨⟨⟨d0,d1,d2,d3⟩,⟨d4,d5,d6,d7⟩,d8,d9,d10,d11⟩,dz⟩:=cells12 HP.out
   obtain ⟨⟨⟨f0,f1,f2,f3⟩,⟨f4,f5,f6,f7⟩,f8,f9,f10,f11⟩,fz⟩:=cells12 HQ.out
   go_wp2_with fail
   go_ret
   refine ⟨rfl,?_⟩
   exact HB.out
 ·have hk':(kd == kd')=false:=by simp [hk]
  obtain rfl:z=false:=by
   cases z
   ·rfl
   ·have:=HZ.out.1 rfl;simp_all
  clear HZ
  try clear hk
  try clear hi
  try clear ht
  try clear hp
  try clear hw
  try clear hn
  go_enter Tryz.func71,Tryz.ntmps71
  go_wp2_with fail
  go_ret
  refine ⟨rfl,?_⟩
  repeat (first|with_reducible (first|exact Below.refl _ _|apply Below.drew|apply below_alloc)|((first|with_reducible refine Below.alloc ?_ ?_ _|with_reducible refine Below.setCell ?_ ?_ _);rotate_left;focus (first|(simp <;> omega)|omega)))
end Go.Proofs.YtkkohllhebdlcaaGreatDoor
