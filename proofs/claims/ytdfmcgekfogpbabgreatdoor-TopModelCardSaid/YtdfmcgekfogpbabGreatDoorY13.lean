/-
  Proved here: command.Same: it compares commands. No condition. cmp.Compare at int, topic.Fetch's function, slices.BinarySearchFunc wi
-/
import Derived.Test.YtdfmcgekfogpbabGreatDoorY07
import Derived.Test.YtdfmcgekfogpbabGreatDoorY10
set_option maxRecDepth 100000
namespace Go.Proofs.YtdfmcgekfogpbabGreatDoor
open Go.RowKit
theorem pc_ext {c c':PC}:c=c'↔c.kind=c'.kind∧c.msg=c'.msg∧c.id=c'.id∧c.time=c'.time∧c.members=c'.members∧c.topic=c'.topic∧c.who=c'.who∧c.n=c'.n:=by
 cases c;cases c';simp
set_option maxHeartbeats 8000000 in
set_option maxRecDepth 100000 in
theorem sameCom_any {v v':Value} {c c':PC} {w:World} {z:Bool} (h:ComR w v c) (h':ComR w v' c') (hz:z=true↔c=c') :
  Calls Tryz.prog 97 #[v,v'] w fun e w'=>e=.returned (.bool z)∧Below w.heap.size w w':=by
 obtain ⟨a,cap,b,bc,rfl,hg,hm⟩:=h
 obtain ⟨a',cap',b',bc',rfl,hg',hm'⟩:=h'
 rw [pc_ext] at hz
 obtain ⟨kd,⟨i1,g1,t1,k1,b1⟩,ci,ct,ml,cp,cw,cn⟩:=c
 obtain ⟨kd',⟨i2,g2,t2,k2,b2⟩,ci',ct',ml',cp',cw',cn'⟩:=c'
 simp only at hz hg hg' hm hm' ⊢
 have G:Hid (MsgR w (.agg #[.int .i64 i1,.slice a g1.length cap,.int .i64 t1,.string k1,.string b1]) ⟨i1,g1,t1,k1,b1⟩):=LH ⟨a,cap,rfl,hg⟩
 have G':Hid (MsgR w (.agg #[.int .i64 i2,.slice a' g2.length cap',.int .i64 t2,.string k2,.string b2]) ⟨i2,g2,t2,k2,b2⟩):=LH ⟨a',cap',rfl,hg'⟩
 have M:=LH hm
 have M':=LH hm'
 obtain ⟨pm,hpm⟩:∃ m:PM,m=⟨i1,g1,t1,k1,b1⟩:=⟨_,rfl⟩
 obtain ⟨pm',hpm'⟩:∃ m:PM,m=⟨i2,g2,t2,k2,b2⟩:=⟨_,rfl⟩
 rw [← hpm,← hpm'] at hz
 rw [← hpm] at G
 rw [← hpm'] at G'
 obtain ⟨n,hn⟩:∃ n,n=g1.length:=⟨_,rfl⟩
 obtain ⟨n',hn'⟩:∃ n,n=g2.length:=⟨_,rfl⟩
 rw [← hn] at G ⊢
 rw [← hn'] at G' ⊢
 obtain ⟨m,hm1⟩:∃ m,m=ml.length:=⟨_,rfl⟩
 obtain ⟨m',hm1'⟩:∃ m,m=ml'.length:=⟨_,rfl⟩
 rw [← hm1] at M ⊢
 rw [← hm1'] at M' ⊢
 have HZ:=LH hz
 clear hg hg' hm hm' hn hn' hm1 hm1' hz hpm hpm'
 by_cases hk:kd=kd'
 ·have hk':(kd == kd')=true:=by simp [hk]
  by_cases hmsg:pm=pm'
  ·by_cases hi:ci=ci'
   ·have hi':(ci == ci')=true:=by simp [hi]
    by_cases ht:ct=ct'
    ·have ht':(ct == ct')=true:=by simp [ht]
     by_cases hml:ml=ml'
     ·by_cases hp:cp=cp'
      ·have hp':(cp == cp')=true:=by simp [hp]
       by_cases hw:cw=cw'
       ·have hw':(cw == cw')=true:=by simp [hw]
        by_cases hn:cn=cn'
        ·have hn':(cn == cn')=true:=by simp [hn]
         obtain rfl:z=true:=HZ.out.2 ⟨by assumption,by assumption,by assumption,by assumption,by assumption,by assumption,by assumption,by assumption⟩
         clear HZ
         try clear hk
         try clear hi
         try clear ht
         try clear hp
         try clear hw
         try clear hn
         go_enter Tryz.func97,Tryz.ntmps97
         go_wp2_with fail
         refine Calls.mono (sameMsg_any (z:=true) (m:=pm) (m':=pm') ?_ ?_ ?_) ?_
         ·exact G.out.below (by repeat (first|with_reducible (first|exact Below.refl _ _|apply Below.drew|apply below_alloc)|((first|with_reducible refine Below.alloc ?_ ?_ _|with_reducible refine Below.setCell ?_ ?_ _);rotate_left;focus (first|(simp <;> omega)|omega))))
         ·exact G'.out.below (by repeat (first|with_reducible (first|exact Below.refl _ _|apply Below.drew|apply below_alloc)|((first|with_reducible refine Below.alloc ?_ ?_ _|with_reducible refine Below.setCell ?_ ?_ _);rotate_left;focus (first|(simp <;> omega)|omega))))
         ·simp [hmsg]
         rintro e w1 ⟨rfl,hb⟩
         have HB:Hid (Below w.heap.size w _):=below_step (by repeat (first|with_reducible (first|exact Below.refl _ _|apply Below.drew|apply below_alloc)|((first|with_reducible refine Below.alloc ?_ ?_ _|with_reducible refine Below.setCell ?_ ?_ _);rotate_left;focus (first|(simp <;> omega)|omega)))) hb
         have HP:Hid (Blk w1 w.heap.size 79 [.int .u8 kd,.int .i64 i1,.slice a n cap,.int .i64 t1,.string k1,.string b1,.int .i64 ci,.int .i64 ct,.slice b m bc,.int .i64 cp,.int .i64 cw,.int .i64 cn]):=LH (Blk.step ((Blk.new rfl).alloc _) hb)
         have HQ:Hid (Blk w1 (w.heap.size+1) 79 [.int .u8 kd',.int .i64 i2,.slice a' n' cap',.int .i64 t2,.string k2,.string b2,.int .i64 ci',.int .i64 ct',.slice b' m' bc',.int .i64 cp',.int .i64 cw',.int .i64 cn']):=LH (Blk.step (Blk.new (by simp)) hb)
         clear hb
         have pl:=HP.out.lt
         have ql:=HQ.out.lt
         obtain ⟨⟨⟨d0,d1,d2,d3⟩,⟨d4,d5,d6,d7⟩,d8,d9,d10,d11⟩,dz⟩:=cells12 HP.out
         obtain ⟨⟨⟨f0,f1,f2,f3⟩,⟨f4,f5,f6,f7⟩,f8,f9,f10,f11⟩,fz⟩:=cells12 HQ.out
         go_wp2_with fail
         refine Calls.mono (eqI_q (q:=true) (l:=ml) (l':=ml') ?_ ?_ ?_) ?_
         ·exact M.out.below (by repeat (first|with_reducible (first|exact HB.out|exact Below.refl _ _|apply Below.drew|apply below_alloc)|((first|with_reducible refine Below.alloc ?_ ?_ _|with_reducible refine Below.setCell ?_ ?_ _);rotate_left;focus (first|(simp <;> omega)|omega))))
         ·exact M'.out.below (by repeat (first|with_reducible (first|exact HB.out|exact Below.refl _ _|apply Below.drew|apply below_alloc)|((first|with_reducible refine Below.alloc ?_ ?_ _|with_reducible refine Below.setCell ?_ ?_ _);rotate_left;focus (first|(simp <;> omega)|omega))))
         ·simp [hml]
         clear d0 d1 d2 d3 d4 d5 d6 d7 d8 d9 d10 d11 dz f0 f1 f2 f3 f4 f5 f6 f7 f8 f9 f10 f11 fz pl ql
         rintro e w2 ⟨rfl,hb⟩
         replace HB:Hid (Below w.heap.size w w2):=below_step (by repeat (first|with_reducible (first|exact HB.out|exact Below.refl _ _|apply Below.drew|apply below_alloc)|((first|with_reducible refine Below.alloc ?_ ?_ _|with_reducible refine Below.setCell ?_ ?_ _);rotate_left;focus (first|(simp <;> omega)|omega)))) hb
         have HP2:=LH (Blk.step HP.out hb)
         have HQ2:=LH (Blk.step HQ.out hb)
         clear hb HP HQ
         have pl:=HP2.out.lt
         have ql:=HQ2.out.lt
         obtain ⟨⟨⟨d0,d1,d2,d3⟩,⟨d4,d5,d6,d7⟩,d8,d9,d10,d11⟩,dz⟩:=cells12 HP2.out
         obtain ⟨⟨⟨f0,f1,f2,f3⟩,⟨f4,f5,f6,f7⟩,f8,f9,f10,f11⟩,fz⟩:=cells12 HQ2.out
         go_wp2_with fail
         go_ret
         refine ⟨rfl,?_⟩
         exact HB.out
        ·have hn':(cn == cn')=false:=by simp [hn]
         obtain rfl:z=false:=by
          cases z
          ·rfl
          ·have:=HZ.out.1 rfl;simp_all
         clear HZ
         try clear hk
         try clear hi
         try clear ht
         try clear hp
         try clear hw
         try clear hn
         go_enter Tryz.func97,Tryz.ntmps97
         go_wp2_with fail
         refine Calls.mono (sameMsg_any (z:=true) (m:=pm) (m':=pm') ?_ ?_ ?_) ?_
         ·exact G.out.below (by repeat (first|with_reducible (first|exact Below.refl _ _|apply Below.drew|apply below_alloc)|((first|with_reducible refine Below.alloc ?_ ?_ _|with_reducible refine Below.setCell ?_ ?_ _);rotate_left;focus (first|(simp <;> omega)|omega))))
         ·exact G'.out.below (by repeat (first|with_reducible (first|exact Below.refl _ _|apply Below.drew|apply below_alloc)|((first|with_reducible refine Below.alloc ?_ ?_ _|with_reducible refine Below.setCell ?_ ?_ _);rotate_left;focus (first|(simp <;> omega)|omega))))
         ·simp [hmsg]
         rintro e w1 ⟨rfl,hb⟩
         have HB:Hid (Below w.heap.size w _):=below_step (by repeat (first|with_reducible (first|exact Below.refl _ _|apply Below.drew|apply below_alloc)|((first|with_reducible refine Below.alloc ?_ ?_ _|with_reducible refine Below.setCell ?_ ?_ _);rotate_left;focus (first|(simp <;> omega)|omega)))) hb
         have HP:Hid (Blk w1 w.heap.size 79 [.int .u8 kd,.int .i64 i1,.slice a n cap,.int .i64 t1,.string k1,.string b1,.int .i64 ci,.int .i64 ct,.slice b m bc,.int .i64 cp,.int .i64 cw,.int .i64 cn]):=LH (Blk.step ((Blk.new rfl).alloc _) hb)
         have HQ:Hid (Blk w1 (w.heap.size+1) 79 [.int .u8 kd',.int .i64 i2,.slice a' n' cap',.int .i64 t2,.string k2,.string b2,.int .i64 ci',.int .i64 ct',.slice b' m' bc',.int .i64 cp',.int .i64 cw',.int .i64 cn']):=LH (Blk.step (Blk.new (by simp)) hb)
         clear hb
         have pl:=HP.out.lt
         have ql:=HQ.out.lt
         obtain ⟨⟨⟨d0,d1,d2,d3⟩,⟨d4,d5,d6,d7⟩,d8,d9,d10,d11⟩,dz⟩:=cells12 HP.out
         obtain ⟨⟨⟨f0,f1,f2,f3⟩,⟨f4,f5,f6,f7⟩,f8,f9,f10,f11⟩,fz⟩:=cells12 HQ.out
         go_wp2_with fail
         refine Calls.mono (eqI_q (q:=true) (l:=ml) (l':=ml') ?_ ?_ ?_) ?_
         ·exact M.out.below (by repeat (first|with_reducible (first|exact HB.out|exact Below.refl _ _|apply Below.drew|apply below_alloc)|((first|with_reducible refine Below.alloc ?_ ?_ _|with_reducible refine Below.setCell ?_ ?_ _);rotate_left;focus (first|(simp <;> omega)|omega))))
         ·exact M'.out.below (by repeat (first|with_reducible (first|exact HB.out|exact Below.refl _ _|apply Below.drew|apply below_alloc)|((first|with_reducible refine Below.alloc ?_ ?_ _|with_reducible refine Below.setCell ?_ ?_ _);rotate_left;focus (first|(simp <;> omega)|omega))))
         ·simp [hml]
         clear d0 d1 d2 d3 d4 d5 d6 d7 d8 d9 d10 d11 dz f0 f1 f2 f3 f4 f5 f6 f7 f8 f9 f10 f11 fz pl ql
         rintro e w2 ⟨rfl,hb⟩
         replace HB:Hid (Below w.heap.size w w2):=below_step (by repeat (first|with_reducible (first|exact HB.out|exact Below.refl _ _|apply Below.drew|apply below_alloc)|((first|with_reducible refine Below.alloc ?_ ?_ _|with_reducible refine Below.setCell ?_ ?_ _);rotate_left;focus (first|(simp <;> omega)|omega)))) hb
         have HP2:=LH (Blk.step HP.out hb)
         have HQ2:=LH (Blk.step HQ.out hb)
         clear hb HP HQ
         have pl:=HP2.out.lt
         have ql:=HQ2.out.lt
         obtain ⟨⟨⟨d0,d1,d2,d3⟩,⟨d4,d5,d6,d7⟩,d8,d9,d10,d11⟩,dz⟩:=cells12 HP2.out
         obtain ⟨⟨⟨f0,f1,f2,f3⟩,⟨f4,f5,f6,f7⟩,f8,f9,f10,f11⟩,fz⟩:=cells12 HQ2.out
         go_wp2_with fail
         go_ret
         refine ⟨rfl,?_⟩
         exact HB.out
       ·have hw':(cw == cw')=false:=by simp [hw]
        obtain rfl:z=false:=by
         cases z
         ·rfl
         ·have:=HZ.out.1 rfl;simp_all
        clear HZ
        try clear hk
        try clear hi
        try clear ht
        try clear hp
        try clear hw
        try clear hn
        go_enter Tryz.func97,Tryz.ntmps97
        go_wp2_with fail
        refine Calls.mono (sameMsg_any (z:=true) (m:=pm) (m':=pm') ?_ ?_ ?_) ?_
        ·exact G.out.below (by repeat (first|with_reducible (first|exact Below.refl _ _|apply Below.drew|apply below_alloc)|((first|with_reducible refine Below.alloc ?_ ?_ _|with_reducible refine Below.setCell ?_ ?_ _);rotate_left;focus (first|(simp <;> omega)|omega))))
        ·exact G'.out.below (by repeat (first|with_reducible (first|exact Below.refl _ _|apply Below.drew|apply below_alloc)|((first|with_reducible refine Below.alloc ?_ ?_ _|with_reducible refine Below.setCell ?_ ?_ _);rotate_left;focus (first|(simp <;> omega)|omega))))
        ·simp [hmsg]
        rintro e w1 ⟨rfl,hb⟩
        have HB:Hid (Below w.heap.size w _):=below_step (by repeat (first|with_reducible (first|exact Below.refl _ _|apply Below.drew|apply below_alloc)|((first|with_reducible refine Below.alloc ?_ ?_ _|with_reducible refine Below.setCell ?_ ?_ _);rotate_left;focus (first|(simp <;> omega)|omega)))) hb
        have HP:Hid (Blk w1 w.heap.size 79 [.int .u8 kd,.int .i64 i1,.slice a n cap,.int .i64 t1,.string k1,.string b1,.int .i64 ci,.int .i64 ct,.slice b m bc,.int .i64 cp,.int .i64 cw,.int .i64 cn]):=LH (Blk.step ((Blk.new rfl).alloc _) hb)
        have HQ:Hid (Blk w1 (w.heap.size+1) 79 [.int .u8 kd',.int .i64 i2,.slice a' n' cap',.int .i64 t2,.string k2,.string b2,.int .i64 ci',.int .i64 ct',.slice b' m' bc',.int .i64 cp',.int .i64 cw',.int .i64 cn']):=LH (Blk.step (Blk.new (by simp)) hb)
        clear hb
        have pl:=HP.out.lt
        have ql:=HQ.out.lt
        obtain ⟨⟨⟨d0,d1,d2,d3⟩,⟨d4,d5,d6,d7⟩,d8,d9,d10,d11⟩,dz⟩:=cells12 HP.out
        obtain ⟨⟨⟨f0,f1,f2,f3⟩,⟨f4,f5,f6,f7⟩,f8,f9,f10,f11⟩,fz⟩:=cells12 HQ.out
        go_wp2_with fail
        refine Calls.mono (eqI_q (q:=true) (l:=ml) (l':=ml') ?_ ?_ ?_) ?_
        ·exact M.out.below (by repeat (first|with_reducible (first|exact HB.out|exact Below.refl _ _|apply Below.drew|apply below_alloc)|((first|with_reducible refine Below.alloc ?_ ?_ _|with_reducible refine Below.setCell ?_ ?_ _);rotate_left;focus (first|(simp <;> omega)|omega))))
        ·exact M'.out.below (by repeat (first|with_reducible (first|exact HB.out|exact Below.refl _ _|apply Below.drew|apply below_alloc)|((first|with_reducible refine Below.alloc ?_ ?_ _|with_reducible refine Below.setCell ?_ ?_ _);rotate_left;focus (first|(simp <;> omega)|omega))))
        ·simp [hml]
        clear d0 d1 d2 d3 d4 d5 d6 d7 d8 d9 d10 d11 dz f0 f1 f2 f3 f4 f5 f6 f7 f8 f9 f10 f11 fz pl ql
        rintro e w2 ⟨rfl,hb⟩
        replace HB:Hid (Below w.heap.size w w2):=below_step (by repeat (first|with_reducible (first|exact HB.out|exact Below.refl _ _|apply Below.drew|apply below_alloc)|((first|with_reducible refine Below.alloc ?_ ?_ _|with_reducible refine Below.setCell ?_ ?_ _);rotate_left;focus (first|(simp <;> omega)|omega)))) hb
        have HP2:=LH (Blk.step HP.out hb)
        have HQ2:=LH (Blk.step HQ.out hb)
        clear hb HP HQ
        have pl:=HP2.out.lt
        have ql:=HQ2.out.lt
        obtain ⟨⟨⟨d0,d1,d2,d3⟩,⟨d4,d5,d6,d7⟩,d8,d9,d10,d11⟩,dz⟩:=cells12 HP2.out
        obtain ⟨⟨⟨f0,f1,f2,f3⟩,⟨f4,f5,f6,f7⟩,f8,f9,f10,f11⟩,fz⟩:=cells12 HQ2.out
        go_wp2_with fail
        go_ret
        refine ⟨rfl,?_⟩
        exact HB.out
      ·have hp':(cp == cp')=false:=by simp [hp]
       obtain rfl:z=false:=by
        cases z
        ·rfl
        ·have:=HZ.out.1 rfl;simp_all
       clear HZ
       try clear hk
       try clear hi
       try clear ht
       try clear hp
       try clear hw
       try clear hn
       go_enter Tryz.func97,Tryz.ntmps97
       go_wp2_with fail
       refine Calls.mono (sameMsg_any (z:=true) (m:=pm) (m':=pm') ?_ ?_ ?_) ?_
       ·exact G.out.below (by repeat (first|with_reducible (first|exact Below.refl _ _|apply Below.drew|apply below_alloc)|((first|with_reducible refine Below.alloc ?_ ?_ _|with_reducible refine Below.setCell ?_ ?_ _);rotate_left;focus (first|(simp <;> omega)|omega))))
       ·exact G'.out.below (by repeat (first|with_reducible (first|exact Below.refl _ _|apply Below.drew|apply below_alloc)|((first|with_reducible refine Below.alloc ?_ ?_ _|with_reducible refine Below.setCell ?_ ?_ _);rotate_left;focus (first|(simp <;> omega)|omega))))
       ·simp [hmsg]
       rintro e w1 ⟨rfl,hb⟩
       have HB:Hid (Below w.heap.size w _):=below_step (by repeat (first|with_reducible (first|exact Below.refl _ _|apply Below.drew|apply below_alloc)|((first|with_reducible refine Below.alloc ?_ ?_ _|with_reducible refine Below.setCell ?_ ?_ _);rotate_left;focus (first|(simp <;> omega)|omega)))) hb
       have HP:Hid (Blk w1 w.heap.size 79 [.int .u8 kd,.int .i64 i1,.slice a n cap,.int .i64 t1,.string k1,.string b1,.int .i64 ci,.int .i64 ct,.slice b m bc,.int .i64 cp,.int .i64 cw,.int .i64 cn]):=LH (Blk.step ((Blk.new rfl).alloc _) hb)
       have HQ:Hid (Blk w1 (w.heap.size+1) 79 [.int .u8 kd',.int .i64 i2,.slice a' n' cap',.int .i64 t2,.string k2,.string b2,.int .i64 ci',.int .i64 ct',.slice b' m' bc',.int .i64 cp',.int .i64 cw',.int .i64 cn']):=LH (Blk.step (Blk.new (by simp)) hb)
       clear hb
       have pl:=HP.out.lt
       have ql:=HQ.out.lt
       obtain ⟨⟨⟨d0,d1,d2,d3⟩,⟨d4,d5,d6,d7⟩,d8,d9,d10,d11⟩,dz⟩:=cells12 HP.out
       obtain ⟨⟨⟨f0,f1,f2,f3⟩,⟨f4,f5,f6,f7⟩,f8,f9,f10,f11⟩,fz⟩:=cells12 HQ.out
       go_wp2_with fail
       refine Calls.mono (eqI_q (q:=true) (l:=ml) (l':=ml') ?_ ?_ ?_) ?_
       ·exact M.out.below (by repeat (first|with_reducible (first|exact HB.out|exact Below.refl _ _|apply Below.drew|apply below_alloc)|((first|with_reducible refine Below.alloc ?_ ?_ _|with_reducible refine Below.setCell ?_ ?_ _);rotate_left;focus (first|(simp <;> omega)|omega))))
       ·exact M'.out.below (by repeat (first|with_reducible (first|exact HB.out|exact Below.refl _ _|apply Below.drew|apply below_alloc)|((first|with_reducible refine Below.alloc ?_ ?_ _|with_reducible refine Below.setCell ?_ ?_ _);rotate_left;focus (first|(simp <;> omega)|omega))))
       ·simp [hml]
       clear d0 d1 d2 d3 d4 d5 d6 d7 d8 d9 d10 d11 dz f0 f1 f2 f3 f4 f5 f6 f7 f8 f9 f10 f11 fz pl ql
       rintro e w2 ⟨rfl,hb⟩
       replace HB:Hid (Below w.heap.size w w2):=below_step (by repeat (first|with_reducible (first|exact HB.out|exact Below.refl _ _|apply Below.drew|apply below_alloc)|((first|with_reducible refine Below.alloc ?_ ?_ _|with_reducible refine Below.setCell ?_ ?_ _);rotate_left;focus (first|(simp <;> omega)|omega)))) hb
       have HP2:=LH (Blk.step HP.out hb)
       have HQ2:=LH (Blk.step HQ.out hb)
       clear hb HP HQ
       have pl:=HP2.out.lt
       have ql:=HQ2.out.lt
       obtain ⟨⟨⟨d0,d1,d2,d3⟩,⟨d4,d5,d6,d7⟩,d8,d9,d10,d11⟩,dz⟩:=cells12 HP2.out
       obtain ⟨⟨⟨f0,f1,f2,f3⟩,⟨f4,f5,f6,f7⟩,f8,f9,f10,f11⟩,fz⟩:=cells12 HQ2.out
       go_wp2_with fail
       go_ret
       refine ⟨rfl,?_⟩
       exact HB.out
     ·obtain rfl:z=false:=by
       cases z
       ·rfl
       ·have:=HZ.out.1 rfl;simp_all
      clear HZ
      try clear hk
      try clear hi
      try clear ht
      try clear hp
      try clear hw
      try clear hn
      go_enter Tryz.func97,Tryz.ntmps97
      go_wp2_with fail
      refine Calls.mono (sameMsg_any (z:=true) (m:=pm) (m':=pm') ?_ ?_ ?_) ?_
      ·exact G.out.below (by repeat (first|with_reducible (first|exact Below.refl _ _|apply Below.drew|apply below_alloc)|((first|with_reducible refine Below.alloc ?_ ?_ _|with_reducible refine Below.setCell ?_ ?_ _);rotate_left;focus (first|(simp <;> omega)|omega))))
      ·exact G'.out.below (by repeat (first|with_reducible (first|exact Below.refl _ _|apply Below.drew|apply below_alloc)|((first|with_reducible refine Below.alloc ?_ ?_ _|with_reducible refine Below.setCell ?_ ?_ _);rotate_left;focus (first|(simp <;> omega)|omega))))
      ·simp [hmsg]
      rintro e w1 ⟨rfl,hb⟩
      have HB:Hid (Below w.heap.size w _):=below_step (by repeat (first|with_reducible (first|exact Below.refl _ _|apply Below.drew|apply below_alloc)|((first|with_reducible refine Below.alloc ?_ ?_ _|with_reducible refine Below.setCell ?_ ?_ _);rotate_left;focus (first|(simp <;> omega)|omega)))) hb
      have HP:Hid (Blk w1 w.heap.size 79 [.int .u8 kd,.int .i64 i1,.slice a n cap,.int .i64 t1,.string k1,.string b1,.int .i64 ci,.int .i64 ct,.slice b m bc,.int .i64 cp,.int .i64 cw,.int .i64 cn]):=LH (Blk.step ((Blk.new rfl).alloc _) hb)
      have HQ:Hid (Blk w1 (w.heap.size+1) 79 [.int .u8 kd',.int .i64 i2,.slice a' n' cap',.int .i64 t2,.string k2,.string b2,.int .i64 ci',.int .i64 ct',.slice b' m' bc',.int .i64 cp',.int .i64 cw',.int .i64 cn']):=LH (Blk.step (Blk.new (by simp)) hb)
      clear hb
      have pl:=HP.out.lt
      have ql:=HQ.out.lt
      obtain ⟨⟨⟨d0,d1,d2,d3⟩,⟨d4,d5,d6,d7⟩,d8,d9,d10,d11⟩,dz⟩:=cells12 HP.out
      obtain ⟨⟨⟨f0,f1,f2,f3⟩,⟨f4,f5,f6,f7⟩,f8,f9,f10,f11⟩,fz⟩:=cells12 HQ.out
      go_wp2_with fail
      refine Calls.mono (eqI_q (q:=false) (l:=ml) (l':=ml') ?_ ?_ ?_) ?_
      ·exact M.out.below (by repeat (first|with_reducible (first|exact HB.out|exact Below.refl _ _|apply Below.drew|apply below_alloc)|((first|with_reducible refine Below.alloc ?_ ?_ _|with_reducible refine Below.setCell ?_ ?_ _);rotate_left;focus (first|(simp <;> omega)|omega))))
      ·exact M'.out.below (by repeat (first|with_reducible (first|exact HB.out|exact Below.refl _ _|apply Below.drew|apply below_alloc)|((first|with_reducible refine Below.alloc ?_ ?_ _|with_reducible refine Below.setCell ?_ ?_ _);rotate_left;focus (first|(simp <;> omega)|omega))))
      ·simp [hml]
      clear d0 d1 d2 d3 d4 d5 d6 d7 d8 d9 d10 d11 dz f0 f1 f2 f3 f4 f5 f6 f7 f8 f9 f10 f11 fz pl ql
      rintro e w2 ⟨rfl,hb⟩
      replace HB:Hid (Below w.heap.size w w2):=below_step (by repeat (first|with_reducible (first|exact HB.out|exact Below.refl _ _|apply Below.drew|apply below_alloc)|((first|with_reducible refine Below.alloc ?_ ?_ _|with_reducible refine Below.setCell ?_ ?_ _);rotate_left;focus (first|(simp <;> omega)|omega)))) hb
      have HP2:=LH (Blk.step HP.out hb)
      have HQ2:=LH (Blk.step HQ.out hb)
      clear hb HP HQ
      have pl:=HP2.out.lt
      have ql:=HQ2.out.lt
      obtain ⟨⟨⟨d0,d1,d2,d3⟩,⟨d4,d5,d6,d7⟩,d8,d9,d10,d11⟩,dz⟩:=cells12 HP2.out
      obtain ⟨⟨⟨f0,f1,f2,f3⟩,⟨f4,f5,f6,f7⟩,f8,f9,f10,f11⟩,fz⟩:=cells12 HQ2.out
      go_wp2_with fail
      go_ret
      refine ⟨rfl,?_⟩
      exact HB.out
    ·have ht':(ct == ct')=false:=by simp [ht]
     obtain rfl:z=false:=by
      cases z
      ·rfl
      ·have:=HZ.out.1 rfl;simp_all
     clear HZ
     try clear hk
     try clear hi
     try clear ht
     try clear hp
     try clear hw
     try clear hn
     go_enter Tryz.func97,Tryz.ntmps97
     go_wp2_with fail
     refine Calls.mono (sameMsg_any (z:=true) (m:=pm) (m':=pm') ?_ ?_ ?_) ?_
     ·exact G.out.below (by repeat (first|with_reducible (first|exact Below.refl _ _|apply Below.drew|apply below_alloc)|((first|with_reducible refine Below.alloc ?_ ?_ _|with_reducible refine Below.setCell ?_ ?_ _);rotate_left;focus (first|(simp <;> omega)|omega))))
     ·exact G'.out.below (by repeat (first|with_reducible (first|exact Below.refl _ _|apply Below.drew|apply below_alloc)|((first|with_reducible refine Below.alloc ?_ ?_ _|with_reducible refine Below.setCell ?_ ?_ _);rotate_left;focus (first|(simp <;> omega)|omega))))
     ·simp [hmsg]
     rintro e w1 ⟨rfl,hb⟩
     have HB:Hid (Below w.heap.size w _):=below_step (by repeat (first|with_reducible (first|exact Below.refl _ _|apply Below.drew|apply below_alloc)|((first|with_reducible refine Below.alloc ?_ ?_ _|with_reducible refine Below.setCell ?_ ?_ _);rotate_left;focus (first|(simp <;> omega)|omega)))) hb
     have HP:Hid (Blk w1 w.heap.size 79 [.int .u8 kd,.int .i64 i1,.slice a n cap,.int .i64 t1,.string k1,.string b1,.int .i64 ci,.int .i64 ct,.slice b m bc,.int .i64 cp,.int .i64 cw,.int .i64 cn]):=LH (Blk.step ((Blk.new rfl).alloc _) hb)
     have HQ:Hid (Blk w1 (w.heap.size+1) 79 [.int .u8 kd',.int .i64 i2,.slice a' n' cap',.int .i64 t2,.string k2,.string b2,.int .i64 ci',.int .i64 ct',.slice b' m' bc',.int .i64 cp',.int .i64 cw',.int .i64 cn']):=LH (Blk.step (Blk.new (by simp)) hb)
     clear hb
     have pl:=HP.out.lt
     have ql:=HQ.out.lt
     obtain ⟨⟨⟨d0,d1,d2,d3⟩,⟨d4,d5,d6,d7⟩,d8,d9,d10,d11⟩,dz⟩:=cells12 HP.out
     obtain ⟨⟨⟨f0,f1,f2,f3⟩,⟨f4,f5,f6,f7⟩,f8,f9,f10,f11⟩,fz⟩:=cells12 HQ.out
     go_wp2_with fail
     go_ret
     refine ⟨rfl,?_⟩
     exact HB.out
   ·have hi':(ci == ci')=false:=by simp [hi]
    obtain rfl:z=false:=by
     cases z
     ·rfl
     ·have:=HZ.out.1 rfl;simp_all
    clear HZ
    try clear hk
    try clear hi
    try clear ht
    try clear hp
    try clear hw
    try clear hn
    go_enter Tryz.func97,Tryz.ntmps97
    go_wp2_with fail
    refine Calls.mono (sameMsg_any (z:=true) (m:=pm) (m':=pm') ?_ ?_ ?_) ?_
    ·exact G.out.below (by repeat (first|with_reducible (first|exact Below.refl _ _|apply Below.drew|apply below_alloc)|((first|with_reducible refine Below.alloc ?_ ?_ _|with_reducible refine Below.setCell ?_ ?_ _);rotate_left;focus (first|(simp <;> omega)|omega))))
    ·exact G'.out.below (by repeat (first|with_reducible (first|exact Below.refl _ _|apply Below.drew|apply below_alloc)|((first|with_reducible refine Below.alloc ?_ ?_ _|with_reducible refine Below.setCell ?_ ?_ _);rotate_left;focus (first|(simp <;> omega)|omega))))
    ·simp [hmsg]
    rintro e w1 ⟨rfl,hb⟩
    have HB:Hid (Below w.heap.size w _):=below_step (by repeat (first|with_reducible (first|exact Below.refl _ _|apply Below.drew|apply below_alloc)|((first|with_reducible refine Below.alloc ?_ ?_ _|with_reducible refine Below.setCell ?_ ?_ _);rotate_left;focus (first|(simp <;> omega)|omega)))) hb
    have HP:Hid (Blk w1 w.heap.size 79 [.int .u8 kd,.int .i64 i1,.slice a n cap,.int .i64 t1,.string k1,.string b1,.int .i64 ci,.int .i64 ct,.slice b m bc,.int .i64 cp,.int .i64 cw,.int .i64 cn]):=LH (Blk.step ((Blk.new rfl).alloc _) hb)
    have HQ:Hid (Blk w1 (w.heap.size+1) 79 [.int .u8 kd',.int .i64 i2,.slice a' n' cap',.int .i64 t2,.string k2,.string b2,.int .i64 ci',.int .i64 ct',.slice b' m' bc',.int .i64 cp',.int .i64 cw',.int .i64 cn']):=LH (Blk.step (Blk.new (by simp)) hb)
    clear hb
    have pl:=HP.out.lt
    have ql:=HQ.out.lt
    obtain ⟨⟨⟨d0,d1,d2,d3⟩,⟨d4,d5,d6,d7⟩,d8,d9,d10,d11⟩,dz⟩:=cells12 HP.out
    obtain ⟨⟨⟨f0,f1,f2,f3⟩,⟨f4,f5,f6,f7⟩,f8,f9,f10,f11⟩,fz⟩:=cells12 HQ.out
    go_wp2_with fail
    go_ret
    refine ⟨rfl,?_⟩
    exact HB.out
  ·obtain rfl:z=false:=by
    cases z
    ·rfl
    ·have:=HZ.out.1 rfl;simp_all
   clear HZ
   try clear hk
   try clear hi
   try clear ht
   try clear hp
   try clear hw
   try clear hn
   go_enter Tryz.func97,Tryz.ntmps97
   go_wp2_with fail
   refine Calls.mono (sameMsg_any (z:=false) (m:=pm) (m':=pm') ?_ ?_ ?_) ?_
   ·exact G.out.below (by repeat (first|with_reducible (first|exact Below.refl _ _|apply Below.drew|apply below_alloc)|((first|with_reducible refine Below.alloc ?_ ?_ _|with_reducible refine Below.setCell ?_ ?_ _);rotate_left;focus (first|(simp <;> omega)|omega))))
   ·exact G'.out.below (by repeat (first|with_reducible (first|exact Below.refl _ _|apply Below.drew|apply below_alloc)|((first|with_reducible refine Below.alloc ?_ ?_ _|with_reducible refine Below.setCell ?_ ?_ _);rotate_left;focus (first|(simp <;> omega)|omega))))
   ·simp [hmsg]
   rintro e w1 ⟨rfl,hb⟩
   have HB:Hid (Below w.heap.size w _):=below_step (by repeat (first|with_reducible (first|exact Below.refl _ _|apply Below.drew|apply below_alloc)|((first|with_reducible refine Below.alloc ?_ ?_ _|with_reducible refine Below.setCell ?_ ?_ _);rotate_left;focus (first|(simp <;> omega)|omega)))) hb
   have HP:Hid (Blk w1 w.heap.size 79 [.int .u8 kd,.int .i64 i1,.slice a n cap,.int .i64 t1,.string k1,.string b1,.int .i64 ci,.int .i64 ct,.slice b m bc,.int .i64 cp,.int .i64 cw,.int .i64 cn]):=LH (Blk.step ((Blk.new rfl).alloc _) hb)
   have HQ:Hid (Blk w1 (w.heap.size+1) 79 [.int .u8 kd',.int .i64 i2,.slice a' n' cap',.int .i64 t2,.string k2,.string b2,.int .i64 ci',.int .i64 ct',.slice b' m' bc',.int .i64 cp',.int .i64 cw',.int .i64 cn']):=LH (Blk.step (Blk.new (by simp)) hb)
   clear hb
   have pl:=HP.out.lt
   have ql:=HQ.out.lt
   obtain ⟨⟨⟨d0,d1,d2,d3⟩,⟨d4,d5,d6,d7⟩,d8,d9,d10,d11⟩,dz⟩:=cells12 HP.out
   obtain ⟨⟨⟨f0,f1,f2,f3⟩,⟨f4,f5,f6,f7⟩,f8,f9,f10,f11⟩,fz⟩:=cells12 HQ.out
   go_wp2_with fail
   go_ret
   refine ⟨rfl,?_⟩
   exact HB.out
 ·have hk':(kd == kd')=false:=by simp [hk]
  obtain rfl:z=false:=by
   cases z
   ·rfl
   ·have:=HZ.out.1 rfl;simp_all
  clear HZ
  try clear hk
  try clear hi
  try clear ht
  try clear hp
  try clear hw
  try clear hn
  go_enter Tryz.func97,Tryz.ntmps97
  go_wp2_with fail
  go_ret
  refine ⟨rfl,?_⟩
  repeat (first|with_reducible (first|exact Below.refl _ _|apply Below.drew|apply below_alloc)|((first|with_reducible refine Below.alloc ?_ ?_ _|with_reducible refine Below.setCell ?_ ?_ _);rotate_left;focus (first|(simp <;> omega)|omega)))
theorem isNaN17 (n:Int) (w:World):Calls Tryz.prog 111 #[.int .i64 n] w fun e w'=>e=.returned (.bool false)∧w=w':=by
 have e:(n != n)=false:=by simp
 go_enter Tryz.func111,Tryz.ntmps111
 go_wp2_with fail
 go_ret
 exact ⟨rfl,rfl⟩
def cmpI17 (a b:Int):Int:=if a < b then -1 else if b < a then 1 else 0
theorem compare17 (a b:Int) (w:World):Calls Tryz.prog 64 #[.int .i64 a,.int .i64 b] w fun e w'=>e=.returned (.int .i64 (cmpI17 a b))∧w=w':=by
 have L1:=LH (fun w=>isNaN17 a w)
 have L2:=LH (fun w=>isNaN17 b w)
 by_cases h1:a < b
 ·rw [show cmpI17 a b=-1 by simp [cmpI17,h1]]
  go_enter Tryz.func64,Tryz.ntmps64
  go_wp2_with fail
  refine (L1.out _).mono ?_
  rintro e w1 ⟨rfl,rfl⟩
  go_wp2_with fail
  refine (L2.out _).mono ?_
  rintro e w1 ⟨rfl,rfl⟩
  go_wp2_with fail
  go_ret
  exact ⟨rfl,rfl⟩
 ·by_cases h2:b < a
  ·rw [show cmpI17 a b=1 by simp [cmpI17,h1,h2]]
   go_enter Tryz.func64,Tryz.ntmps64
   go_wp2_with fail
   refine (L1.out _).mono ?_
   rintro e w1 ⟨rfl,rfl⟩
   go_wp2_with fail
   refine (L2.out _).mono ?_
   rintro e w1 ⟨rfl,rfl⟩
   go_wp2_with fail
   go_ret
   exact ⟨rfl,rfl⟩
  ·rw [show cmpI17 a b=0 by simp [cmpI17,h1,h2]]
   go_enter Tryz.func64,Tryz.ntmps64
   go_wp2_with fail
   refine (L1.out _).mono ?_
   rintro e w1 ⟨rfl,rfl⟩
   go_wp2_with fail
   refine (L2.out _).mono ?_
   rintro e w1 ⟨rfl,rfl⟩
   go_wp2_with fail
   go_ret
   exact ⟨rfl,rfl⟩
theorem fetch1_any (x:Ent) (n:Int) (w:World):Calls Tryz.prog 63 #[.agg #[.int .i64 x.off,.int .i64 x.id,.string x.key,.string x.body],.int .i64 n] w fun e w'=>e=.returned (.int .i64 (cmpI17 x.off n))∧Below w.heap.size w w':=by
 obtain ⟨c,hc⟩:∃ c,c=cmpI17 x.off n:=⟨_,rfl⟩
 have L:=fun w=>compare17 x.off n w
 rw [← hc] at L ⊢
 have HL:=LH L
 clear L hc
 go_enter Tryz.func63,Tryz.ntmps63
 go_wp2_with fail
 refine (HL.out _).mono ?_
 rintro e w1 ⟨rfl,rfl⟩
 go_wp2_with fail
 go_ret
 exact ⟨rfl,(Below.refl _ _).alloc (Nat.le_refl _) _⟩
def BsEnd (l:List Ent) (o:Int) (w:World) (e:Ending) (w':World):Prop :=
 (∃ (i:Nat) (b:Bool),e=.returned (.tuple #[.int .i64 (i:Int),.bool b])∧(b=true→i < l.length∧(l.getD i default).off=o)∧(b=false→∀ j,j < l.length→(l.getD j default).off≠o))∧Below w.heap.size w w'
set_option maxHeartbeats 1000000 in
theorem bs_any {v:Value} {l:List Ent} {w:World} (o:Int) (h:SliceR w v 4 entCells l) (hr:rises l) (hl:l.length≤1000000) :
  Calls Tryz.prog 62 #[v,.int .i64 o,.func (.func 63) #[] #[]] w (BsEnd l o w):=by
 obtain ⟨a,cap,hv,_⟩:=id h
 subst hv
 obtain ⟨⟨_,hcap⟩,⟨hmax,_⟩,hd⟩:=h.ents
 unfold maxLen at hmax
 have HD:=LH hd
 have HR:=LH hr
 obtain ⟨n,hn⟩:∃ n,n=l.length:=⟨_,rfl⟩
 rw [← hn] at HD hcap hl ⊢
 have HN:=LH hn
 clear hn hd h hr
 have hn':(n:Int)≤1000000:=by omega
 go_enter Tryz.func62,Tryz.ntmps62
 go_wp2_with fail
 go_loopg [9,10] n (fun g i j wr=>∃ p q:Nat,p≤q∧q≤n∧g=q - p∧i=.int .i64 (p:Int)∧j=.int .i64 (q:Int)∧Hid (∀ k,k < p→(l.getD k default).off < o)∧Hid (∀ k,q≤k→k < n→o≤(l.getD k default).off)∧Hid (Below w.heap.size w wr))
 case atStart=>exact ⟨0,n,Nat.zero_le _,Nat.le_refl _,rfl,rfl,rfl,(fun k hk=>absurd hk (Nat.not_lt_zero _)),(fun k h1 h2=>by omega),Below.refl _ _⟩
 case round =>
  obtain ⟨p,q,hpq,hqn,rfl,rfl,rfl,hlo,hhi,hb⟩:=hrel
  by_cases hlt:p < q
  ·have hk1:(p:Int) < (q:Int):=by omega
   obtain ⟨m,hm⟩:∃ m:Nat,((p:Int)+(q:Int)) / 2=(m:Int):=⟨(p+q) / 2,by omega⟩
   have m1:p≤m∧m < q∧m < n:=by omega
   obtain ⟨m1,m2,m3⟩:=m1
   have m4:(0:Int)≤(m:Int):=by omega
   have m5:(m:Int) < (n:Int):=by omega
   obtain ⟨bb,off,ha,hcc⟩:=HD.out (by omega)
   subst ha
   have cc:=hcc m (by rw [← HN.out];exact m3)
   clear hcc
   obtain ⟨x,hx⟩:∃ x,x=l.getD m default:=⟨_,rfl⟩
   rw [← hx] at cc
   have c0:=keep hb.out cc.1.1.1
   have c1:=keep hb.out cc.1.1.2
   have c2:=keep hb.out cc.1.2
   have c3:=keep hb.out cc.2
   have HX:=LH hx
   obtain ⟨c,hc⟩:∃ c,c=cmpI17 x.off o:=⟨_,rfl⟩
   have L:=fun w=>fetch1_any x o w
   rw [← hc] at L
   have HLL:=LH L
   have HCC:=LH hc
   clear cc hx L hc
   by_cases hlo2:x.off < o
   ·have c4:c < 0:=by rw [HCC.out];simp [cmpI17,hlo2]
    have HLO:=LH (show ∀ k,k < m+1→(l.getD k default).off < o by
     intro k hk
     by_cases hkm:k=m
     ·subst hkm;rw [← HX.out];exact hlo2
     ·have:=rises_lt HR.out (j:=k) (k:=m) (by omega) (by rw [← HN.out];exact m3)
      rw [← HX.out] at this
      omega)
    clear hlo2
    go_wp2_with fail
    refine (HLL.out _).mono ?_
    rintro e w1 ⟨rfl,hb1⟩
    have HB1:=LH (hb.out.trans (hb1.mono hb.out.size))
    clear hb1 hb c0 c1 c2 c3
    go_wp2_with fail
    go_roundg (q - (m+1))
    case measure=>omega
    case rel=>exact ⟨m+1,q,by omega,hqn,rfl,by go_num,rfl,HLO,hhi,HB1⟩
   ·have c4:¬ c < 0:=by rw [HCC.out];simp only [cmpI17,hlo2,if_false];split <;> omega
    have HHI:=LH (show ∀ k,m≤k→k < n→o≤(l.getD k default).off by
     intro k hk hkn
     by_cases hkm:k=m
     ·subst hkm;rw [← HX.out];omega
     ·have:=rises_lt HR.out (j:=m) (k:=k) (by omega) (by rw [← HN.out];exact hkn)
      rw [← HX.out] at this
      omega)
    clear hlo2
    go_wp2_with fail
    refine (HLL.out _).mono ?_
    rintro e w1 ⟨rfl,hb1⟩
    have HB1:=LH (hb.out.trans (hb1.mono hb.out.size))
    clear hb1 hb c0 c1 c2 c3
    go_wp2_with fail
    go_roundg (m - p)
    case measure=>omega
    case rel=>exact ⟨p,m,by omega,by omega,rfl,rfl,by go_num,hlo,HHI,HB1⟩
  ·obtain rfl:p=q:=by omega
   have hlt':¬ (p:Int) < (p:Int):=by omega
   by_cases hpn:p < n
   ·have m4:(0:Int)≤(p:Int):=by omega
    have m5:(p:Int) < (n:Int):=by omega
    obtain ⟨bb,off,ha,hcc⟩:=HD.out (by omega)
    subst ha
    have cc:=hcc p (by rw [← HN.out];exact hpn)
    clear hcc
    obtain ⟨x,hx⟩:∃ x,x=l.getD p default:=⟨_,rfl⟩
    rw [← hx] at cc
    have c0:=keep hb.out cc.1.1.1
    have c1:=keep hb.out cc.1.1.2
    have c2:=keep hb.out cc.1.2
    have c3:=keep hb.out cc.2
    have HX:=LH hx
    obtain ⟨c,hc⟩:∃ c,c=cmpI17 x.off o:=⟨_,rfl⟩
    have L:=fun w=>fetch1_any x o w
    rw [← hc] at L
    have HLL:=LH L
    have HCC:=LH hc
    clear cc hx L hc
    go_wp2_with fail
    refine (HLL.out _).mono ?_
    rintro e w1 ⟨rfl,hb1⟩
    have HB1:=LH (hb.out.trans (hb1.mono hb.out.size))
    clear hb1 hb c0 c1 c2 c3
    go_wp2_with fail
    go_ret2
    refine ⟨⟨p,c == 0,rfl,fun h=>⟨by rw [← HN.out];exact hpn,?_⟩,fun h j hj he=>?_⟩,HB1.out⟩
    ·rw [← HX.out]
     have h0:c=0:=by simpa using h
     have h1:=HCC.out
     rw [h0,cmpI17] at h1
     by_cases a1:x.off < o
     ·simp [a1] at h1
     ·by_cases a2:o < x.off
      ·simp [a1,a2] at h1
      ·omega
    ·have h0:c≠0:=by simpa using h
     have h1:=HCC.out
     have a0:x.off≠o:=fun e=>h0 (by rw [h1,e];simp [cmpI17])
     have a1:=hhi.out p (Nat.le_refl _) hpn
     rw [← HX.out] at a1
     by_cases hjp:j < p
     ·have:=hlo.out j hjp;omega
     ·by_cases hj2:j=p
      ·subst hj2;rw [← HX.out] at he;exact a0 he
      ·have:=rises_lt HR.out (j:=p) (k:=j) (by omega) hj
       rw [← HX.out] at this
       omega
   ·obtain rfl:p=n:=by omega
    go_wp2_with fail
    go_ret2
    refine ⟨⟨p,false,rfl,(fun h=>by cases h),fun _ j hj he=>?_⟩,hb.out⟩
    have:=hlo.out j (by rw [HN.out];exact hj)
    omega
end Go.Proofs.YtdfmcgekfogpbabGreatDoor
