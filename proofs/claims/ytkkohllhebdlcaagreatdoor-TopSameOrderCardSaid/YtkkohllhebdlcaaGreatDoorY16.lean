/-
  Proved here: Plain: a command with what its kind has alone. No program in sight. command.plain at one kind of commands. No condition but the kind. command.plain at one kind of commands. No condition but the kind. command.SameMessage, command.Same: they compare. No condition.
-/
import Derived.Test.YtkkohllhebdlcaaGreatDoorY07
import Derived.Test.YtkkohllhebdlcaaGreatDoorY08
import Derived.Deep.RegionWith
import Derived.Deep.DeepCutAuto
import Derived.Deep.RegionHeld3
set_option maxRecDepth 100000
namespace Go.Proofs.YtkkohllhebdlcaaGreatDoor
open Go.RowKit
def pZ (kind:Int):PC:=⟨kind,default,0,0,[],0,0,0⟩
def pC (c:PC):PC :=
 if c.kind=1 then ⟨1,c.msg,0,0,[],0,0,0⟩ else if c.kind=2 then ⟨2,default,c.id,c.time,[],0,0,0⟩ else if c.kind=3 then ⟨3,default,0,0,c.members,0,0,0⟩
 else if c.kind=4 then ⟨4,default,c.id,0,[],c.topic,c.who,c.n⟩ else if c.kind=5∨c.kind=6 then ⟨c.kind,default,c.id,0,[],c.topic,0,c.n⟩ else pZ c.kind
def onT (c:PC):Bool:=idB c.id && (inB c.topic 0 3 && inB c.n 0 1073741824)
def okP (c:PC):Bool :=
 if c.kind=0 then true else if c.kind=1 then msgB c.msg else if c.kind=2 then idB c.id && inB c.time 1 1073741824 else if c.kind=3 then decide (quoC c.members=0)
 else if c.kind=4 then onT c && inB c.who 0 7 else if c.kind=5∨c.kind=6 then onT c else false
def PlainEnd (c:PC) (ok:Bool) (w:World) (e:Ending) (w':World):Prop:=∃ v,e=.returned (.tuple #[v,.bool ok])∧ComR w' v c∧Below w.heap.size w w'
theorem idB_q {n:Int} {z:Bool} (h:z=idB n) (w:World):Calls Tryz.prog 101 #[.int .i64 n] w fun e w'=>e=.returned (.bool z)∧w=w':=by rw [h];exact idB_any n w
theorem inB_q {n lo hi:Int} {z:Bool} (h:z=inB n lo hi) (w:World):Calls Tryz.prog 102 #[.int .i64 n,.int .i64 lo,.int .i64 hi] w fun e w'=>e=.returned (.bool z)∧w=w':=by rw [h];exact inB_any n lo hi w
theorem blk_put12 {w:World} {g:Nat} {t:TypeId} {u0_ u1_ u2_ u3_ u4_ u5_ u6_ u7_ u8_ u9_ u10_ u11_:Value} (h:Blk w g t [u0_,u1_,u2_,u3_,u4_,u5_,u6_,u7_,u8_,u9_,u10_,u11_]) (v0 v1 v2 v3 v4 v5 v6 v7 v8 v9 v10 v11:Value) :
  Blk ((((((((((((w.setCell ⟨g,0,none⟩ v0).setCell ⟨g,1,none⟩ v1).setCell ⟨g,2,none⟩ v2).setCell ⟨g,3,none⟩ v3).setCell ⟨g,4,none⟩ v4).setCell ⟨g,5,none⟩ v5).setCell ⟨g,6,none⟩ v6).setCell ⟨g,7,none⟩ v7).setCell ⟨g,8,none⟩ v8).setCell ⟨g,9,none⟩ v9).setCell ⟨g,10,none⟩ v10).setCell ⟨g,11,none⟩ v11) g t [v0,v1,v2,v3,v4,v5,v6,v7,v8,v9,v10,v11] :=
 (((((((((((h.set_ 0 v0).set_ 1 v1).set_ 2 v2).set_ 3 v3).set_ 4 v4).set_ 5 v5).set_ 6 v6).set_ 7 v7).set_ 8 v8).set_ 9 v9).set_ 10 v10).set_ 11 v11
set_option maxHeartbeats 8000000 in
set_option maxRecDepth 100000 in
theorem plain_k1 {v:Value} {c:PC} {w:World} (h:ComR w v c) (hk:c.kind=1):Calls Tryz.prog 70 #[v] w (PlainEnd (pC c) (okP c) w):=by
 obtain ⟨a,cap,b,bc,rfl,hg,hm⟩:=h
 obtain ⟨q,hq⟩:∃ q,q=onT c:=⟨_,rfl⟩
 have HPC:=LH (show pC c=pC c from rfl)
 have HOK:=LH (show okP c=okP c from rfl)
 obtain ⟨pc,hpc⟩:∃ pc,pc=pC c:=⟨_,rfl⟩
 obtain ⟨ok,hok⟩:∃ ok,ok=okP c:=⟨_,rfl⟩
 rw [← hpc,← hok]
 clear HPC HOK
 obtain ⟨kd,⟨i1,g1,t1,k1,b1⟩,ci,ct,ml,cp,cw,cn⟩:=c
 simp only [onT] at hq hg hm hk ⊢
 have HK:=LH hk
 clear hk
 have HQ:=LH hq
 have HPC:=LH hpc
 have HOK:=LH hok
 have G:=LH hg
 have M:=LH hm
 obtain ⟨gn,hgn⟩:∃ n,n=g1.length:=⟨_,rfl⟩
 obtain ⟨mn,hmn⟩:∃ n,n=ml.length:=⟨_,rfl⟩
 rw [← hgn] at G ⊢
 rw [← hmn] at M ⊢
 have HGN:=LH hgn
 have HMN:=LH hmn
 clear hq hg hm hpc hok hgn hmn
 obtain ⟨z1,hz1⟩:∃ z:Bool,z=idB ci:=⟨_,rfl⟩
 obtain ⟨z2,hz2⟩:∃ z:Bool,z=inB cp 0 3:=⟨_,rfl⟩
 obtain ⟨z3,hz3⟩:∃ z:Bool,z=inB cn 0 1073741824:=⟨_,rfl⟩
 have HZ1:=LH hz1
 have HZ2:=LH hz2
 have HZ3:=LH hz3
 rw [← hz1,← hz2,← hz3] at HQ
 clear hz1 hz2 hz3
 go_enter Tryz.func70,Tryz.ntmps70
 go_upto_region 2 with fail
 go_cut [5] (fun c wx=>c=.bool q∧Hid (Below w.heap.size w wx)∧Hid (Blk wx w.heap.size 58 [.int .u8 kd,.int .i64 i1,.slice a gn cap,.int .i64 t1,.string k1,.string b1,.int .i64 ci,.int .i64 ct,.slice b mn bc,.int .i64 cp,.int .i64 cw,.int .i64 cn])∧Hid (Blk wx (w.heap.size+1) 58 [.int .u8 0,.int .i64 0,.slice none 0 0,.int .i64 0,.string ⟨#[]⟩,.string ⟨#[]⟩,.int .i64 0,.int .i64 0,.slice none 0 0,.int .i64 0,.int .i64 0,.int .i64 0])∧Hid (Blk wx (w.heap.size+1+1) 58 [.int .u8 kd,.int .i64 0,.slice none 0 0,.int .i64 0,.string ⟨#[]⟩,.string ⟨#[]⟩,.int .i64 0,.int .i64 0,.slice none 0 0,.int .i64 0,.int .i64 0,.int .i64 0]))
 case first =>
  have HB0:Hid (Below w.heap.size w (((w.alloc (.cells #[.int .u8 kd,.int .i64 i1,.slice a gn cap,.int .i64 t1,.string k1,.string b1,.int .i64 ci,.int .i64 ct,.slice b mn bc,.int .i64 cp,.int .i64 cw,.int .i64 cn] 58)).alloc (.cells #[.int .u8 0,.int .i64 0,.slice none 0 0,.int .i64 0,.string ⟨#[]⟩,.string ⟨#[]⟩,.int .i64 0,.int .i64 0,.slice none 0 0,.int .i64 0,.int .i64 0,.int .i64 0] 58)).alloc (.cells #[.int .u8 kd,.int .i64 0,.slice none 0 0,.int .i64 0,.string ⟨#[]⟩,.string ⟨#[]⟩,.int .i64 0,.int .i64 0,.slice none 0 0,.int .i64 0,.int .i64 0,.int .i64 0] 58))):=LH (by repeat (first|with_reducible (first|exact Below.refl _ _|apply Below.drew|apply below_alloc)|((first|with_reducible refine Below.alloc ?_ ?_ _|with_reducible refine Below.setCell ?_ ?_ _);rotate_left;focus (first|(simp <;> omega)|omega))))
  have HE:Hid (Blk (((w.alloc (.cells #[.int .u8 kd,.int .i64 i1,.slice a gn cap,.int .i64 t1,.string k1,.string b1,.int .i64 ci,.int .i64 ct,.slice b mn bc,.int .i64 cp,.int .i64 cw,.int .i64 cn] 58)).alloc (.cells #[.int .u8 0,.int .i64 0,.slice none 0 0,.int .i64 0,.string ⟨#[]⟩,.string ⟨#[]⟩,.int .i64 0,.int .i64 0,.slice none 0 0,.int .i64 0,.int .i64 0,.int .i64 0] 58)).alloc (.cells #[.int .u8 kd,.int .i64 0,.slice none 0 0,.int .i64 0,.string ⟨#[]⟩,.string ⟨#[]⟩,.int .i64 0,.int .i64 0,.slice none 0 0,.int .i64 0,.int .i64 0,.int .i64 0] 58)) w.heap.size 58 [.int .u8 kd,.int .i64 i1,.slice a gn cap,.int .i64 t1,.string k1,.string b1,.int .i64 ci,.int .i64 ct,.slice b mn bc,.int .i64 cp,.int .i64 cw,.int .i64 cn]∧Blk (((w.alloc (.cells #[.int .u8 kd,.int .i64 i1,.slice a gn cap,.int .i64 t1,.string k1,.string b1,.int .i64 ci,.int .i64 ct,.slice b mn bc,.int .i64 cp,.int .i64 cw,.int .i64 cn] 58)).alloc (.cells #[.int .u8 0,.int .i64 0,.slice none 0 0,.int .i64 0,.string ⟨#[]⟩,.string ⟨#[]⟩,.int .i64 0,.int .i64 0,.slice none 0 0,.int .i64 0,.int .i64 0,.int .i64 0] 58)).alloc (.cells #[.int .u8 kd,.int .i64 0,.slice none 0 0,.int .i64 0,.string ⟨#[]⟩,.string ⟨#[]⟩,.int .i64 0,.int .i64 0,.slice none 0 0,.int .i64 0,.int .i64 0,.int .i64 0] 58)) (w.heap.size+1) 58 [.int .u8 0,.int .i64 0,.slice none 0 0,.int .i64 0,.string ⟨#[]⟩,.string ⟨#[]⟩,.int .i64 0,.int .i64 0,.slice none 0 0,.int .i64 0,.int .i64 0,.int .i64 0]∧Blk (((w.alloc (.cells #[.int .u8 kd,.int .i64 i1,.slice a gn cap,.int .i64 t1,.string k1,.string b1,.int .i64 ci,.int .i64 ct,.slice b mn bc,.int .i64 cp,.int .i64 cw,.int .i64 cn] 58)).alloc (.cells #[.int .u8 0,.int .i64 0,.slice none 0 0,.int .i64 0,.string ⟨#[]⟩,.string ⟨#[]⟩,.int .i64 0,.int .i64 0,.slice none 0 0,.int .i64 0,.int .i64 0,.int .i64 0] 58)).alloc (.cells #[.int .u8 kd,.int .i64 0,.slice none 0 0,.int .i64 0,.string ⟨#[]⟩,.string ⟨#[]⟩,.int .i64 0,.int .i64 0,.slice none 0 0,.int .i64 0,.int .i64 0,.int .i64 0] 58)) (w.heap.size+1+1) 58 [.int .u8 kd,.int .i64 0,.slice none 0 0,.int .i64 0,.string ⟨#[]⟩,.string ⟨#[]⟩,.int .i64 0,.int .i64 0,.slice none 0 0,.int .i64 0,.int .i64 0,.int .i64 0]) :=
   LH ⟨((Blk.new rfl).alloc _).alloc _,(Blk.new (by simp)).alloc _,Blk.new (by simp)⟩
  cases z1
  ·obtain rfl:q=false:=HQ.out
   go_wp2_with fail
   refine Calls.mono (idB_any ci _) ?_
   rintro e w1 ⟨rfl,rfl⟩
   rw [← HZ1.out]
   go_wp2_with fail
   go_meet
   case rel=>exact ⟨rfl,HB0,HE.out.1,HE.out.2.1,HE.out.2.2⟩
  ·cases z2
   ·obtain rfl:q=false:=HQ.out
    go_wp2_with fail
    refine Calls.mono (idB_any ci _) ?_
    rintro e w1 ⟨rfl,rfl⟩
    rw [← HZ1.out]
    go_wp2_with fail
    refine Calls.mono (inB_any cp 0 3 _) ?_
    rintro e w1 ⟨rfl,rfl⟩
    rw [← HZ2.out]
    go_wp2_with fail
    go_meet
    case rel=>exact ⟨rfl,HB0,HE.out.1,HE.out.2.1,HE.out.2.2⟩
   ·obtain rfl:q=z3:=HQ.out
    go_wp2_with fail
    refine Calls.mono (idB_any ci _) ?_
    rintro e w1 ⟨rfl,rfl⟩
    rw [← HZ1.out]
    go_wp2_with fail
    refine Calls.mono (inB_any cp 0 3 _) ?_
    rintro e w1 ⟨rfl,rfl⟩
    rw [← HZ2.out]
    go_wp2_with fail
    refine Calls.mono (inB_any cn 0 1073741824 _) ?_
    rintro e w1 ⟨rfl,rfl⟩
    rw [← HZ3.out]
    go_wp2_with fail
    go_meet
    case rel=>exact ⟨rfl,HB0,HE.out.1,HE.out.2.1,HE.out.2.2⟩
 case rest =>
  obtain ⟨rfl,HB,HP,HRR,HQQ⟩:=hcut
  have hk:=HK.out
  obtain ⟨⟨⟨q0,q1,q2,q3⟩,⟨q4,q5,q6,q7⟩,q8,q9,q10,q11⟩,qz⟩:=cells12 HQQ.out
  have ql:=HQQ.out.lt
  obtain ⟨⟨⟨p0,p1,p2,p3⟩,⟨p4,p5,p6,p7⟩,p8,p9,p10,p11⟩,pz⟩:=cells12 HP.out
  have pl:=HP.out.lt
  obtain ⟨⟨⟨r0,r1,r2,r3⟩,⟨r4,r5,r6,r7⟩,r8,r9,r10,r11⟩,rz⟩:=cells12 HRR.out
  have rl:=HRR.out.lt
  obtain rfl:pc=⟨1,⟨i1,g1,t1,k1,b1⟩,0,0,[],0,0,0⟩:=by rw [HPC.out,hk];rfl
  have HOK':=LH (show ok=msgB ⟨i1,g1,t1,k1,b1⟩ by rw [HOK.out,hk];rfl)
  clear HOK HPC
  subst hk
  obtain rfl:=HGN.out
  obtain ⟨zc,hzc⟩:∃ zc:Int,zc=if msgB ⟨i1,g1,t1,k1,b1⟩=true then 0 else 120:=⟨_,rfl⟩
  have HZC:=LH hzc
  obtain rfl:ok=(zc == 0):=by
   rw [hzc,HOK'.out]
   cases msgB ⟨i1,g1,t1,k1,b1⟩ <;> rfl
  clear hzc HOK'
  go_wp2_with fail
  have HQ2:=LH (((((HQQ.out.set_ 1 (.int .i64 i1)).set_ 2 (.slice a g1.length cap)).set_ 3 (.int .i64 t1)).set_ 4 (.string k1)).set_ 5 (.string b1))
  have HR2:=LH (((((HRR.out.far (b:=w.heap.size+1+1) (o:=1) (by omega) (.int .i64 i1)).far (b:=w.heap.size+1+1) (o:=2) (by omega) (.slice a g1.length cap)).far (b:=w.heap.size+1+1) (o:=3) (by omega) (.int .i64 t1)).far (b:=w.heap.size+1+1) (o:=4) (by omega) (.string k1)).far (b:=w.heap.size+1+1) (o:=5) (by omega) (.string b1))
  have HP2:=LH (((((HP.out.far (b:=w.heap.size+1+1) (o:=1) (by omega) (.int .i64 i1)).far (b:=w.heap.size+1+1) (o:=2) (by omega) (.slice a g1.length cap)).far (b:=w.heap.size+1+1) (o:=3) (by omega) (.int .i64 t1)).far (b:=w.heap.size+1+1) (o:=4) (by omega) (.string k1)).far (b:=w.heap.size+1+1) (o:=5) (by omega) (.string b1))
  have HB2:=LH (((((HB.out.setCell (p:=⟨w.heap.size+1+1,1,none⟩) (by simp;omega) (.int .i64 i1)).setCell (p:=⟨w.heap.size+1+1,2,none⟩) (by simp;omega) (.slice a g1.length cap)).setCell (p:=⟨w.heap.size+1+1,3,none⟩) (by simp;omega) (.int .i64 t1)).setCell (p:=⟨w.heap.size+1+1,4,none⟩) (by simp;omega) (.string k1)).setCell (p:=⟨w.heap.size+1+1,5,none⟩) (by simp;omega) (.string b1))
  generalize hW:(((((wc.setCell ⟨w.heap.size+1+1,1,none⟩ (.int .i64 i1)).setCell ⟨w.heap.size+1+1,2,none⟩ (.slice a g1.length cap)).setCell ⟨w.heap.size+1+1,3,none⟩ (.int .i64 t1)).setCell ⟨w.heap.size+1+1,4,none⟩ (.string k1)).setCell ⟨w.heap.size+1+1,5,none⟩ (.string b1))=W at HQ2 HR2 HP2 HB2 ⊢
  clear q0 q1 q2 q3 q4 q5 q6 q7 q8 q9 q10 q11 qz ql p0 p1 p2 p3 p4 p5 p6 p7 p8 p9 p10 p11 pz pl r0 r1 r2 r3 r4 r5 r6 r7 r8 r9 r10 r11 rz rl hW HP HRR HQQ HB
  obtain ⟨⟨⟨q0,q1,q2,q3⟩,⟨q4,q5,q6,q7⟩,q8,q9,q10,q11⟩,qz⟩:=cells12 HQ2.out
  have ql:=HQ2.out.lt
  obtain ⟨⟨⟨p0,p1,p2,p3⟩,⟨p4,p5,p6,p7⟩,p8,p9,p10,p11⟩,pz⟩:=cells12 HP2.out
  have pl:=HP2.out.lt
  obtain ⟨⟨⟨r0,r1,r2,r3⟩,⟨r4,r5,r6,r7⟩,r8,r9,r10,r11⟩,rz⟩:=cells12 HR2.out
  have rl:=HR2.out.lt
  go_region_with (go_at_call 80;refine Calls.mono (chkMsg_any (m:=⟨i1,g1,t1,k1,b1⟩) ⟨a,cap,rfl,G.out.below HB2.out.drew⟩ HZC.out) ?_;rintro e w1 ⟨rfl,hb⟩;have HR6:=LH (Blk.step (Blk.drew HR2.out) hb);have HQ6:=LH (Blk.step (Blk.drew HQ2.out) hb);have HB6:=LH (HB2.out.drew.trans (hb.mono HB2.out.drew.size));clear hb;obtain ⟨⟨⟨q0,q1,q2,q3⟩,⟨q4,q5,q6,q7⟩,q8,q9,q10,q11⟩,qz⟩:=cells12 HQ6.out;obtain ⟨⟨⟨r0,r1,r2,r3⟩,⟨r4,r5,r6,r7⟩,r8,r9,r10,r11⟩,rz⟩:=cells12 HR6.out;have rl:=HR6.out.lt)
  all_goals
   go_wp2_with fail
   obtain ⟨⟨⟨t0,t1_,t2,t3⟩,⟨t4,t5,t6,t7⟩,t8,t9,t10,t11⟩,-⟩:=cells12 (blk_put12 HR6.out (.int .u8 1) (.int .i64 i1) (.slice a g1.length cap) (.int .i64 t1) (.string k1) (.string b1) (.int .i64 0) (.int .i64 0) (.slice none 0 0) (.int .i64 0) (.int .i64 0) (.int .i64 0))
   have HBF:=((((((((((((HB6.out.setCell (p:=⟨w.heap.size+1,0,none⟩) (by simp) (.int .u8 1)).setCell (p:=⟨w.heap.size+1,1,none⟩) (by simp) (.int .i64 i1)).setCell (p:=⟨w.heap.size+1,2,none⟩) (by simp) (.slice a g1.length cap)).setCell (p:=⟨w.heap.size+1,3,none⟩) (by simp) (.int .i64 t1)).setCell (p:=⟨w.heap.size+1,4,none⟩) (by simp) (.string k1)).setCell (p:=⟨w.heap.size+1,5,none⟩) (by simp) (.string b1)).setCell (p:=⟨w.heap.size+1,6,none⟩) (by simp) (.int .i64 0)).setCell (p:=⟨w.heap.size+1,7,none⟩) (by simp) (.int .i64 0)).setCell (p:=⟨w.heap.size+1,8,none⟩) (by simp) (.slice none 0 0)).setCell (p:=⟨w.heap.size+1,9,none⟩) (by simp) (.int .i64 0)).setCell (p:=⟨w.heap.size+1,10,none⟩) (by simp) (.int .i64 0)).setCell (p:=⟨w.heap.size+1,11,none⟩) (by simp) (.int .i64 0))
   exact bodyPost_ret (v:=.tuple #[.agg #[.int .u8 1,.int .i64 i1,.slice a g1.length cap,.int .i64 t1,.string k1,.string b1,.int .i64 0,.int .i64 0,.slice none 0 0,.int .i64 0,.int .i64 0,.int .i64 0],.bool (zc == 0)]) (by simp [results,Tryz.results70,go_sem,t0,t1_,t2,t3,t4,t5,t6,t7,t8,t9,t10,t11]) rfl ⟨_,rfl,⟨a,cap,none,0,rfl,G.out.below HBF,ints_nil _⟩,HBF⟩
set_option maxHeartbeats 8000000 in
set_option maxRecDepth 100000 in
theorem plain_k3 {v:Value} {c:PC} {w:World} (h:ComR w v c) (hk:c.kind=3):Calls Tryz.prog 70 #[v] w (PlainEnd (pC c) (okP c) w):=by
 obtain ⟨a,cap,b,bc,rfl,hg,hm⟩:=h
 obtain ⟨q,hq⟩:∃ q,q=onT c:=⟨_,rfl⟩
 have HPC:=LH (show pC c=pC c from rfl)
 have HOK:=LH (show okP c=okP c from rfl)
 obtain ⟨pc,hpc⟩:∃ pc,pc=pC c:=⟨_,rfl⟩
 obtain ⟨ok,hok⟩:∃ ok,ok=okP c:=⟨_,rfl⟩
 rw [← hpc,← hok]
 clear HPC HOK
 obtain ⟨kd,⟨i1,g1,t1,k1,b1⟩,ci,ct,ml,cp,cw,cn⟩:=c
 simp only [onT] at hq hg hm hk ⊢
 have HK:=LH hk
 clear hk
 have HQ:=LH hq
 have HPC:=LH hpc
 have HOK:=LH hok
 have G:=LH hg
 have M:=LH hm
 obtain ⟨gn,hgn⟩:∃ n,n=g1.length:=⟨_,rfl⟩
 obtain ⟨mn,hmn⟩:∃ n,n=ml.length:=⟨_,rfl⟩
 rw [← hgn] at G ⊢
 rw [← hmn] at M ⊢
 have HGN:=LH hgn
 have HMN:=LH hmn
 clear hq hg hm hpc hok hgn hmn
 obtain ⟨z1,hz1⟩:∃ z:Bool,z=idB ci:=⟨_,rfl⟩
 obtain ⟨z2,hz2⟩:∃ z:Bool,z=inB cp 0 3:=⟨_,rfl⟩
 obtain ⟨z3,hz3⟩:∃ z:Bool,z=inB cn 0 1073741824:=⟨_,rfl⟩
 have HZ1:=LH hz1
 have HZ2:=LH hz2
 have HZ3:=LH hz3
 rw [← hz1,← hz2,← hz3] at HQ
 clear hz1 hz2 hz3
 go_enter Tryz.func70,Tryz.ntmps70
 go_upto_region 2 with fail
 go_cut [5] (fun c wx=>c=.bool q∧Hid (Below w.heap.size w wx)∧Hid (Blk wx w.heap.size 58 [.int .u8 kd,.int .i64 i1,.slice a gn cap,.int .i64 t1,.string k1,.string b1,.int .i64 ci,.int .i64 ct,.slice b mn bc,.int .i64 cp,.int .i64 cw,.int .i64 cn])∧Hid (Blk wx (w.heap.size+1) 58 [.int .u8 0,.int .i64 0,.slice none 0 0,.int .i64 0,.string ⟨#[]⟩,.string ⟨#[]⟩,.int .i64 0,.int .i64 0,.slice none 0 0,.int .i64 0,.int .i64 0,.int .i64 0])∧Hid (Blk wx (w.heap.size+1+1) 58 [.int .u8 kd,.int .i64 0,.slice none 0 0,.int .i64 0,.string ⟨#[]⟩,.string ⟨#[]⟩,.int .i64 0,.int .i64 0,.slice none 0 0,.int .i64 0,.int .i64 0,.int .i64 0]))
 case first =>
  have HB0:Hid (Below w.heap.size w (((w.alloc (.cells #[.int .u8 kd,.int .i64 i1,.slice a gn cap,.int .i64 t1,.string k1,.string b1,.int .i64 ci,.int .i64 ct,.slice b mn bc,.int .i64 cp,.int .i64 cw,.int .i64 cn] 58)).alloc (.cells #[.int .u8 0,.int .i64 0,.slice none 0 0,.int .i64 0,.string ⟨#[]⟩,.string ⟨#[]⟩,.int .i64 0,.int .i64 0,.slice none 0 0,.int .i64 0,.int .i64 0,.int .i64 0] 58)).alloc (.cells #[.int .u8 kd,.int .i64 0,.slice none 0 0,.int .i64 0,.string ⟨#[]⟩,.string ⟨#[]⟩,.int .i64 0,.int .i64 0,.slice none 0 0,.int .i64 0,.int .i64 0,.int .i64 0] 58))):=LH (by repeat (first|with_reducible (first|exact Below.refl _ _|apply Below.drew|apply below_alloc)|((first|with_reducible refine Below.alloc ?_ ?_ _|with_reducible refine Below.setCell ?_ ?_ _);rotate_left;focus (first|(simp <;> omega)|omega))))
  have HE:Hid (Blk (((w.alloc (.cells #[.int .u8 kd,.int .i64 i1,.slice a gn cap,.int .i64 t1,.string k1,.string b1,.int .i64 ci,.int .i64 ct,.slice b mn bc,.int .i64 cp,.int .i64 cw,.int .i64 cn] 58)).alloc (.cells #[.int .u8 0,.int .i64 0,.slice none 0 0,.int .i64 0,.string ⟨#[]⟩,.string ⟨#[]⟩,.int .i64 0,.int .i64 0,.slice none 0 0,.int .i64 0,.int .i64 0,.int .i64 0] 58)).alloc (.cells #[.int .u8 kd,.int .i64 0,.slice none 0 0,.int .i64 0,.string ⟨#[]⟩,.string ⟨#[]⟩,.int .i64 0,.int .i64 0,.slice none 0 0,.int .i64 0,.int .i64 0,.int .i64 0] 58)) w.heap.size 58 [.int .u8 kd,.int .i64 i1,.slice a gn cap,.int .i64 t1,.string k1,.string b1,.int .i64 ci,.int .i64 ct,.slice b mn bc,.int .i64 cp,.int .i64 cw,.int .i64 cn]∧Blk (((w.alloc (.cells #[.int .u8 kd,.int .i64 i1,.slice a gn cap,.int .i64 t1,.string k1,.string b1,.int .i64 ci,.int .i64 ct,.slice b mn bc,.int .i64 cp,.int .i64 cw,.int .i64 cn] 58)).alloc (.cells #[.int .u8 0,.int .i64 0,.slice none 0 0,.int .i64 0,.string ⟨#[]⟩,.string ⟨#[]⟩,.int .i64 0,.int .i64 0,.slice none 0 0,.int .i64 0,.int .i64 0,.int .i64 0] 58)).alloc (.cells #[.int .u8 kd,.int .i64 0,.slice none 0 0,.int .i64 0,.string ⟨#[]⟩,.string ⟨#[]⟩,.int .i64 0,.int .i64 0,.slice none 0 0,.int .i64 0,.int .i64 0,.int .i64 0] 58)) (w.heap.size+1) 58 [.int .u8 0,.int .i64 0,.slice none 0 0,.int .i64 0,.string ⟨#[]⟩,.string ⟨#[]⟩,.int .i64 0,.int .i64 0,.slice none 0 0,.int .i64 0,.int .i64 0,.int .i64 0]∧Blk (((w.alloc (.cells #[.int .u8 kd,.int .i64 i1,.slice a gn cap,.int .i64 t1,.string k1,.string b1,.int .i64 ci,.int .i64 ct,.slice b mn bc,.int .i64 cp,.int .i64 cw,.int .i64 cn] 58)).alloc (.cells #[.int .u8 0,.int .i64 0,.slice none 0 0,.int .i64 0,.string ⟨#[]⟩,.string ⟨#[]⟩,.int .i64 0,.int .i64 0,.slice none 0 0,.int .i64 0,.int .i64 0,.int .i64 0] 58)).alloc (.cells #[.int .u8 kd,.int .i64 0,.slice none 0 0,.int .i64 0,.string ⟨#[]⟩,.string ⟨#[]⟩,.int .i64 0,.int .i64 0,.slice none 0 0,.int .i64 0,.int .i64 0,.int .i64 0] 58)) (w.heap.size+1+1) 58 [.int .u8 kd,.int .i64 0,.slice none 0 0,.int .i64 0,.string ⟨#[]⟩,.string ⟨#[]⟩,.int .i64 0,.int .i64 0,.slice none 0 0,.int .i64 0,.int .i64 0,.int .i64 0]) :=
   LH ⟨((Blk.new rfl).alloc _).alloc _,(Blk.new (by simp)).alloc _,Blk.new (by simp)⟩
  cases z1
  ·obtain rfl:q=false:=HQ.out
   go_wp2_with fail
   refine Calls.mono (idB_any ci _) ?_
   rintro e w1 ⟨rfl,rfl⟩
   rw [← HZ1.out]
   go_wp2_with fail
   go_meet
   case rel=>exact ⟨rfl,HB0,HE.out.1,HE.out.2.1,HE.out.2.2⟩
  ·cases z2
   ·obtain rfl:q=false:=HQ.out
    go_wp2_with fail
    refine Calls.mono (idB_any ci _) ?_
    rintro e w1 ⟨rfl,rfl⟩
    rw [← HZ1.out]
    go_wp2_with fail
    refine Calls.mono (inB_any cp 0 3 _) ?_
    rintro e w1 ⟨rfl,rfl⟩
    rw [← HZ2.out]
    go_wp2_with fail
    go_meet
    case rel=>exact ⟨rfl,HB0,HE.out.1,HE.out.2.1,HE.out.2.2⟩
   ·obtain rfl:q=z3:=HQ.out
    go_wp2_with fail
    refine Calls.mono (idB_any ci _) ?_
    rintro e w1 ⟨rfl,rfl⟩
    rw [← HZ1.out]
    go_wp2_with fail
    refine Calls.mono (inB_any cp 0 3 _) ?_
    rintro e w1 ⟨rfl,rfl⟩
    rw [← HZ2.out]
    go_wp2_with fail
    refine Calls.mono (inB_any cn 0 1073741824 _) ?_
    rintro e w1 ⟨rfl,rfl⟩
    rw [← HZ3.out]
    go_wp2_with fail
    go_meet
    case rel=>exact ⟨rfl,HB0,HE.out.1,HE.out.2.1,HE.out.2.2⟩
 case rest =>
  obtain ⟨rfl,HB,HP,HRR,HQQ⟩:=hcut
  have hk:=HK.out
  obtain ⟨⟨⟨q0,q1,q2,q3⟩,⟨q4,q5,q6,q7⟩,q8,q9,q10,q11⟩,qz⟩:=cells12 HQQ.out
  have ql:=HQQ.out.lt
  obtain ⟨⟨⟨p0,p1,p2,p3⟩,⟨p4,p5,p6,p7⟩,p8,p9,p10,p11⟩,pz⟩:=cells12 HP.out
  have pl:=HP.out.lt
  obtain ⟨⟨⟨r0,r1,r2,r3⟩,⟨r4,r5,r6,r7⟩,r8,r9,r10,r11⟩,rz⟩:=cells12 HRR.out
  have rl:=HRR.out.lt
  obtain rfl:pc=⟨3,default,0,0,ml,0,0,0⟩:=by rw [HPC.out,hk];rfl
  have HOK':=LH (show ok=decide (quoC ml=0) by rw [HOK.out,hk];rfl)
  clear HOK HPC
  subst hk
  obtain rfl:=HMN.out
  obtain ⟨zc,hzc⟩:∃ zc:Int,zc=quoC ml:=⟨_,rfl⟩
  have HZC:=LH hzc
  obtain rfl:ok=(zc == 0):=by
   rw [hzc,HOK'.out]
   by_cases h:quoC ml=0 <;> simp [h]
  clear hzc
  go_wp2_with fail
  have HQ2:=LH (HQQ.out.set_ 8 (.slice b ml.length bc))
  have HR2:=LH (HRR.out.far (b:=w.heap.size+1+1) (o:=8) (by omega) (.slice b ml.length bc))
  have HP2:=LH (HP.out.far (b:=w.heap.size+1+1) (o:=8) (by omega) (.slice b ml.length bc))
  have HB2:=LH (HB.out.setCell (p:=⟨w.heap.size+1+1,8,none⟩) (by simp;omega) (.slice b ml.length bc))
  generalize hW:(wc.setCell ⟨w.heap.size+1+1,8,none⟩ (.slice b ml.length bc))=W at HQ2 HR2 HP2 HB2 ⊢
  clear q0 q1 q2 q3 q4 q5 q6 q7 q8 q9 q10 q11 qz ql p0 p1 p2 p3 p4 p5 p6 p7 p8 p9 p10 p11 pz pl r0 r1 r2 r3 r4 r5 r6 r7 r8 r9 r10 r11 rz rl hW HP HRR HQQ HB
  obtain ⟨⟨⟨q0,q1,q2,q3⟩,⟨q4,q5,q6,q7⟩,q8,q9,q10,q11⟩,qz⟩:=cells12 HQ2.out
  have ql:=HQ2.out.lt
  obtain ⟨⟨⟨p0,p1,p2,p3⟩,⟨p4,p5,p6,p7⟩,p8,p9,p10,p11⟩,pz⟩:=cells12 HP2.out
  have pl:=HP2.out.lt
  obtain ⟨⟨⟨r0,r1,r2,r3⟩,⟨r4,r5,r6,r7⟩,r8,r9,r10,r11⟩,rz⟩:=cells12 HR2.out
  have rl:=HR2.out.lt
  go_region_with (go_at_call 103;refine Calls.mono (quo_any (l:=ml) (M.out.below HB2.out.drew) HZC.out) ?_;rintro e w1 ⟨rfl,rfl⟩)
  all_goals
   go_wp2_with fail
   obtain ⟨⟨⟨t0,t1_,t2,t3⟩,⟨t4,t5,t6,t7⟩,t8,t9,t10,t11⟩,-⟩:=cells12 (Blk.drew (blk_put12 HR2.out (.int .u8 3) (.int .i64 0) (.slice none 0 0) (.int .i64 0) (.string ⟨#[]⟩) (.string ⟨#[]⟩) (.int .i64 0) (.int .i64 0) (.slice b ml.length bc) (.int .i64 0) (.int .i64 0) (.int .i64 0)))
   have HBF:=(((((((((((((HB2.out.setCell (p:=⟨w.heap.size+1,0,none⟩) (by simp) (.int .u8 3)).setCell (p:=⟨w.heap.size+1,1,none⟩) (by simp) (.int .i64 0)).setCell (p:=⟨w.heap.size+1,2,none⟩) (by simp) (.slice none 0 0)).setCell (p:=⟨w.heap.size+1,3,none⟩) (by simp) (.int .i64 0)).setCell (p:=⟨w.heap.size+1,4,none⟩) (by simp) (.string ⟨#[]⟩)).setCell (p:=⟨w.heap.size+1,5,none⟩) (by simp) (.string ⟨#[]⟩)).setCell (p:=⟨w.heap.size+1,6,none⟩) (by simp) (.int .i64 0)).setCell (p:=⟨w.heap.size+1,7,none⟩) (by simp) (.int .i64 0)).setCell (p:=⟨w.heap.size+1,8,none⟩) (by simp) (.slice b ml.length bc)).setCell (p:=⟨w.heap.size+1,9,none⟩) (by simp) (.int .i64 0)).setCell (p:=⟨w.heap.size+1,10,none⟩) (by simp) (.int .i64 0)).setCell (p:=⟨w.heap.size+1,11,none⟩) (by simp) (.int .i64 0))).drew
   exact bodyPost_ret (v:=.tuple #[.agg #[.int .u8 3,.int .i64 0,.slice none 0 0,.int .i64 0,.string ⟨#[]⟩,.string ⟨#[]⟩,.int .i64 0,.int .i64 0,.slice b ml.length bc,.int .i64 0,.int .i64 0,.int .i64 0],.bool (zc == 0)]) (by simp [results,Tryz.results70,go_sem,t0,t1_,t2,t3,t4,t5,t6,t7,t8,t9,t10,t11]) rfl ⟨_,rfl,⟨none,0,b,bc,rfl,ints_nil _,M.out.below HBF⟩,HBF⟩
theorem eqI_q {v v':Value} {l l':List Int} {w:World} {q:Bool} (h:IntsR w v l) (h':IntsR w v' l') (hq:q=true↔l=l') :
  Calls Tryz.prog 51 #[v,v'] w fun e w'=>e=.returned (.bool q)∧Below w.heap.size w w':=by
 refine (eqInt_any h h').mono fun e w' hh=>?_
 have hd:q=decide (l=l'):=by
  by_cases h:l=l'
  ·rw [hq.2 h];simp [h]
  ·cases q
   ·simp [h]
   ·exact absurd (hq.1 rfl) h
 rw [hd]
 exact hh
theorem strB_eq {x y:ByteArray} (h:x=y):(x.toList == y.toList)=true:=by simp [h]
theorem strB_ne {x y:ByteArray} (h:¬ x=y):(x.toList == y.toList)=false:=by
 rw [← Bool.not_eq_true,beq_iff_eq]
 exact fun e=>h (toList_eq e)
set_option maxHeartbeats 4000000 in
set_option maxRecDepth 100000 in
theorem sameMsg_any {v v':Value} {m m':PM} {w:World} {z:Bool} (h:MsgR w v m) (h':MsgR w v' m') (hz:z=true↔m=m') :
  Calls Tryz.prog 28 #[v,v'] w fun e w'=>e=.returned (.bool z)∧Below w.heap.size w w':=by
 obtain ⟨a,cap,rfl,hg⟩:=h
 obtain ⟨a',cap',rfl,hg'⟩:=h'
 obtain ⟨i1,g1,t1,k1,b1⟩:=m
 obtain ⟨i2,g2,t2,k2,b2⟩:=m'
 simp only [PM.mk.injEq] at hz
 simp only at hg hg' ⊢
 have G:=LH hg
 have G':=LH hg'
 obtain ⟨n,hn⟩:∃ n,n=g1.length:=⟨_,rfl⟩
 obtain ⟨n',hn'⟩:∃ n,n=g2.length:=⟨_,rfl⟩
 rw [← hn] at G ⊢
 rw [← hn'] at G' ⊢
 have HZ:=LH hz
 clear hg hg' hn hn' hz
 by_cases hid:i1=i2
 ·have hid':(i1 == i2)=true:=by simp [hid]
  by_cases hgg:g1=g2
  ·by_cases ht:t1=t2
   ·have ht':(t1 == t2)=true:=by simp [ht]
    by_cases hk:k1=k2
    ·have hk':=strB_eq hk
     by_cases hb:b1=b2
     ·have hb':=strB_eq hb
      obtain rfl:z=true:=HZ.out.2 ⟨by assumption,by assumption,by assumption,by assumption,by assumption⟩
      clear HZ
      go_enter Tryz.func28,Tryz.ntmps28
      go_wp2_with fail
      refine Calls.mono (eqI_q (q:=true) (l:=g1) (l':=g2) ?_ ?_ ?_) ?_
      ·exact G.out.below (by repeat (first|with_reducible (first|exact Below.refl _ _|apply Below.drew|apply below_alloc)|((first|with_reducible refine Below.alloc ?_ ?_ _|with_reducible refine Below.setCell ?_ ?_ _);rotate_left;focus (first|(simp <;> omega)|omega))))
      ·exact G'.out.below (by repeat (first|with_reducible (first|exact Below.refl _ _|apply Below.drew|apply below_alloc)|((first|with_reducible refine Below.alloc ?_ ?_ _|with_reducible refine Below.setCell ?_ ?_ _);rotate_left;focus (first|(simp <;> omega)|omega))))
      ·simp [hgg]
      rintro e w1 ⟨rfl,hb⟩
      have HB:Hid (Below w.heap.size w _):=below_step (by repeat (first|with_reducible (first|exact Below.refl _ _|apply Below.drew|apply below_alloc)|((first|with_reducible refine Below.alloc ?_ ?_ _|with_reducible refine Below.setCell ?_ ?_ _);rotate_left;focus (first|(simp <;> omega)|omega)))) hb
      have P:Blk _ (w.heap.size) _ _:=Blk.step (by repeat (first|((with_reducible apply Blk.new);focus (first|rfl|(simp <;> omega)))|with_reducible (first|apply Blk.drew|apply Blk.alloc|apply Blk.set_)|((with_reducible apply Blk.far);rotate_left;focus (first|(simp <;> omega)|omega)))) hb
      obtain ⟨p0,p1,p2,p3,p4,pz⟩:=cells5 P
      have pl:=Blk.lt P
      have HP:=LH P
      clear P
      have Q:Blk _ (w.heap.size+1) _ _:=Blk.step (by repeat (first|((with_reducible apply Blk.new);focus (first|rfl|(simp <;> omega)))|with_reducible (first|apply Blk.drew|apply Blk.alloc|apply Blk.set_)|((with_reducible apply Blk.far);rotate_left;focus (first|(simp <;> omega)|omega)))) hb
      obtain ⟨q0,q1,q2,q3,q4,qz⟩:=cells5 Q
      have ql:=Blk.lt Q
      have HQ:=LH Q
      clear Q
      clear hb
      go_wp2_with fail
      go_ret
      refine ⟨rfl,?_⟩
      exact HB.out
     ·have hb':=strB_ne hb
      obtain rfl:z=false:=by
       cases z
       ·rfl
       ·have:=HZ.out.1 rfl;simp_all
      clear HZ
      go_enter Tryz.func28,Tryz.ntmps28
      go_wp2_with fail
      refine Calls.mono (eqI_q (q:=true) (l:=g1) (l':=g2) ?_ ?_ ?_) ?_
      ·exact G.out.below (by repeat (first|with_reducible (first|exact Below.refl _ _|apply Below.drew|apply below_alloc)|((first|with_reducible refine Below.alloc ?_ ?_ _|with_reducible refine Below.setCell ?_ ?_ _);rotate_left;focus (first|(simp <;> omega)|omega))))
      ·exact G'.out.below (by repeat (first|with_reducible (first|exact Below.refl _ _|apply Below.drew|apply below_alloc)|((first|with_reducible refine Below.alloc ?_ ?_ _|with_reducible refine Below.setCell ?_ ?_ _);rotate_left;focus (first|(simp <;> omega)|omega))))
      ·simp [hgg]
      rintro e w1 ⟨rfl,hb⟩
      have HB:Hid (Below w.heap.size w _):=below_step (by repeat (first|with_reducible (first|exact Below.refl _ _|apply Below.drew|apply below_alloc)|((first|with_reducible refine Below.alloc ?_ ?_ _|with_reducible refine Below.setCell ?_ ?_ _);rotate_left;focus (first|(simp <;> omega)|omega)))) hb
      have P:Blk _ (w.heap.size) _ _:=Blk.step (by repeat (first|((with_reducible apply Blk.new);focus (first|rfl|(simp <;> omega)))|with_reducible (first|apply Blk.drew|apply Blk.alloc|apply Blk.set_)|((with_reducible apply Blk.far);rotate_left;focus (first|(simp <;> omega)|omega)))) hb
      obtain ⟨p0,p1,p2,p3,p4,pz⟩:=cells5 P
      have pl:=Blk.lt P
      have HP:=LH P
      clear P
      have Q:Blk _ (w.heap.size+1) _ _:=Blk.step (by repeat (first|((with_reducible apply Blk.new);focus (first|rfl|(simp <;> omega)))|with_reducible (first|apply Blk.drew|apply Blk.alloc|apply Blk.set_)|((with_reducible apply Blk.far);rotate_left;focus (first|(simp <;> omega)|omega)))) hb
      obtain ⟨q0,q1,q2,q3,q4,qz⟩:=cells5 Q
      have ql:=Blk.lt Q
      have HQ:=LH Q
      clear Q
      clear hb
      go_wp2_with fail
      go_ret
      refine ⟨rfl,?_⟩
      exact HB.out
    ·have hk':=strB_ne hk
     obtain rfl:z=false:=by
      cases z
      ·rfl
      ·have:=HZ.out.1 rfl;simp_all
     clear HZ
     go_enter Tryz.func28,Tryz.ntmps28
     go_wp2_with fail
     refine Calls.mono (eqI_q (q:=true) (l:=g1) (l':=g2) ?_ ?_ ?_) ?_
     ·exact G.out.below (by repeat (first|with_reducible (first|exact Below.refl _ _|apply Below.drew|apply below_alloc)|((first|with_reducible refine Below.alloc ?_ ?_ _|with_reducible refine Below.setCell ?_ ?_ _);rotate_left;focus (first|(simp <;> omega)|omega))))
     ·exact G'.out.below (by repeat (first|with_reducible (first|exact Below.refl _ _|apply Below.drew|apply below_alloc)|((first|with_reducible refine Below.alloc ?_ ?_ _|with_reducible refine Below.setCell ?_ ?_ _);rotate_left;focus (first|(simp <;> omega)|omega))))
     ·simp [hgg]
     rintro e w1 ⟨rfl,hb⟩
     have HB:Hid (Below w.heap.size w _):=below_step (by repeat (first|with_reducible (first|exact Below.refl _ _|apply Below.drew|apply below_alloc)|((first|with_reducible refine Below.alloc ?_ ?_ _|with_reducible refine Below.setCell ?_ ?_ _);rotate_left;focus (first|(simp <;> omega)|omega)))) hb
     have P:Blk _ (w.heap.size) _ _:=Blk.step (by repeat (first|((with_reducible apply Blk.new);focus (first|rfl|(simp <;> omega)))|with_reducible (first|apply Blk.drew|apply Blk.alloc|apply Blk.set_)|((with_reducible apply Blk.far);rotate_left;focus (first|(simp <;> omega)|omega)))) hb
     obtain ⟨p0,p1,p2,p3,p4,pz⟩:=cells5 P
     have pl:=Blk.lt P
     have HP:=LH P
     clear P
     have Q:Blk _ (w.heap.size+1) _ _:=Blk.step (by repeat (first|((with_reducible apply Blk.new);focus (first|rfl|(simp <;> omega)))|with_reducible (first|apply Blk.drew|apply Blk.alloc|apply Blk.set_)|((with_reducible apply Blk.far);rotate_left;focus (first|(simp <;> omega)|omega)))) hb
     obtain ⟨q0,q1,q2,q3,q4,qz⟩:=cells5 Q
     have ql:=Blk.lt Q
     have HQ:=LH Q
     clear Q
     clear hb
     go_wp2_with fail
     go_ret
     refine ⟨rfl,?_⟩
     exact HB.out
   ·have ht':(t1 == t2)=false:=by simp [ht]
    obtain rfl:z=false:=by
     cases z
     ·rfl
     ·have:=HZ.out.1 rfl;simp_all
    clear HZ
    go_enter Tryz.func28,Tryz.ntmps28
    go_wp2_with fail
    refine Calls.mono (eqI_q (q:=true) (l:=g1) (l':=g2) ?_ ?_ ?_) ?_
    ·exact G.out.below (by repeat (first|with_reducible (first|exact Below.refl _ _|apply Below.drew|apply below_alloc)|((first|with_reducible refine Below.alloc ?_ ?_ _|with_reducible refine Below.setCell ?_ ?_ _);rotate_left;focus (first|(simp <;> omega)|omega))))
    ·exact G'.out.below (by repeat (first|with_reducible (first|exact Below.refl _ _|apply Below.drew|apply below_alloc)|((first|with_reducible refine Below.alloc ?_ ?_ _|with_reducible refine Below.setCell ?_ ?_ _);rotate_left;focus (first|(simp <;> omega)|omega))))
    ·simp [hgg]
    rintro e w1 ⟨rfl,hb⟩
    have HB:Hid (Below w.heap.size w _):=below_step (by repeat (first|with_reducible (first|exact Below.refl _ _|apply Below.drew|apply below_alloc)|((first|with_reducible refine Below.alloc ?_ ?_ _|with_reducible refine Below.setCell ?_ ?_ _);rotate_left;focus (first|(simp <;> omega)|omega)))) hb
    have P:Blk _ (w.heap.size) _ _:=Blk.step (by repeat (first|((with_reducible apply Blk.new);focus (first|rfl|(simp <;> omega)))|with_reducible (first|apply Blk.drew|apply Blk.alloc|apply Blk.set_)|((with_reducible apply Blk.far);rotate_left;focus (first|(simp <;> omega)|omega)))) hb
    obtain ⟨p0,p1,p2,p3,p4,pz⟩:=cells5 P
    have pl:=Blk.lt P
    have HP:=LH P
    clear P
    have Q:Blk _ (w.heap.size+1) _ _:=Blk.step (by repeat (first|((with_reducible apply Blk.new);focus (first|rfl|(simp <;> omega)))|with_reducible (first|apply Blk.drew|apply Blk.alloc|apply Blk.set_)|((with_reducible apply Blk.far);rotate_left;focus (first|(simp <;> omega)|omega)))) hb
    obtain ⟨q0,q1,q2,q3,q4,qz⟩:=cells5 Q
    have ql:=Blk.lt Q
    have HQ:=LH Q
    clear Q
    clear hb
    go_wp2_with fail
    go_ret
    refine ⟨rfl,?_⟩
    exact HB.out
  ·obtain rfl:z=false:=by
    cases z
    ·rfl
    ·have:=HZ.out.1 rfl;simp_all
   clear HZ
   go_enter Tryz.func28,Tryz.ntmps28
   go_wp2_with fail
   refine Calls.mono (eqI_q (q:=false) (l:=g1) (l':=g2) ?_ ?_ ?_) ?_
   ·exact G.out.below (by repeat (first|with_reducible (first|exact Below.refl _ _|apply Below.drew|apply below_alloc)|((first|with_reducible refine Below.alloc ?_ ?_ _|with_reducible refine Below.setCell ?_ ?_ _);rotate_left;focus (first|(simp <;> omega)|omega))))
   ·exact G'.out.below (by repeat (first|with_reducible (first|exact Below.refl _ _|apply Below.drew|apply below_alloc)|((first|with_reducible refine Below.alloc ?_ ?_ _|with_reducible refine Below.setCell ?_ ?_ _);rotate_left;focus (first|(simp <;> omega)|omega))))
   ·simp [hgg]
   rintro e w1 ⟨rfl,hb⟩
   have HB:Hid (Below w.heap.size w _):=below_step (by repeat (first|with_reducible (first|exact Below.refl _ _|apply Below.drew|apply below_alloc)|((first|with_reducible refine Below.alloc ?_ ?_ _|with_reducible refine Below.setCell ?_ ?_ _);rotate_left;focus (first|(simp <;> omega)|omega)))) hb
   have P:Blk _ (w.heap.size) _ _:=Blk.step (by repeat (first|((with_reducible apply Blk.new);focus (first|rfl|(simp <;> omega)))|with_reducible (first|apply Blk.drew|apply Blk.alloc|apply Blk.set_)|((with_reducible apply Blk.far);rotate_left;focus (first|(simp <;> omega)|omega)))) hb
   obtain ⟨p0,p1,p2,p3,p4,pz⟩:=cells5 P
   have pl:=Blk.lt P
   have HP:=LH P
   clear P
   have Q:Blk _ (w.heap.size+1) _ _:=Blk.step (by repeat (first|((with_reducible apply Blk.new);focus (first|rfl|(simp <;> omega)))|with_reducible (first|apply Blk.drew|apply Blk.alloc|apply Blk.set_)|((with_reducible apply Blk.far);rotate_left;focus (first|(simp <;> omega)|omega)))) hb
   obtain ⟨q0,q1,q2,q3,q4,qz⟩:=cells5 Q
   have ql:=Blk.lt Q
   have HQ:=LH Q
   clear Q
   clear hb
   go_wp2_with fail
   go_ret
   refine ⟨rfl,?_⟩
   exact HB.out
 ·have hid':(i1 == i2)=false:=by simp [hid]
  obtain rfl:z=false:=by
   cases z
   ·rfl
   ·have:=HZ.out.1 rfl;simp_all
  clear HZ
  go_enter Tryz.func28,Tryz.ntmps28
  go_wp2_with fail
  go_ret
  refine ⟨rfl,?_⟩
  repeat (first|with_reducible (first|exact Below.refl _ _|apply Below.drew|apply below_alloc)|((first|with_reducible refine Below.alloc ?_ ?_ _|with_reducible refine Below.setCell ?_ ?_ _);rotate_left;focus (first|(simp <;> omega)|omega)))
end Go.Proofs.YtkkohllhebdlcaaGreatDoor
