/-
  Proved here: command.plain at one kind of commands. No condition but the kind. command.plain at one kind of commands. No condition but the kind.
-/
import Derived.Test.YtkkohllhebdlcaaGreatDoorY16
set_option maxRecDepth 100000
namespace Go.Proofs.YtkkohllhebdlcaaGreatDoor
open Go.RowKit
set_option maxHeartbeats 8000000 in
set_option maxRecDepth 100000 in
theorem plain_k2 {v:Value} {c:PC} {w:World} (h:ComR w v c) (hk:c.kind=2):Calls Tryz.prog 70 #[v] w (PlainEnd (pC c) (okP c) w):=by
 obtain ⟨a,cap,b,bc,rfl,hg,hm⟩:=h
 obtain ⟨q,hq⟩:∃ q,q=onT c:=⟨_,rfl⟩
 have HPC:=LH (show pC c=pC c from rfl)
 have HOK:=LH (show okP c=okP c from rfl)
 obtain ⟨pc,hpc⟩:∃ pc,pc=pC c:=⟨_,rfl⟩
 obtain ⟨ok,hok⟩:∃ ok,ok=okP c:=⟨_,rfl⟩
 rw [← hpc,← hok]
 clear HPC HOK
 obtain ⟨kd,⟨i1,g1,t1,k1,b1⟩,ci,ct,ml,cp,cw,cn⟩:=c
 simp only [onT] at hq hg hm hk ⊢
 have HK:=LH hk
 clear hk
 have HQ:=LH hq
 have HPC:=LH hpc
 have HOK:=LH hok
 have G:=LH hg
 have M:=LH hm
 obtain ⟨gn,hgn⟩:∃ n,n=g1.length:=⟨_,rfl⟩
 obtain ⟨mn,hmn⟩:∃ n,n=ml.length:=⟨_,rfl⟩
 rw [← hgn] at G ⊢
 rw [← hmn] at M ⊢
 have HGN:=LH hgn
 have HMN:=LH hmn
 clear hq hg hm hpc hok hgn hmn
 obtain ⟨z1,hz1⟩:∃ z:Bool,z=idB ci:=⟨_,rfl⟩
 obtain ⟨z2,hz2⟩:∃ z:Bool,z=inB cp 0 3:=⟨_,rfl⟩
 obtain ⟨z3,hz3⟩:∃ z:Bool,z=inB cn 0 1073741824:=⟨_,rfl⟩
 have HZ1:=LH hz1
 have HZ2:=LH hz2
 have HZ3:=LH hz3
 rw [← hz1,← hz2,← hz3] at HQ
 clear hz1 hz2 hz3
 go_enter Tryz.func70,Tryz.ntmps70
 go_upto_region 2 with fail
 go_cut [5] (fun c wx=>c=.bool q∧Hid (Below w.heap.size w wx)∧Hid (Blk wx w.heap.size 58 [.int .u8 kd,.int .i64 i1,.slice a gn cap,.int .i64 t1,.string k1,.string b1,.int .i64 ci,.int .i64 ct,.slice b mn bc,.int .i64 cp,.int .i64 cw,.int .i64 cn])∧Hid (Blk wx (w.heap.size+1) 58 [.int .u8 0,.int .i64 0,.slice none 0 0,.int .i64 0,.string ⟨#[]⟩,.string ⟨#[]⟩,.int .i64 0,.int .i64 0,.slice none 0 0,.int .i64 0,.int .i64 0,.int .i64 0])∧Hid (Blk wx (w.heap.size+1+1) 58 [.int .u8 kd,.int .i64 0,.slice none 0 0,.int .i64 0,.string ⟨#[]⟩,.string ⟨#[]⟩,.int .i64 0,.int .i64 0,.slice none 0 0,.int .i64 0,.int .i64 0,.int .i64 0]))
 case first =>
  have HB0:Hid (Below w.heap.size w (((w.alloc (.cells #[.int .u8 kd,.int .i64 i1,.slice a gn cap,.int .i64 t1,.string k1,.string b1,.int .i64 ci,.int .i64 ct,.slice b mn bc,.int .i64 cp,.int .i64 cw,.int .i64 cn] 58)).alloc (.cells #[.int .u8 0,.int .i64 0,.slice none 0 0,.int .i64 0,.string ⟨#[]⟩,.string ⟨#[]⟩,.int .i64 0,.int .i64 0,.slice none 0 0,.int .i64 0,.int .i64 0,.int .i64 0] 58)).alloc (.cells #[.int .u8 kd,.int .i64 0,.slice none 0 0,.int .i64 0,.string ⟨#[]⟩,.string ⟨#[]⟩,.int .i64 0,.int .i64 0,.slice none 0 0,.int .i64 0,.int .i64 0,.int .i64 0] 58))):=LH (by repeat (first|with_reducible (first|exact Below.refl _ _|apply Below.drew|apply below_alloc)|((first|with_reducible refine Below.alloc ?_ ?_ _|with_reducible refine Below.setCell ?_ ?_ _);rotate_left;focus (first|(simp <;> omega)|omega))))
  have HE:Hid (Blk (((w.alloc (.cells #[.int .u8 kd,.int .i64 i1,.slice a gn cap,.int .i64 t1,.string k1,.string b1,.int .i64 ci,.int .i64 ct,.slice b mn bc,.int .i64 cp,.int .i64 cw,.int .i64 cn] 58)).alloc (.cells #[.int .u8 0,.int .i64 0,.slice none 0 0,.int .i64 0,.string ⟨#[]⟩,.string ⟨#[]⟩,.int .i64 0,.int .i64 0,.slice none 0 0,.int .i64 0,.int .i64 0,.int .i64 0] 58)).alloc (.cells #[.int .u8 kd,.int .i64 0,.slice none 0 0,.int .i64 0,.string ⟨#[]⟩,.string ⟨#[]⟩,.int .i64 0,.int .i64 0,.slice none 0 0,.int .i64 0,.int .i64 0,.int .i64 0] 58)) w.heap.size 58 [.int .u8 kd,.int .i64 i1,.slice a gn cap,.int .i64 t1,.string k1,.string b1,.int .i64 ci,.int .i64 ct,.slice b mn bc,.int .i64 cp,.int .i64 cw,.int .i64 cn]∧Blk (((w.alloc (.cells #[.int .u8 kd,.int .i64 i1,.slice a gn cap,.int .i64 t1,.string k1,.string b1,.int .i64 ci,.int .i64 ct,.slice b mn bc,.int .i64 cp,.int .i64 cw,.int .i64 cn] 58)).alloc (.cells #[.int .u8 0,.int .i64 0,.slice none 0 0,.int .i64 0,.string ⟨#[]⟩,.string ⟨#[]⟩,.int .i64 0,.int .i64 0,.slice none 0 0,.int .i64 0,.int .i64 0,.int .i64 0] 58)).alloc (.cells #[.int .u8 kd,.int .i64 0,.slice none 0 0,.int .i64 0,.string ⟨#[]⟩,.string ⟨#[]⟩,.int .i64 0,.int .i64 0,.slice none 0 0,.int .i64 0,.int .i64 0,.int .i64 0] 58)) (w.heap.size+1) 58 [.int .u8 0,.int .i64 0,.slice none 0 0,.int .i64 0,.string ⟨#[]⟩,.string ⟨#[]⟩,.int .i64 0,.int .i64 0,.slice none 0 0,.int .i64 0,.int .i64 0,.int .i64 0]∧Blk (((w.alloc (.cells #[.int .u8 kd,.int .i64 i1,.slice a gn cap,.int .i64 t1,.string k1,.string b1,.int .i64 ci,.int .i64 ct,.slice b mn bc,.int .i64 cp,.int .i64 cw,.int .i64 cn] 58)).alloc (.cells #[.int .u8 0,.int .i64 0,.slice none 0 0,.int .i64 0,.string ⟨#[]⟩,.string ⟨#[]⟩,.int .i64 0,.int .i64 0,.slice none 0 0,.int .i64 0,.int .i64 0,.int .i64 0] 58)).alloc (.cells #[.int .u8 kd,.int .i64 0,.slice none 0 0,.int .i64 0,.string ⟨#[]⟩,.string ⟨#[]⟩,.int .i64 0,.int .i64 0,.slice none 0 0,.int .i64 0,.int .i64 0,.int .i64 0] 58)) (w.heap.size+1+1) 58 [.int .u8 kd,.int .i64 0,.slice none 0 0,.int .i64 0,.string ⟨#[]⟩,.string ⟨#[]⟩,.int .i64 0,.int .i64 0,.slice none 0 0,.int .i64 0,.int .i64 0,.int .i64 0]) :=
   LH ⟨((Blk.new rfl).alloc _).alloc _,(Blk.new (by simp)).alloc _,Blk.new (by simp)⟩
  cases z1
  ·obtain rfl:q=false:=HQ.out
   go_wp2_with fail
   refine Calls.mono (idB_any ci _) ?_
   rintro e w1 ⟨rfl,rfl⟩
   rw [← HZ1.out]
   go_wp2_with fail
   go_meet
   case rel=>exact ⟨rfl,HB0,HE.out.1,HE.out.2.1,HE.out.2.2⟩
  ·cases z2
   ·obtain rfl:q=false:=HQ.out
    go_wp2_with fail
    refine Calls.mono (idB_any ci _) ?_
    rintro e w1 ⟨rfl,rfl⟩
    rw [← HZ1.out]
    go_wp2_with fail
    refine Calls.mono (inB_any cp 0 3 _) ?_
    rintro e w1 ⟨rfl,rfl⟩
    rw [← HZ2.out]
    go_wp2_with fail
    go_meet
    case rel=>exact ⟨rfl,HB0,HE.out.1,HE.out.2.1,HE.out.2.2⟩
   ·obtain rfl:q=z3:=HQ.out
    go_wp2_with fail
    refine Calls.mono (idB_any ci _) ?_
    rintro e w1 ⟨rfl,rfl⟩
    rw [← HZ1.out]
    go_wp2_with fail
    refine Calls.mono (inB_any cp 0 3 _) ?_
    rintro e w1 ⟨rfl,rfl⟩
    rw [← HZ2.out]
    go_wp2_with fail
    refine Calls.mono (inB_any cn 0 1073741824 _) ?_
    rintro e w1 ⟨rfl,rfl⟩
    rw [← HZ3.out]
    go_wp2_with fail
    go_meet
    case rel=>exact ⟨rfl,HB0,HE.out.1,HE.out.2.1,HE.out.2.2⟩
 case rest =>
  obtain ⟨rfl,HB,HP,HRR,HQQ⟩:=hcut
  have hk:=HK.out
  obtain ⟨⟨⟨q0,q1,q2,q3⟩,⟨q4,q5,q6,q7⟩,q8,q9,q10,q11⟩,qz⟩:=cells12 HQQ.out
  have ql:=HQQ.out.lt
  obtain ⟨⟨⟨p0,p1,p2,p3⟩,⟨p4,p5,p6,p7⟩,p8,p9,p10,p11⟩,pz⟩:=cells12 HP.out
  have pl:=HP.out.lt
  obtain ⟨⟨⟨r0,r1,r2,r3⟩,⟨r4,r5,r6,r7⟩,r8,r9,r10,r11⟩,rz⟩:=cells12 HRR.out
  have rl:=HRR.out.lt
  obtain rfl:pc=⟨2,default,ci,ct,[],0,0,0⟩:=by rw [HPC.out,hk];rfl
  have HOK':=LH (show ok=(idB ci && inB ct 1 1073741824) by rw [HOK.out,hk];rfl)
  clear HOK HPC
  subst hk
  go_wp2_with fail
  go_region
  have HQ2:=LH (Blk.drew ((HQQ.out.set_ 6 (.int .i64 ci)).set_ 7 (.int .i64 ct)))
  have HR2:=LH (Blk.drew ((HRR.out.far (b:=w.heap.size+1+1) (o:=6) (by omega) (.int .i64 ci)).far (b:=w.heap.size+1+1) (o:=7) (by omega) (.int .i64 ct)))
  have HP2:=LH (Blk.drew ((HP.out.far (b:=w.heap.size+1+1) (o:=6) (by omega) (.int .i64 ci)).far (b:=w.heap.size+1+1) (o:=7) (by omega) (.int .i64 ct)))
  have HB2:=LH (((HB.out.setCell (p:=⟨w.heap.size+1+1,6,none⟩) (by simp;omega) (.int .i64 ci)).setCell (p:=⟨w.heap.size+1+1,7,none⟩) (by simp;omega) (.int .i64 ct))).drew
  generalize hW:((wc.setCell ⟨w.heap.size+1+1,6,none⟩ (.int .i64 ci)).setCell ⟨w.heap.size+1+1,7,none⟩ (.int .i64 ct)).drew=W at HQ2 HR2 HP2 HB2 ⊢
  clear q0 q1 q2 q3 q4 q5 q6 q7 q8 q9 q10 q11 qz ql p0 p1 p2 p3 p4 p5 p6 p7 p8 p9 p10 p11 pz pl r0 r1 r2 r3 r4 r5 r6 r7 r8 r9 r10 r11 rz rl hW HP HRR HQQ HB
  obtain ⟨⟨⟨q0,q1,q2,q3⟩,⟨q4,q5,q6,q7⟩,q8,q9,q10,q11⟩,qz⟩:=cells12 HQ2.out
  have ql:=HQ2.out.lt
  obtain ⟨⟨⟨p0,p1,p2,p3⟩,⟨p4,p5,p6,p7⟩,p8,p9,p10,p11⟩,pz⟩:=cells12 HP2.out
  have pl:=HP2.out.lt
  obtain ⟨⟨⟨r0,r1,r2,r3⟩,⟨r4,r5,r6,r7⟩,r8,r9,r10,r11⟩,rz⟩:=cells12 HR2.out
  have rl:=HR2.out.lt
  cases z1
  ·obtain rfl:ok=false:=by rw [HOK'.out,← HZ1.out];rfl
   go_wp2_with fail
   have KS:Hid (∀ W':World,Blk W' (w.heap.size+1+1) 58 [.int .u8 2,.int .i64 0,.slice none 0 0,.int .i64 0,.string ⟨#[]⟩,.string ⟨#[]⟩,.int .i64 ci,.int .i64 ct,.slice none 0 0,.int .i64 0,.int .i64 0,.int .i64 0]→Blk W' w.heap.size 58 [.int .u8 2,.int .i64 i1,.slice a gn cap,.int .i64 t1,.string k1,.string b1,.int .i64 ci,.int .i64 ct,.slice b mn bc,.int .i64 cp,.int .i64 cw,.int .i64 cn]→(((W'.cell? ⟨w.heap.size+1+1,0,none⟩=some (.int .u8 2)∧W'.cell? ⟨w.heap.size+1+1,1,none⟩=some (.int .i64 0)∧W'.cell? ⟨w.heap.size+1+1,2,none⟩=some (.slice none 0 0)∧W'.cell? ⟨w.heap.size+1+1,3,none⟩=some (.int .i64 0))∧(W'.cell? ⟨w.heap.size+1+1,4,none⟩=some (.string ⟨#[]⟩)∧W'.cell? ⟨w.heap.size+1+1,5,none⟩=some (.string ⟨#[]⟩)∧W'.cell? ⟨w.heap.size+1+1,6,none⟩=some (.int .i64 ci)∧W'.cell? ⟨w.heap.size+1+1,7,none⟩=some (.int .i64 ct))∧(W'.cell? ⟨w.heap.size+1+1,8,none⟩=some (.slice none 0 0)∧W'.cell? ⟨w.heap.size+1+1,9,none⟩=some (.int .i64 0)∧W'.cell? ⟨w.heap.size+1+1,10,none⟩=some (.int .i64 0)∧W'.cell? ⟨w.heap.size+1+1,11,none⟩=some (.int .i64 0)))∧W'.cell? ⟨w.heap.size,6,none⟩=some (.int .i64 ci)∧W'.cell? ⟨w.heap.size,7,none⟩=some (.int .i64 ct))):=LH (fun W' hq hp=>by
    obtain ⟨⟨a0,a1,a2⟩,-⟩:=cells12 hq
    obtain ⟨⟨-,⟨-,-,b6,b7⟩,-⟩,-⟩:=cells12 hp
    exact ⟨⟨a0,a1,a2⟩,b6,b7⟩)
   have KT2:=KS.out W.drew (Blk.drew HQ2.out) (Blk.drew HP2.out)
   have HQ12:=LH (Blk.drew ((((((((((((HQ2.out.far (b:=w.heap.size+1) (o:=0) (by omega) (.int .u8 2)).far (b:=w.heap.size+1) (o:=1) (by omega) (.int .i64 0)).far (b:=w.heap.size+1) (o:=2) (by omega) (.slice none 0 0)).far (b:=w.heap.size+1) (o:=3) (by omega) (.int .i64 0)).far (b:=w.heap.size+1) (o:=4) (by omega) (.string ⟨#[]⟩)).far (b:=w.heap.size+1) (o:=5) (by omega) (.string ⟨#[]⟩)).far (b:=w.heap.size+1) (o:=6) (by omega) (.int .i64 ci)).far (b:=w.heap.size+1) (o:=7) (by omega) (.int .i64 ct)).far (b:=w.heap.size+1) (o:=8) (by omega) (.slice none 0 0)).far (b:=w.heap.size+1) (o:=9) (by omega) (.int .i64 0)).far (b:=w.heap.size+1) (o:=10) (by omega) (.int .i64 0)).far (b:=w.heap.size+1) (o:=11) (by omega) (.int .i64 0)))
   have HP12:=LH (Blk.drew ((((((((((((HP2.out.far (b:=w.heap.size+1) (o:=0) (by omega) (.int .u8 2)).far (b:=w.heap.size+1) (o:=1) (by omega) (.int .i64 0)).far (b:=w.heap.size+1) (o:=2) (by omega) (.slice none 0 0)).far (b:=w.heap.size+1) (o:=3) (by omega) (.int .i64 0)).far (b:=w.heap.size+1) (o:=4) (by omega) (.string ⟨#[]⟩)).far (b:=w.heap.size+1) (o:=5) (by omega) (.string ⟨#[]⟩)).far (b:=w.heap.size+1) (o:=6) (by omega) (.int .i64 ci)).far (b:=w.heap.size+1) (o:=7) (by omega) (.int .i64 ct)).far (b:=w.heap.size+1) (o:=8) (by omega) (.slice none 0 0)).far (b:=w.heap.size+1) (o:=9) (by omega) (.int .i64 0)).far (b:=w.heap.size+1) (o:=10) (by omega) (.int .i64 0)).far (b:=w.heap.size+1) (o:=11) (by omega) (.int .i64 0)))
   refine wp_region_held_drew (S:=(fun W'=>(((W'.cell? ⟨w.heap.size+1+1,0,none⟩=some (.int .u8 2)∧W'.cell? ⟨w.heap.size+1+1,1,none⟩=some (.int .i64 0)∧W'.cell? ⟨w.heap.size+1+1,2,none⟩=some (.slice none 0 0)∧W'.cell? ⟨w.heap.size+1+1,3,none⟩=some (.int .i64 0))∧(W'.cell? ⟨w.heap.size+1+1,4,none⟩=some (.string ⟨#[]⟩)∧W'.cell? ⟨w.heap.size+1+1,5,none⟩=some (.string ⟨#[]⟩)∧W'.cell? ⟨w.heap.size+1+1,6,none⟩=some (.int .i64 ci)∧W'.cell? ⟨w.heap.size+1+1,7,none⟩=some (.int .i64 ct))∧(W'.cell? ⟨w.heap.size+1+1,8,none⟩=some (.slice none 0 0)∧W'.cell? ⟨w.heap.size+1+1,9,none⟩=some (.int .i64 0)∧W'.cell? ⟨w.heap.size+1+1,10,none⟩=some (.int .i64 0)∧W'.cell? ⟨w.heap.size+1+1,11,none⟩=some (.int .i64 0)))∧W'.cell? ⟨w.heap.size,6,none⟩=some (.int .i64 ci)∧W'.cell? ⟨w.heap.size,7,none⟩=some (.int .i64 ct)))) (by kernel_rfl) KT2 (fun hHeld=>?_)
   refine' wpAnyH_take (i:=0) (oi:=_) (v:=_) ?hi1 (by kernel_rfl) (by kernel_rfl) (by kernel_rfl) ?hq1 (Or.inl ⟨?hw1,?hy1⟩) (by assumption) ?rest1
   case hi1=>simp only [List.getElem?_toArray,List.getElem?_cons_zero];rfl
   case hq1=>exact fun _ _ _ h=>h
   case hw1=>rfl
   case hy1=>intro wh hSw;(try dsimp only at hSw);go_simp;(try with_reducible rfl)
   (try simp only [Act.put,List.setIfInBounds_toArray,List.set_cons_zero,List.set_cons_succ])
   refine' wpAnyH_take (i:=1) (oi:=_) (v:=_) ?hi2 (by kernel_rfl) (by kernel_rfl) (by kernel_rfl) ?hq2 (Or.inl ⟨?hw2,?hy2⟩) (by assumption) ?rest2
   case hi2=>simp only [List.getElem?_toArray,List.getElem?_cons_succ,List.getElem?_cons_zero];rfl
   case hq2=>exact fun _ _ _ h=>h
   case hw2=>rfl
   case hy2=>intro wh hSw;(try dsimp only at hSw);go_simp;(try with_reducible rfl)
   (try simp only [Act.put,List.setIfInBounds_toArray,List.set_cons_zero,List.set_cons_succ])
   refine' wpAnyH_take (i:=2) (oi:=_) (v:=_) ?hi3 (by kernel_rfl) (by kernel_rfl) (by kernel_rfl) ?hq3 (Or.inl ⟨?hw3,?hy3⟩) (by assumption) ?rest3
   case hi3=>simp only [List.getElem?_toArray,List.getElem?_cons_succ,List.getElem?_cons_zero];rfl
   case hq3=>exact fun _ _ _ h=>h
   case hw3=>rfl
   case hy3=>intro wh hSw;(try dsimp only at hSw);go_simp;(try with_reducible rfl)
   (try simp only [Act.put,List.setIfInBounds_toArray,List.set_cons_zero,List.set_cons_succ])
   refine wpAnyH_ready (rs:=[3]) (by kernel_rfl) (by simp) ?_
   refine' AllReadyH.cons (o:=_) ?hi4 (fun K hK=>?st4) ?more4
   case hi4=>simp only [List.getElem?_toArray,List.getElem?_cons_succ,List.getElem?_cons_zero];rfl
   case more4=>exact AllReadyH.nil
   (go_simp;go_at_call 101;refine Calls.mono (idB_q HZ1.out _) ?_;rintro e w1 ⟨rfl,rfl⟩;(try dsimp only))
   refine hK.out _ _ ?keep4 (fun hHeld=>?go4)
   case keep4=>first|with_reducible exact KT2|(exact KS.out _ HQ12.out HP12.out)
   clear hK K
   (try simp only [Act.put,List.setIfInBounds_toArray,List.set_cons_zero,List.set_cons_succ])
   refine' wpAnyH_take (i:=4) (oi:=_) (v:=_) ?hi5 (by kernel_rfl) (by kernel_rfl) (by kernel_rfl) ?hq5 (Or.inl ⟨?hw5,?hy5⟩) (by assumption) ?rest5
   case hi5=>simp only [List.getElem?_toArray,List.getElem?_cons_succ,List.getElem?_cons_zero];rfl
   case hq5=>exact fun _ _ _ h=>h
   case hw5=>rfl
   case hy5=>intro wh hSw;(try dsimp only at hSw);go_simp;(try with_reducible rfl)
   (try simp only [Act.put,List.setIfInBounds_toArray,List.set_cons_zero,List.set_cons_succ])
   refine' wpAnyH_take (i:=5) (oi:=_) (v:=undef) ?hi6 (by kernel_rfl) (by kernel_rfl) (by kernel_rfl) ?hq6 (Or.inr ⟨?hw6,rfl⟩) (by assumption) ?rest6
   case hi6=>simp only [List.getElem?_toArray,List.getElem?_cons_succ,List.getElem?_cons_zero];rfl
   case hq6=>exact fun _ _ _ h=>h
   case hw6=>rfl
   (try simp only [Act.put,List.setIfInBounds_toArray,List.set_cons_zero,List.set_cons_succ])
   refine' wpAnyH_take (i:=6) (oi:=_) (v:=undef) ?hi7 (by kernel_rfl) (by kernel_rfl) (by kernel_rfl) ?hq7 (Or.inr ⟨?hw7,rfl⟩) (by assumption) ?rest7
   case hi7=>simp only [List.getElem?_toArray,List.getElem?_cons_succ,List.getElem?_cons_zero];rfl
   case hq7=>exact fun _ _ _ h=>h
   case hw7=>rfl
   (try simp only [Act.put,List.setIfInBounds_toArray,List.set_cons_zero,List.set_cons_succ])
   refine' wpAnyH_take (i:=7) (oi:=_) (v:=undef) ?hi8 (by kernel_rfl) (by kernel_rfl) (by kernel_rfl) ?hq8 (Or.inr ⟨?hw8,rfl⟩) (by assumption) ?rest8
   case hi8=>simp only [List.getElem?_toArray,List.getElem?_cons_succ,List.getElem?_cons_zero];rfl
   case hq8=>exact fun _ _ _ h=>h
   case hw8=>rfl
   (try simp only [Act.put,List.setIfInBounds_toArray,List.set_cons_zero,List.set_cons_succ])
   refine' wpAnyH_take (i:=8) (oi:=_) (v:=_) ?hi9 (by kernel_rfl) (by kernel_rfl) (by kernel_rfl) ?hq9 (Or.inl ⟨?hw9,?hy9⟩) (by assumption) ?rest9
   case hi9=>simp only [List.getElem?_toArray,List.getElem?_cons_succ,List.getElem?_cons_zero];rfl
   case hq9=>exact fun _ _ _ h=>h
   case hw9=>rfl
   case hy9=>intro wh hSw;(try dsimp only at hSw);go_simp;(try with_reducible rfl)
   (try simp only [Act.put,List.setIfInBounds_toArray,List.set_cons_zero,List.set_cons_succ])
   refine wpAnyH_ready (rs:=[9]) (by kernel_rfl) (by simp) ?_
   refine' AllReadyH.cons (o:=_) ?hi10 (fun K hK=>?st10) ?more10
   case hi10=>simp only [List.getElem?_toArray,List.getElem?_cons_succ,List.getElem?_cons_zero];rfl
   case more10=>exact AllReadyH.nil
   go_simp
   refine hK.out _ _ ?keep10 (fun hHeld=>?go10)
   case keep10=>first|with_reducible exact KT2|(exact KS.out _ HQ12.out HP12.out)
   clear hK K
   (try simp only [Act.put,List.setIfInBounds_toArray,List.set_cons_zero,List.set_cons_succ])
   refine wpAnyH_ready (rs:=[10]) (by kernel_rfl) (by simp) ?_
   refine' AllReadyH.cons (o:=_) ?hi11 (fun K hK=>?st11) ?more11
   case hi11=>simp only [List.getElem?_toArray,List.getElem?_cons_succ,List.getElem?_cons_zero];rfl
   case more11=>exact AllReadyH.nil
   go_simp
   refine hK.out _ _ ?keep11 (fun hHeld=>?go11)
   case keep11=>first|with_reducible exact KT2|(exact KS.out _ HQ12.out HP12.out)
   clear hK K
   (try simp only [Act.put,List.setIfInBounds_toArray,List.set_cons_zero,List.set_cons_succ])
   refine wpAnyH_done (by kernel_rfl) ?_ _
   all_goals
    go_wp2_with fail
    obtain ⟨⟨⟨t0,t1_,t2,t3⟩,⟨t4,t5,t6,t7⟩,t8,t9,t10,t11⟩,-⟩:=cells12 (Blk.drew (blk_put12 HR2.out (.int .u8 2) (.int .i64 0) (.slice none 0 0) (.int .i64 0) (.string ⟨#[]⟩) (.string ⟨#[]⟩) (.int .i64 ci) (.int .i64 ct) (.slice none 0 0) (.int .i64 0) (.int .i64 0) (.int .i64 0)))
    have HBF:=(((((((((((((HB2.out.setCell (p:=⟨w.heap.size+1,0,none⟩) (by simp) (.int .u8 2)).setCell (p:=⟨w.heap.size+1,1,none⟩) (by simp) (.int .i64 0)).setCell (p:=⟨w.heap.size+1,2,none⟩) (by simp) (.slice none 0 0)).setCell (p:=⟨w.heap.size+1,3,none⟩) (by simp) (.int .i64 0)).setCell (p:=⟨w.heap.size+1,4,none⟩) (by simp) (.string ⟨#[]⟩)).setCell (p:=⟨w.heap.size+1,5,none⟩) (by simp) (.string ⟨#[]⟩)).setCell (p:=⟨w.heap.size+1,6,none⟩) (by simp) (.int .i64 ci)).setCell (p:=⟨w.heap.size+1,7,none⟩) (by simp) (.int .i64 ct)).setCell (p:=⟨w.heap.size+1,8,none⟩) (by simp) (.slice none 0 0)).setCell (p:=⟨w.heap.size+1,9,none⟩) (by simp) (.int .i64 0)).setCell (p:=⟨w.heap.size+1,10,none⟩) (by simp) (.int .i64 0)).setCell (p:=⟨w.heap.size+1,11,none⟩) (by simp) (.int .i64 0))).drew
    obtain rfl:=HGN.out
    obtain rfl:=HMN.out
    exact bodyPost_ret (v:=.tuple #[.agg #[.int .u8 2,.int .i64 0,.slice none 0 0,.int .i64 0,.string ⟨#[]⟩,.string ⟨#[]⟩,.int .i64 ci,.int .i64 ct,.slice none 0 0,.int .i64 0,.int .i64 0,.int .i64 0],.bool false]) (by simp [results,Tryz.results70,go_sem,t0,t1_,t2,t3,t4,t5,t6,t7,t8,t9,t10,t11]) rfl ⟨_,rfl,⟨none,0,none,0,rfl,ints_nil _,ints_nil _⟩,HBF⟩
  ·obtain ⟨zt,hzt⟩:∃ zt,zt=inB ct 1 1073741824:=⟨_,rfl⟩
   obtain rfl:ok=zt:=by rw [HOK'.out,← HZ1.out,hzt];rfl
   have HZT:=LH hzt
   clear hzt
   go_wp2_with fail
   have KS:Hid (∀ W':World,Blk W' (w.heap.size+1+1) 58 [.int .u8 2,.int .i64 0,.slice none 0 0,.int .i64 0,.string ⟨#[]⟩,.string ⟨#[]⟩,.int .i64 ci,.int .i64 ct,.slice none 0 0,.int .i64 0,.int .i64 0,.int .i64 0]→Blk W' w.heap.size 58 [.int .u8 2,.int .i64 i1,.slice a gn cap,.int .i64 t1,.string k1,.string b1,.int .i64 ci,.int .i64 ct,.slice b mn bc,.int .i64 cp,.int .i64 cw,.int .i64 cn]→(((W'.cell? ⟨w.heap.size+1+1,0,none⟩=some (.int .u8 2)∧W'.cell? ⟨w.heap.size+1+1,1,none⟩=some (.int .i64 0)∧W'.cell? ⟨w.heap.size+1+1,2,none⟩=some (.slice none 0 0)∧W'.cell? ⟨w.heap.size+1+1,3,none⟩=some (.int .i64 0))∧(W'.cell? ⟨w.heap.size+1+1,4,none⟩=some (.string ⟨#[]⟩)∧W'.cell? ⟨w.heap.size+1+1,5,none⟩=some (.string ⟨#[]⟩)∧W'.cell? ⟨w.heap.size+1+1,6,none⟩=some (.int .i64 ci)∧W'.cell? ⟨w.heap.size+1+1,7,none⟩=some (.int .i64 ct))∧(W'.cell? ⟨w.heap.size+1+1,8,none⟩=some (.slice none 0 0)∧W'.cell? ⟨w.heap.size+1+1,9,none⟩=some (.int .i64 0)∧W'.cell? ⟨w.heap.size+1+1,10,none⟩=some (.int .i64 0)∧W'.cell? ⟨w.heap.size+1+1,11,none⟩=some (.int .i64 0)))∧W'.cell? ⟨w.heap.size,6,none⟩=some (.int .i64 ci)∧W'.cell? ⟨w.heap.size,7,none⟩=some (.int .i64 ct))):=LH (fun W' hq hp=>by
    obtain ⟨⟨a0,a1,a2⟩,-⟩:=cells12 hq
    obtain ⟨⟨-,⟨-,-,b6,b7⟩,-⟩,-⟩:=cells12 hp
    exact ⟨⟨a0,a1,a2⟩,b6,b7⟩)
   have KT2:=KS.out W.drew (Blk.drew HQ2.out) (Blk.drew HP2.out)
   have HQ12:=LH (Blk.drew ((((((((((((HQ2.out.far (b:=w.heap.size+1) (o:=0) (by omega) (.int .u8 2)).far (b:=w.heap.size+1) (o:=1) (by omega) (.int .i64 0)).far (b:=w.heap.size+1) (o:=2) (by omega) (.slice none 0 0)).far (b:=w.heap.size+1) (o:=3) (by omega) (.int .i64 0)).far (b:=w.heap.size+1) (o:=4) (by omega) (.string ⟨#[]⟩)).far (b:=w.heap.size+1) (o:=5) (by omega) (.string ⟨#[]⟩)).far (b:=w.heap.size+1) (o:=6) (by omega) (.int .i64 ci)).far (b:=w.heap.size+1) (o:=7) (by omega) (.int .i64 ct)).far (b:=w.heap.size+1) (o:=8) (by omega) (.slice none 0 0)).far (b:=w.heap.size+1) (o:=9) (by omega) (.int .i64 0)).far (b:=w.heap.size+1) (o:=10) (by omega) (.int .i64 0)).far (b:=w.heap.size+1) (o:=11) (by omega) (.int .i64 0)))
   have HP12:=LH (Blk.drew ((((((((((((HP2.out.far (b:=w.heap.size+1) (o:=0) (by omega) (.int .u8 2)).far (b:=w.heap.size+1) (o:=1) (by omega) (.int .i64 0)).far (b:=w.heap.size+1) (o:=2) (by omega) (.slice none 0 0)).far (b:=w.heap.size+1) (o:=3) (by omega) (.int .i64 0)).far (b:=w.heap.size+1) (o:=4) (by omega) (.string ⟨#[]⟩)).far (b:=w.heap.size+1) (o:=5) (by omega) (.string ⟨#[]⟩)).far (b:=w.heap.size+1) (o:=6) (by omega) (.int .i64 ci)).far (b:=w.heap.size+1) (o:=7) (by omega) (.int .i64 ct)).far (b:=w.heap.size+1) (o:=8) (by omega) (.slice none 0 0)).far (b:=w.heap.size+1) (o:=9) (by omega) (.int .i64 0)).far (b:=w.heap.size+1) (o:=10) (by omega) (.int .i64 0)).far (b:=w.heap.size+1) (o:=11) (by omega) (.int .i64 0)))
   refine wp_region_held_drew (S:=(fun W'=>(((W'.cell? ⟨w.heap.size+1+1,0,none⟩=some (.int .u8 2)∧W'.cell? ⟨w.heap.size+1+1,1,none⟩=some (.int .i64 0)∧W'.cell? ⟨w.heap.size+1+1,2,none⟩=some (.slice none 0 0)∧W'.cell? ⟨w.heap.size+1+1,3,none⟩=some (.int .i64 0))∧(W'.cell? ⟨w.heap.size+1+1,4,none⟩=some (.string ⟨#[]⟩)∧W'.cell? ⟨w.heap.size+1+1,5,none⟩=some (.string ⟨#[]⟩)∧W'.cell? ⟨w.heap.size+1+1,6,none⟩=some (.int .i64 ci)∧W'.cell? ⟨w.heap.size+1+1,7,none⟩=some (.int .i64 ct))∧(W'.cell? ⟨w.heap.size+1+1,8,none⟩=some (.slice none 0 0)∧W'.cell? ⟨w.heap.size+1+1,9,none⟩=some (.int .i64 0)∧W'.cell? ⟨w.heap.size+1+1,10,none⟩=some (.int .i64 0)∧W'.cell? ⟨w.heap.size+1+1,11,none⟩=some (.int .i64 0)))∧W'.cell? ⟨w.heap.size,6,none⟩=some (.int .i64 ci)∧W'.cell? ⟨w.heap.size,7,none⟩=some (.int .i64 ct)))) (by kernel_rfl) KT2 (fun hHeld=>?_)
   refine' wpAnyH_take (i:=0) (oi:=_) (v:=_) ?hi12 (by kernel_rfl) (by kernel_rfl) (by kernel_rfl) ?hq12 (Or.inl ⟨?hw12,?hy12⟩) (by assumption) ?rest12
   case hi12=>simp only [List.getElem?_toArray,List.getElem?_cons_zero];rfl
   case hq12=>exact fun _ _ _ h=>h
   case hw12=>rfl
   case hy12=>intro wh hSw;(try dsimp only at hSw);go_simp;(try with_reducible rfl)
   (try simp only [Act.put,List.setIfInBounds_toArray,List.set_cons_zero,List.set_cons_succ])
   refine' wpAnyH_take (i:=1) (oi:=_) (v:=_) ?hi13 (by kernel_rfl) (by kernel_rfl) (by kernel_rfl) ?hq13 (Or.inl ⟨?hw13,?hy13⟩) (by assumption) ?rest13
   case hi13=>simp only [List.getElem?_toArray,List.getElem?_cons_succ,List.getElem?_cons_zero];rfl
   case hq13=>exact fun _ _ _ h=>h
   case hw13=>rfl
   case hy13=>intro wh hSw;(try dsimp only at hSw);go_simp;(try with_reducible rfl)
   (try simp only [Act.put,List.setIfInBounds_toArray,List.set_cons_zero,List.set_cons_succ])
   refine' wpAnyH_take (i:=2) (oi:=_) (v:=_) ?hi14 (by kernel_rfl) (by kernel_rfl) (by kernel_rfl) ?hq14 (Or.inl ⟨?hw14,?hy14⟩) (by assumption) ?rest14
   case hi14=>simp only [List.getElem?_toArray,List.getElem?_cons_succ,List.getElem?_cons_zero];rfl
   case hq14=>exact fun _ _ _ h=>h
   case hw14=>rfl
   case hy14=>intro wh hSw;(try dsimp only at hSw);go_simp;(try with_reducible rfl)
   (try simp only [Act.put,List.setIfInBounds_toArray,List.set_cons_zero,List.set_cons_succ])
   refine wpAnyH_ready (rs:=[3]) (by kernel_rfl) (by simp) ?_
   refine' AllReadyH.cons (o:=_) ?hi15 (fun K hK=>?st15) ?more15
   case hi15=>simp only [List.getElem?_toArray,List.getElem?_cons_succ,List.getElem?_cons_zero];rfl
   case more15=>exact AllReadyH.nil
   first|(go_simp;go_at_call 101;refine Calls.mono (idB_q HZ1.out _) ?_;rintro e w1 ⟨rfl,rfl⟩;(try dsimp only))|(go_simp;go_at_call 102;refine Calls.mono (inB_q HZT.out _) ?_;rintro e w1 ⟨rfl,rfl⟩;(try dsimp only))
   refine hK.out _ _ ?keep15 (fun hHeld=>?go15)
   case keep15=>first|with_reducible exact KT2|(exact KS.out _ HQ12.out HP12.out)
   clear hK K
   (try simp only [Act.put,List.setIfInBounds_toArray,List.set_cons_zero,List.set_cons_succ])
   refine' wpAnyH_take (i:=4) (oi:=_) (v:=_) ?hi16 (by kernel_rfl) (by kernel_rfl) (by kernel_rfl) ?hq16 (Or.inl ⟨?hw16,?hy16⟩) (by assumption) ?rest16
   case hi16=>simp only [List.getElem?_toArray,List.getElem?_cons_succ,List.getElem?_cons_zero];rfl
   case hq16=>exact fun _ _ _ h=>h
   case hw16=>rfl
   case hy16=>intro wh hSw;(try dsimp only at hSw);go_simp;(try with_reducible rfl)
   (try simp only [Act.put,List.setIfInBounds_toArray,List.set_cons_zero,List.set_cons_succ])
   refine' wpAnyH_take (i:=5) (oi:=_) (v:=_) ?hi17 (by kernel_rfl) (by kernel_rfl) (by kernel_rfl) ?hq17 (Or.inl ⟨?hw17,?hy17⟩) (by assumption) ?rest17
   case hi17=>simp only [List.getElem?_toArray,List.getElem?_cons_succ,List.getElem?_cons_zero];rfl
   case hq17=>exact fun _ _ _ h=>h
   case hw17=>rfl
   case hy17=>intro wh hSw;(try dsimp only at hSw);go_simp;(try with_reducible rfl)
   (try simp only [Act.put,List.setIfInBounds_toArray,List.set_cons_zero,List.set_cons_succ])
   refine' wpAnyH_take (i:=6) (oi:=_) (v:=_) ?hi18 (by kernel_rfl) (by kernel_rfl) (by kernel_rfl) ?hq18 (Or.inl ⟨?hw18,?hy18⟩) (by assumption) ?rest18
   case hi18=>simp only [List.getElem?_toArray,List.getElem?_cons_succ,List.getElem?_cons_zero];rfl
   case hq18=>exact fun _ _ _ h=>h
   case hw18=>rfl
   case hy18=>intro wh hSw;(try dsimp only at hSw);go_simp;(try with_reducible rfl)
   (try simp only [Act.put,List.setIfInBounds_toArray,List.set_cons_zero,List.set_cons_succ])
   refine wpAnyH_ready (rs:=[7]) (by kernel_rfl) (by simp) ?_
   refine' AllReadyH.cons (o:=_) ?hi19 (fun K hK=>?st19) ?more19
   case hi19=>simp only [List.getElem?_toArray,List.getElem?_cons_succ,List.getElem?_cons_zero];rfl
   case more19=>exact AllReadyH.nil
   first|(go_simp;go_at_call 101;refine Calls.mono (idB_q HZ1.out _) ?_;rintro e w1 ⟨rfl,rfl⟩;(try dsimp only))|(go_simp;go_at_call 102;refine Calls.mono (inB_q HZT.out _) ?_;rintro e w1 ⟨rfl,rfl⟩;(try dsimp only))
   refine hK.out _ _ ?keep19 (fun hHeld=>?go19)
   case keep19=>first|with_reducible exact KT2|(exact KS.out _ HQ12.out HP12.out)
   clear hK K
   (try simp only [Act.put,List.setIfInBounds_toArray,List.set_cons_zero,List.set_cons_succ])
   refine' wpAnyH_take (i:=8) (oi:=_) (v:=_) ?hi20 (by kernel_rfl) (by kernel_rfl) (by kernel_rfl) ?hq20 (Or.inl ⟨?hw20,?hy20⟩) (by assumption) ?rest20
   case hi20=>simp only [List.getElem?_toArray,List.getElem?_cons_succ,List.getElem?_cons_zero];rfl
   case hq20=>exact fun _ _ _ h=>h
   case hw20=>rfl
   case hy20=>intro wh hSw;(try dsimp only at hSw);go_simp;(try with_reducible rfl)
   (try simp only [Act.put,List.setIfInBounds_toArray,List.set_cons_zero,List.set_cons_succ])
   refine wpAnyH_ready (rs:=[9]) (by kernel_rfl) (by simp) ?_
   refine' AllReadyH.cons (o:=_) ?hi21 (fun K hK=>?st21) ?more21
   case hi21=>simp only [List.getElem?_toArray,List.getElem?_cons_succ,List.getElem?_cons_zero];rfl
   case more21=>exact AllReadyH.nil
   go_simp
   refine hK.out _ _ ?keep21 (fun hHeld=>?go21)
   case keep21=>first|with_reducible exact KT2|(exact KS.out _ HQ12.out HP12.out)
   clear hK K
   (try simp only [Act.put,List.setIfInBounds_toArray,List.set_cons_zero,List.set_cons_succ])
   refine wpAnyH_ready (rs:=[10]) (by kernel_rfl) (by simp) ?_
   refine' AllReadyH.cons (o:=_) ?hi22 (fun K hK=>?st22) ?more22
   case hi22=>simp only [List.getElem?_toArray,List.getElem?_cons_succ,List.getElem?_cons_zero];rfl
   case more22=>exact AllReadyH.nil
   go_simp
   refine hK.out _ _ ?keep22 (fun hHeld=>?go22)
   case keep22=>first|with_reducible exact KT2|(exact KS.out _ HQ12.out HP12.out)
   clear hK K
   (try simp only [Act.put,List.setIfInBounds_toArray,List.set_cons_zero,List.set_cons_succ])
   refine wpAnyH_done (by kernel_rfl) ?_ _
   all_goals
    go_wp2_with fail
    obtain ⟨⟨⟨t0,t1_,t2,t3⟩,⟨t4,t5,t6,t7⟩,t8,t9,t10,t11⟩,-⟩:=cells12 (Blk.drew (blk_put12 HR2.out (.int .u8 2) (.int .i64 0) (.slice none 0 0) (.int .i64 0) (.string ⟨#[]⟩) (.string ⟨#[]⟩) (.int .i64 ci) (.int .i64 ct) (.slice none 0 0) (.int .i64 0) (.int .i64 0) (.int .i64 0)))
    have HBF:=(((((((((((((HB2.out.setCell (p:=⟨w.heap.size+1,0,none⟩) (by simp) (.int .u8 2)).setCell (p:=⟨w.heap.size+1,1,none⟩) (by simp) (.int .i64 0)).setCell (p:=⟨w.heap.size+1,2,none⟩) (by simp) (.slice none 0 0)).setCell (p:=⟨w.heap.size+1,3,none⟩) (by simp) (.int .i64 0)).setCell (p:=⟨w.heap.size+1,4,none⟩) (by simp) (.string ⟨#[]⟩)).setCell (p:=⟨w.heap.size+1,5,none⟩) (by simp) (.string ⟨#[]⟩)).setCell (p:=⟨w.heap.size+1,6,none⟩) (by simp) (.int .i64 ci)).setCell (p:=⟨w.heap.size+1,7,none⟩) (by simp) (.int .i64 ct)).setCell (p:=⟨w.heap.size+1,8,none⟩) (by simp) (.slice none 0 0)).setCell (p:=⟨w.heap.size+1,9,none⟩) (by simp) (.int .i64 0)).setCell (p:=⟨w.heap.size+1,10,none⟩) (by simp) (.int .i64 0)).setCell (p:=⟨w.heap.size+1,11,none⟩) (by simp) (.int .i64 0))).drew
    obtain rfl:=HGN.out
    obtain rfl:=HMN.out
    exact bodyPost_ret (v:=.tuple #[.agg #[.int .u8 2,.int .i64 0,.slice none 0 0,.int .i64 0,.string ⟨#[]⟩,.string ⟨#[]⟩,.int .i64 ci,.int .i64 ct,.slice none 0 0,.int .i64 0,.int .i64 0,.int .i64 0],.bool ok]) (by simp [results,Tryz.results70,go_sem,t0,t1_,t2,t3,t4,t5,t6,t7,t8,t9,t10,t11]) rfl ⟨_,rfl,⟨none,0,none,0,rfl,ints_nil _,ints_nil _⟩,HBF⟩
set_option maxHeartbeats 8000000 in
set_option maxRecDepth 100000 in
theorem plain_k9 {v:Value} {c:PC} {w:World} (h:ComR w v c) (hk:c.kind≠0∧c.kind≠1∧c.kind≠2∧c.kind≠3∧c.kind≠4∧c.kind≠5∧c.kind≠6):Calls Tryz.prog 70 #[v] w (PlainEnd (pC c) (okP c) w):=by
 obtain ⟨a,cap,b,bc,rfl,hg,hm⟩:=h
 obtain ⟨q,hq⟩:∃ q,q=onT c:=⟨_,rfl⟩
 have HPC:=LH (show pC c=pC c from rfl)
 have HOK:=LH (show okP c=okP c from rfl)
 obtain ⟨pc,hpc⟩:∃ pc,pc=pC c:=⟨_,rfl⟩
 obtain ⟨ok,hok⟩:∃ ok,ok=okP c:=⟨_,rfl⟩
 rw [← hpc,← hok]
 clear HPC HOK
 obtain ⟨kd,⟨i1,g1,t1,k1,b1⟩,ci,ct,ml,cp,cw,cn⟩:=c
 simp only [onT] at hq hg hm hk ⊢
 have HK:=LH hk
 clear hk
 have HQ:=LH hq
 have HPC:=LH hpc
 have HOK:=LH hok
 have G:=LH hg
 have M:=LH hm
 obtain ⟨gn,hgn⟩:∃ n,n=g1.length:=⟨_,rfl⟩
 obtain ⟨mn,hmn⟩:∃ n,n=ml.length:=⟨_,rfl⟩
 rw [← hgn] at G ⊢
 rw [← hmn] at M ⊢
 have HGN:=LH hgn
 have HMN:=LH hmn
 clear hq hg hm hpc hok hgn hmn
 obtain ⟨z1,hz1⟩:∃ z:Bool,z=idB ci:=⟨_,rfl⟩
 obtain ⟨z2,hz2⟩:∃ z:Bool,z=inB cp 0 3:=⟨_,rfl⟩
 obtain ⟨z3,hz3⟩:∃ z:Bool,z=inB cn 0 1073741824:=⟨_,rfl⟩
 have HZ1:=LH hz1
 have HZ2:=LH hz2
 have HZ3:=LH hz3
 rw [← hz1,← hz2,← hz3] at HQ
 clear hz1 hz2 hz3
 go_enter Tryz.func70,Tryz.ntmps70
 go_upto_region 2 with fail
 go_cut [5] (fun c wx=>c=.bool q∧Hid (Below w.heap.size w wx)∧Hid (Blk wx w.heap.size 58 [.int .u8 kd,.int .i64 i1,.slice a gn cap,.int .i64 t1,.string k1,.string b1,.int .i64 ci,.int .i64 ct,.slice b mn bc,.int .i64 cp,.int .i64 cw,.int .i64 cn])∧Hid (Blk wx (w.heap.size+1) 58 [.int .u8 0,.int .i64 0,.slice none 0 0,.int .i64 0,.string ⟨#[]⟩,.string ⟨#[]⟩,.int .i64 0,.int .i64 0,.slice none 0 0,.int .i64 0,.int .i64 0,.int .i64 0])∧Hid (Blk wx (w.heap.size+1+1) 58 [.int .u8 kd,.int .i64 0,.slice none 0 0,.int .i64 0,.string ⟨#[]⟩,.string ⟨#[]⟩,.int .i64 0,.int .i64 0,.slice none 0 0,.int .i64 0,.int .i64 0,.int .i64 0]))
 case first =>
  have HB0:Hid (Below w.heap.size w (((w.alloc (.cells #[.int .u8 kd,.int .i64 i1,.slice a gn cap,.int .i64 t1,.string k1,.string b1,.int .i64 ci,.int .i64 ct,.slice b mn bc,.int .i64 cp,.int .i64 cw,.int .i64 cn] 58)).alloc (.cells #[.int .u8 0,.int .i64 0,.slice none 0 0,.int .i64 0,.string ⟨#[]⟩,.string ⟨#[]⟩,.int .i64 0,.int .i64 0,.slice none 0 0,.int .i64 0,.int .i64 0,.int .i64 0] 58)).alloc (.cells #[.int .u8 kd,.int .i64 0,.slice none 0 0,.int .i64 0,.string ⟨#[]⟩,.string ⟨#[]⟩,.int .i64 0,.int .i64 0,.slice none 0 0,.int .i64 0,.int .i64 0,.int .i64 0] 58))):=LH (by repeat (first|with_reducible (first|exact Below.refl _ _|apply Below.drew|apply below_alloc)|((first|with_reducible refine Below.alloc ?_ ?_ _|with_reducible refine Below.setCell ?_ ?_ _);rotate_left;focus (first|(simp <;> omega)|omega))))
  have HE:Hid (Blk (((w.alloc (.cells #[.int .u8 kd,.int .i64 i1,.slice a gn cap,.int .i64 t1,.string k1,.string b1,.int .i64 ci,.int .i64 ct,.slice b mn bc,.int .i64 cp,.int .i64 cw,.int .i64 cn] 58)).alloc (.cells #[.int .u8 0,.int .i64 0,.slice none 0 0,.int .i64 0,.string ⟨#[]⟩,.string ⟨#[]⟩,.int .i64 0,.int .i64 0,.slice none 0 0,.int .i64 0,.int .i64 0,.int .i64 0] 58)).alloc (.cells #[.int .u8 kd,.int .i64 0,.slice none 0 0,.int .i64 0,.string ⟨#[]⟩,.string ⟨#[]⟩,.int .i64 0,.int .i64 0,.slice none 0 0,.int .i64 0,.int .i64 0,.int .i64 0] 58)) w.heap.size 58 [.int .u8 kd,.int .i64 i1,.slice a gn cap,.int .i64 t1,.string k1,.string b1,.int .i64 ci,.int .i64 ct,.slice b mn bc,.int .i64 cp,.int .i64 cw,.int .i64 cn]∧Blk (((w.alloc (.cells #[.int .u8 kd,.int .i64 i1,.slice a gn cap,.int .i64 t1,.string k1,.string b1,.int .i64 ci,.int .i64 ct,.slice b mn bc,.int .i64 cp,.int .i64 cw,.int .i64 cn] 58)).alloc (.cells #[.int .u8 0,.int .i64 0,.slice none 0 0,.int .i64 0,.string ⟨#[]⟩,.string ⟨#[]⟩,.int .i64 0,.int .i64 0,.slice none 0 0,.int .i64 0,.int .i64 0,.int .i64 0] 58)).alloc (.cells #[.int .u8 kd,.int .i64 0,.slice none 0 0,.int .i64 0,.string ⟨#[]⟩,.string ⟨#[]⟩,.int .i64 0,.int .i64 0,.slice none 0 0,.int .i64 0,.int .i64 0,.int .i64 0] 58)) (w.heap.size+1) 58 [.int .u8 0,.int .i64 0,.slice none 0 0,.int .i64 0,.string ⟨#[]⟩,.string ⟨#[]⟩,.int .i64 0,.int .i64 0,.slice none 0 0,.int .i64 0,.int .i64 0,.int .i64 0]∧Blk (((w.alloc (.cells #[.int .u8 kd,.int .i64 i1,.slice a gn cap,.int .i64 t1,.string k1,.string b1,.int .i64 ci,.int .i64 ct,.slice b mn bc,.int .i64 cp,.int .i64 cw,.int .i64 cn] 58)).alloc (.cells #[.int .u8 0,.int .i64 0,.slice none 0 0,.int .i64 0,.string ⟨#[]⟩,.string ⟨#[]⟩,.int .i64 0,.int .i64 0,.slice none 0 0,.int .i64 0,.int .i64 0,.int .i64 0] 58)).alloc (.cells #[.int .u8 kd,.int .i64 0,.slice none 0 0,.int .i64 0,.string ⟨#[]⟩,.string ⟨#[]⟩,.int .i64 0,.int .i64 0,.slice none 0 0,.int .i64 0,.int .i64 0,.int .i64 0] 58)) (w.heap.size+1+1) 58 [.int .u8 kd,.int .i64 0,.slice none 0 0,.int .i64 0,.string ⟨#[]⟩,.string ⟨#[]⟩,.int .i64 0,.int .i64 0,.slice none 0 0,.int .i64 0,.int .i64 0,.int .i64 0]) :=
   LH ⟨((Blk.new rfl).alloc _).alloc _,(Blk.new (by simp)).alloc _,Blk.new (by simp)⟩
  cases z1
  ·obtain rfl:q=false:=HQ.out
   go_wp2_with fail
   refine Calls.mono (idB_any ci _) ?_
   rintro e w1 ⟨rfl,rfl⟩
   rw [← HZ1.out]
   go_wp2_with fail
   go_meet
   case rel=>exact ⟨rfl,HB0,HE.out.1,HE.out.2.1,HE.out.2.2⟩
  ·cases z2
   ·obtain rfl:q=false:=HQ.out
    go_wp2_with fail
    refine Calls.mono (idB_any ci _) ?_
    rintro e w1 ⟨rfl,rfl⟩
    rw [← HZ1.out]
    go_wp2_with fail
    refine Calls.mono (inB_any cp 0 3 _) ?_
    rintro e w1 ⟨rfl,rfl⟩
    rw [← HZ2.out]
    go_wp2_with fail
    go_meet
    case rel=>exact ⟨rfl,HB0,HE.out.1,HE.out.2.1,HE.out.2.2⟩
   ·obtain rfl:q=z3:=HQ.out
    go_wp2_with fail
    refine Calls.mono (idB_any ci _) ?_
    rintro e w1 ⟨rfl,rfl⟩
    rw [← HZ1.out]
    go_wp2_with fail
    refine Calls.mono (inB_any cp 0 3 _) ?_
    rintro e w1 ⟨rfl,rfl⟩
    rw [← HZ2.out]
    go_wp2_with fail
    refine Calls.mono (inB_any cn 0 1073741824 _) ?_
    rintro e w1 ⟨rfl,rfl⟩
    rw [← HZ3.out]
    go_wp2_with fail
    go_meet
    case rel=>exact ⟨rfl,HB0,HE.out.1,HE.out.2.1,HE.out.2.2⟩
 case rest =>
  obtain ⟨rfl,HB,HP,HRR,HQQ⟩:=hcut
  have hk:=HK.out
  obtain ⟨⟨⟨q0,q1,q2,q3⟩,⟨q4,q5,q6,q7⟩,q8,q9,q10,q11⟩,qz⟩:=cells12 HQQ.out
  have ql:=HQQ.out.lt
  obtain ⟨⟨⟨p0,p1,p2,p3⟩,⟨p4,p5,p6,p7⟩,p8,p9,p10,p11⟩,pz⟩:=cells12 HP.out
  have pl:=HP.out.lt
  obtain ⟨⟨⟨r0,r1,r2,r3⟩,⟨r4,r5,r6,r7⟩,r8,r9,r10,r11⟩,rz⟩:=cells12 HRR.out
  have rl:=HRR.out.lt
  obtain ⟨h0,h1,h2,h3,h4,h5,h6⟩:=hk
  have h0':(kd == 0)=false:=by simp [h0]
  have h1':(kd == 1)=false:=by simp [h1]
  have h2':(kd == 2)=false:=by simp [h2]
  have h3':(kd == 3)=false:=by simp [h3]
  have h4':(kd == 4)=false:=by simp [h4]
  have h5':(kd == 5)=false:=by simp [h5]
  have h6':(kd == 6)=false:=by simp [h6]
  obtain rfl:pc=pZ kd:=by rw [HPC.out];unfold pC;simp only;rw [if_neg h1,if_neg h2,if_neg h3,if_neg h4,if_neg (by rintro (h|h) <;> contradiction)]
  obtain rfl:ok=false:=by rw [HOK.out];unfold okP;simp only;rw [if_neg h0,if_neg h1,if_neg h2,if_neg h3,if_neg h4,if_neg (by rintro (h|h) <;> contradiction)]
  clear h0 h1 h2 h3 h4 h5 h6
  go_wp2_with fail
  obtain ⟨⟨⟨t0,t1_,t2,t3⟩,⟨t4,t5,t6,t7⟩,t8,t9,t10,t11⟩,-⟩:=cells12 (blk_put12 HRR.out (.int .u8 kd) (.int .i64 0) (.slice none 0 0) (.int .i64 0) (.string ⟨#[]⟩) (.string ⟨#[]⟩) (.int .i64 0) (.int .i64 0) (.slice none 0 0) (.int .i64 0) (.int .i64 0) (.int .i64 0))
  have HBF:=((((((((((((HB.out.setCell (p:=⟨w.heap.size+1,0,none⟩) (by simp) (.int .u8 kd)).setCell (p:=⟨w.heap.size+1,1,none⟩) (by simp) (.int .i64 0)).setCell (p:=⟨w.heap.size+1,2,none⟩) (by simp) (.slice none 0 0)).setCell (p:=⟨w.heap.size+1,3,none⟩) (by simp) (.int .i64 0)).setCell (p:=⟨w.heap.size+1,4,none⟩) (by simp) (.string ⟨#[]⟩)).setCell (p:=⟨w.heap.size+1,5,none⟩) (by simp) (.string ⟨#[]⟩)).setCell (p:=⟨w.heap.size+1,6,none⟩) (by simp) (.int .i64 0)).setCell (p:=⟨w.heap.size+1,7,none⟩) (by simp) (.int .i64 0)).setCell (p:=⟨w.heap.size+1,8,none⟩) (by simp) (.slice none 0 0)).setCell (p:=⟨w.heap.size+1,9,none⟩) (by simp) (.int .i64 0)).setCell (p:=⟨w.heap.size+1,10,none⟩) (by simp) (.int .i64 0)).setCell (p:=⟨w.heap.size+1,11,none⟩) (by simp) (.int .i64 0))
  obtain rfl:=HGN.out
  obtain rfl:=HMN.out
  exact bodyPost_ret (v:=.tuple #[.agg #[.int .u8 kd,.int .i64 0,.slice none 0 0,.int .i64 0,.string ⟨#[]⟩,.string ⟨#[]⟩,.int .i64 0,.int .i64 0,.slice none 0 0,.int .i64 0,.int .i64 0,.int .i64 0],.bool false]) (by simp [results,Tryz.results70,go_sem,t0,t1_,t2,t3,t4,t5,t6,t7,t8,t9,t10,t11]) rfl ⟨_,rfl,⟨none,0,none,0,rfl,ints_nil _,ints_nil _⟩,HBF⟩
end Go.Proofs.YtkkohllhebdlcaaGreatDoor
