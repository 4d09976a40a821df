/-
  Proved here: command.plain at one kind of commands. No condition but the kind. model.Same. No condition but that the models read. model.Twin. Models of the call's own with one thing turned. No program in sight bu model.streamed: the topics that a model stands for.
-/
import Derived.Test.YtdfmcgekfogpbabGreatDoorY16
import Derived.Test.YtdfmcgekfogpbabGreatDoorY17
import Derived.Deep.CutRange
set_option maxRecDepth 100000
namespace Go.Proofs.YtdfmcgekfogpbabGreatDoor
open Go.RowKit
set_option maxHeartbeats 8000000 in
set_option maxRecDepth 100000 in
theorem plain_k6 {v:Value} {c:PC} {w:World} (h:ComR w v c) (hk:c.kind=6):Calls Tryz.prog 96 #[v] w (PlainEnd (pC c) (okP c) w):=by
 obtain ⟨a,cap,b,bc,rfl,hg,hm⟩:=h
 obtain ⟨q,hq⟩:∃ q,q=onT c:=⟨_,rfl⟩
 have HPC:=LH (show pC c=pC c from rfl)
 have HOK:=LH (show okP c=okP c from rfl)
 obtain ⟨pc,hpc⟩:∃ pc,pc=pC c:=⟨_,rfl⟩
 obtain ⟨ok,hok⟩:∃ ok,ok=okP c:=⟨_,rfl⟩
 rw [← hpc,← hok]
 clear HPC HOK
 obtain ⟨kd,⟨i1,g1,t1,k1,b1⟩,ci,ct,ml,cp,cw,cn⟩:=c
 simp only [onT] at hq hg hm hk ⊢
 have HK:=LH hk
 clear hk
 have HQ:=LH hq
 have HPC:=LH hpc
 have HOK:=LH hok
 have G:=LH hg
 have M:=LH hm
 obtain ⟨gn,hgn⟩:∃ n,n=g1.length:=⟨_,rfl⟩
 obtain ⟨mn,hmn⟩:∃ n,n=ml.length:=⟨_,rfl⟩
 rw [← hgn] at G ⊢
 rw [← hmn] at M ⊢
 have HGN:=LH hgn
 have HMN:=LH hmn
 clear hq hg hm hpc hok hgn hmn
 obtain ⟨z1,hz1⟩:∃ z:Bool,z=idB ci:=⟨_,rfl⟩
 obtain ⟨z2,hz2⟩:∃ z:Bool,z=inB cp 0 3:=⟨_,rfl⟩
 obtain ⟨z3,hz3⟩:∃ z:Bool,z=inB cn 0 1073741824:=⟨_,rfl⟩
 have HZ1:=LH hz1
 have HZ2:=LH hz2
 have HZ3:=LH hz3
 rw [← hz1,← hz2,← hz3] at HQ
 clear hz1 hz2 hz3
 go_enter Tryz.func96,Tryz.ntmps96
 go_upto_region 2 with fail
 go_cut [5] (fun c wx=>c=.bool q∧Hid (Below w.heap.size w wx)∧Hid (Blk wx w.heap.size 79 [.int .u8 kd,.int .i64 i1,.slice a gn cap,.int .i64 t1,.string k1,.string b1,.int .i64 ci,.int .i64 ct,.slice b mn bc,.int .i64 cp,.int .i64 cw,.int .i64 cn])∧Hid (Blk wx (w.heap.size+1) 79 [.int .u8 0,.int .i64 0,.slice none 0 0,.int .i64 0,.string ⟨#[]⟩,.string ⟨#[]⟩,.int .i64 0,.int .i64 0,.slice none 0 0,.int .i64 0,.int .i64 0,.int .i64 0])∧Hid (Blk wx (w.heap.size+1+1) 79 [.int .u8 kd,.int .i64 0,.slice none 0 0,.int .i64 0,.string ⟨#[]⟩,.string ⟨#[]⟩,.int .i64 0,.int .i64 0,.slice none 0 0,.int .i64 0,.int .i64 0,.int .i64 0]))
 case first =>
  have HB0:Hid (Below w.heap.size w (((w.alloc (.cells #[.int .u8 kd,.int .i64 i1,.slice a gn cap,.int .i64 t1,.string k1,.string b1,.int .i64 ci,.int .i64 ct,.slice b mn bc,.int .i64 cp,.int .i64 cw,.int .i64 cn] 79)).alloc (.cells #[.int .u8 0,.int .i64 0,.slice none 0 0,.int .i64 0,.string ⟨#[]⟩,.string ⟨#[]⟩,.int .i64 0,.int .i64 0,.slice none 0 0,.int .i64 0,.int .i64 0,.int .i64 0] 79)).alloc (.cells #[.int .u8 kd,.int .i64 0,.slice none 0 0,.int .i64 0,.string ⟨#[]⟩,.string ⟨#[]⟩,.int .i64 0,.int .i64 0,.slice none 0 0,.int .i64 0,.int .i64 0,.int .i64 0] 79))):=LH (by repeat (first|with_reducible (first|exact Below.refl _ _|apply Below.drew|apply below_alloc)|((first|with_reducible refine Below.alloc ?_ ?_ _|with_reducible refine Below.setCell ?_ ?_ _);rotate_left;focus (first|(simp <;> omega)|omega))))
  have HE:Hid (Blk (((w.alloc (.cells #[.int .u8 kd,.int .i64 i1,.slice a gn cap,.int .i64 t1,.string k1,.string b1,.int .i64 ci,.int .i64 ct,.slice b mn bc,.int .i64 cp,.int .i64 cw,.int .i64 cn] 79)).alloc (.cells #[.int .u8 0,.int .i64 0,.slice none 0 0,.int .i64 0,.string ⟨#[]⟩,.string ⟨#[]⟩,.int .i64 0,.int .i64 0,.slice none 0 0,.int .i64 0,.int .i64 0,.int .i64 0] 79)).alloc (.cells #[.int .u8 kd,.int .i64 0,.slice none 0 0,.int .i64 0,.string ⟨#[]⟩,.string ⟨#[]⟩,.int .i64 0,.int .i64 0,.slice none 0 0,.int .i64 0,.int .i64 0,.int .i64 0] 79)) w.heap.size 79 [.int .u8 kd,.int .i64 i1,.slice a gn cap,.int .i64 t1,.string k1,.string b1,.int .i64 ci,.int .i64 ct,.slice b mn bc,.int .i64 cp,.int .i64 cw,.int .i64 cn]∧Blk (((w.alloc (.cells #[.int .u8 kd,.int .i64 i1,.slice a gn cap,.int .i64 t1,.string k1,.string b1,.int .i64 ci,.int .i64 ct,.slice b mn bc,.int .i64 cp,.int .i64 cw,.int .i64 cn] 79)).alloc (.cells #[.int .u8 0,.int .i64 0,.slice none 0 0,.int .i64 0,.string ⟨#[]⟩,.string ⟨#[]⟩,.int .i64 0,.int .i64 0,.slice none 0 0,.int .i64 0,.int .i64 0,.int .i64 0] 79)).alloc (.cells #[.int .u8 kd,.int .i64 0,.slice none 0 0,.int .i64 0,.string ⟨#[]⟩,.string ⟨#[]⟩,.int .i64 0,.int .i64 0,.slice none 0 0,.int .i64 0,.int .i64 0,.int .i64 0] 79)) (w.heap.size+1) 79 [.int .u8 0,.int .i64 0,.slice none 0 0,.int .i64 0,.string ⟨#[]⟩,.string ⟨#[]⟩,.int .i64 0,.int .i64 0,.slice none 0 0,.int .i64 0,.int .i64 0,.int .i64 0]∧Blk (((w.alloc (.cells #[.int .u8 kd,.int .i64 i1,.slice a gn cap,.int .i64 t1,.string k1,.string b1,.int .i64 ci,.int .i64 ct,.slice b mn bc,.int .i64 cp,.int .i64 cw,.int .i64 cn] 79)).alloc (.cells #[.int .u8 0,.int .i64 0,.slice none 0 0,.int .i64 0,.string ⟨#[]⟩,.string ⟨#[]⟩,.int .i64 0,.int .i64 0,.slice none 0 0,.int .i64 0,.int .i64 0,.int .i64 0] 79)).alloc (.cells #[.int .u8 kd,.int .i64 0,.slice none 0 0,.int .i64 0,.string ⟨#[]⟩,.string ⟨#[]⟩,.int .i64 0,.int .i64 0,.slice none 0 0,.int .i64 0,.int .i64 0,.int .i64 0] 79)) (w.heap.size+1+1) 79 [.int .u8 kd,.int .i64 0,.slice none 0 0,.int .i64 0,.string ⟨#[]⟩,.string ⟨#[]⟩,.int .i64 0,.int .i64 0,.slice none 0 0,.int .i64 0,.int .i64 0,.int .i64 0]) :=
   LH ⟨((Blk.new rfl).alloc _).alloc _,(Blk.new (by simp)).alloc _,Blk.new (by simp)⟩
  cases z1
  ·obtain rfl:q=false:=HQ.out
   go_wp2_with fail
   refine Calls.mono (idB_any ci _) ?_
   rintro e w1 ⟨rfl,rfl⟩
   rw [← HZ1.out]
   go_wp2_with fail
   go_meet
   case rel=>exact ⟨rfl,HB0,HE.out.1,HE.out.2.1,HE.out.2.2⟩
  ·cases z2
   ·obtain rfl:q=false:=HQ.out
    go_wp2_with fail
    refine Calls.mono (idB_any ci _) ?_
    rintro e w1 ⟨rfl,rfl⟩
    rw [← HZ1.out]
    go_wp2_with fail
    refine Calls.mono (inB_any cp 0 3 _) ?_
    rintro e w1 ⟨rfl,rfl⟩
    rw [← HZ2.out]
    go_wp2_with fail
    go_meet
    case rel=>exact ⟨rfl,HB0,HE.out.1,HE.out.2.1,HE.out.2.2⟩
   ·obtain rfl:q=z3:=HQ.out
    go_wp2_with fail
    refine Calls.mono (idB_any ci _) ?_
    rintro e w1 ⟨rfl,rfl⟩
    rw [← HZ1.out]
    go_wp2_with fail
    refine Calls.mono (inB_any cp 0 3 _) ?_
    rintro e w1 ⟨rfl,rfl⟩
    rw [← HZ2.out]
    go_wp2_with fail
    refine Calls.mono (inB_any cn 0 1073741824 _) ?_
    rintro e w1 ⟨rfl,rfl⟩
    rw [← HZ3.out]
    go_wp2_with fail
    go_meet
    case rel=>exact ⟨rfl,HB0,HE.out.1,HE.out.2.1,HE.out.2.2⟩
 case rest =>
  obtain ⟨rfl,HB,HP,HRR,HQQ⟩:=hcut
  have hk:=HK.out
  obtain ⟨⟨⟨q0,q1,q2,q3⟩,⟨q4,q5,q6,q7⟩,q8,q9,q10,q11⟩,qz⟩:=cells12 HQQ.out
  have ql:=HQQ.out.lt
  obtain ⟨⟨⟨p0,p1,p2,p3⟩,⟨p4,p5,p6,p7⟩,p8,p9,p10,p11⟩,pz⟩:=cells12 HP.out
  have pl:=HP.out.lt
  obtain ⟨⟨⟨r0,r1,r2,r3⟩,⟨r4,r5,r6,r7⟩,r8,r9,r10,r11⟩,rz⟩:=cells12 HRR.out
  have rl:=HRR.out.lt
  obtain rfl:pc=⟨6,default,ci,0,[],cp,0,cn⟩:=by rw [HPC.out,hk];rfl
  have HOK':=LH (show ok=(idB ci && (inB cp 0 3 && inB cn 0 1073741824)) by rw [HOK.out,hk];rfl)
  clear HOK HPC
  subst hk
  obtain rfl:ok=q:=HOK'.out.trans (by rw [HQ.out,HZ1.out,HZ2.out,HZ3.out])
  go_wp2_with fail
  go_region
  have HQ2:=LH (Blk.drew (((HQQ.out.set_ 6 (.int .i64 ci)).set_ 9 (.int .i64 cp)).set_ 11 (.int .i64 cn)))
  have HR2:=LH (Blk.drew (((HRR.out.far (b:=w.heap.size+1+1) (o:=6) (by omega) (.int .i64 ci)).far (b:=w.heap.size+1+1) (o:=9) (by omega) (.int .i64 cp)).far (b:=w.heap.size+1+1) (o:=11) (by omega) (.int .i64 cn)))
  have HP2:=LH (Blk.drew (((HP.out.far (b:=w.heap.size+1+1) (o:=6) (by omega) (.int .i64 ci)).far (b:=w.heap.size+1+1) (o:=9) (by omega) (.int .i64 cp)).far (b:=w.heap.size+1+1) (o:=11) (by omega) (.int .i64 cn)))
  have HB2:=LH ((((HB.out.setCell (p:=⟨w.heap.size+1+1,6,none⟩) (by simp;omega) (.int .i64 ci)).setCell (p:=⟨w.heap.size+1+1,9,none⟩) (by simp;omega) (.int .i64 cp)).setCell (p:=⟨w.heap.size+1+1,11,none⟩) (by simp;omega) (.int .i64 cn))).drew
  generalize hW:(((wc.setCell ⟨w.heap.size+1+1,6,none⟩ (.int .i64 ci)).setCell ⟨w.heap.size+1+1,9,none⟩ (.int .i64 cp)).setCell ⟨w.heap.size+1+1,11,none⟩ (.int .i64 cn)).drew=W at HQ2 HR2 HP2 HB2 ⊢
  clear q0 q1 q2 q3 q4 q5 q6 q7 q8 q9 q10 q11 qz ql p0 p1 p2 p3 p4 p5 p6 p7 p8 p9 p10 p11 pz pl r0 r1 r2 r3 r4 r5 r6 r7 r8 r9 r10 r11 rz rl hW HP HRR HQQ HB
  obtain ⟨⟨⟨q0,q1,q2,q3⟩,⟨q4,q5,q6,q7⟩,q8,q9,q10,q11⟩,qz⟩:=cells12 HQ2.out
  have ql:=HQ2.out.lt
  obtain ⟨⟨⟨p0,p1,p2,p3⟩,⟨p4,p5,p6,p7⟩,p8,p9,p10,p11⟩,pz⟩:=cells12 HP2.out
  have pl:=HP2.out.lt
  obtain ⟨⟨⟨r0,r1,r2,r3⟩,⟨r4,r5,r6,r7⟩,r8,r9,r10,r11⟩,rz⟩:=cells12 HR2.out
  have rl:=HR2.out.lt
  go_wp2_with fail
  obtain ⟨⟨⟨t0,t1_,t2,t3⟩,⟨t4,t5,t6,t7⟩,t8,t9,t10,t11⟩,-⟩:=cells12 (blk_put12 HR2.out (.int .u8 6) (.int .i64 0) (.slice none 0 0) (.int .i64 0) (.string ⟨#[]⟩) (.string ⟨#[]⟩) (.int .i64 ci) (.int .i64 0) (.slice none 0 0) (.int .i64 cp) (.int .i64 0) (.int .i64 cn))
  have HBF:=((((((((((((HB2.out.setCell (p:=⟨w.heap.size+1,0,none⟩) (by simp) (.int .u8 6)).setCell (p:=⟨w.heap.size+1,1,none⟩) (by simp) (.int .i64 0)).setCell (p:=⟨w.heap.size+1,2,none⟩) (by simp) (.slice none 0 0)).setCell (p:=⟨w.heap.size+1,3,none⟩) (by simp) (.int .i64 0)).setCell (p:=⟨w.heap.size+1,4,none⟩) (by simp) (.string ⟨#[]⟩)).setCell (p:=⟨w.heap.size+1,5,none⟩) (by simp) (.string ⟨#[]⟩)).setCell (p:=⟨w.heap.size+1,6,none⟩) (by simp) (.int .i64 ci)).setCell (p:=⟨w.heap.size+1,7,none⟩) (by simp) (.int .i64 0)).setCell (p:=⟨w.heap.size+1,8,none⟩) (by simp) (.slice none 0 0)).setCell (p:=⟨w.heap.size+1,9,none⟩) (by simp) (.int .i64 cp)).setCell (p:=⟨w.heap.size+1,10,none⟩) (by simp) (.int .i64 0)).setCell (p:=⟨w.heap.size+1,11,none⟩) (by simp) (.int .i64 cn))
  obtain rfl:=HGN.out
  obtain rfl:=HMN.out
  exact bodyPost_ret (v:=.tuple #[.agg #[.int .u8 6,.int .i64 0,.slice none 0 0,.int .i64 0,.string ⟨#[]⟩,.string ⟨#[]⟩,.int .i64 ci,.int .i64 0,.slice none 0 0,.int .i64 cp,.int .i64 0,.int .i64 cn],.bool ok]) (by simp [results,Tryz.results96,go_sem,t0,t1_,t2,t3,t4,t5,t6,t7,t8,t9,t10,t11]) rfl ⟨_,rfl,⟨none,0,none,0,rfl,ints_nil _,ints_nil _⟩,HBF⟩
end Go.Proofs.YtdfmcgekfogpbabGreatDoor
namespace Go.Proofs.YtdfmcgekfogpbabGreatDoor
open Go.RowKit
theorem coms_str {w:World} {u:Value} {m:List (List Int)} (h:RowsR w u m):StrR w (.agg #[.slice none 0 0,u]) ⟨[],m⟩ :=
 ⟨_,_,rfl,⟨[],rfl,⟨none,0,rfl,Nat.le_refl _,Nat.zero_le _,fun _=>rfl,fun h=>absurd h (Nat.lt_irrefl _)⟩,fun _ h=>by cases h⟩,h⟩
end Go.Proofs.YtdfmcgekfogpbabGreatDoor
namespace Go.Proofs.YtdfmcgekfogpbabGreatDoor
open Go.RowKit
theorem OwnS.coms {w:World} {B:Nat} {ta tc:Value} {s:Str} (h:OwnS w B (.agg #[ta,tc]) s):OwnC w B tc s.coms:=by
 obtain ⟨_,_,ev,_,h2⟩:=h
 cases ev
 exact h2
theorem field_coms (a:Option Addr) (n c:Nat) (b:Option Addr) (m d:Nat) (w:World):Sem.run Tryz.prog (Instr.field 33 (.agg #[.slice a n c,.slice b m d]) 1) w=.ok (.slice b m d) w:=by kernel_rfl
set_option maxHeartbeats 8000000 in
set_option maxRecDepth 100000 in
theorem mdlTwin_any {v:Value} {m:Mdl} {w:World} (h:MdlR w v m) (hf:fitM m):Calls Tryz.prog 55 #[v] w (MdlEnd m w):=by
 obtain ⟨i0,hi,hz0,hz1,hz2⟩:=info_parts info_pl
 obtain ⟨hf1,hf2,hf3⟩:=hf
 have HF2:=LH hf3
 have HFS:=LH (show fewS (⟨[],m.coms⟩:Str) from ⟨Nat.zero_le _,fun _ h=>absurd h List.not_mem_nil,hf2⟩)
 obtain ⟨a,cap,b,nc,cc,rfl,hT,hR⟩:=h.shape
 obtain ⟨aa,ccap,hv,hcap,hmx,_,hd⟩:=hT.shape
 cases hv
 have HD:=LH hd
 have RR:=LH hR
 obtain ⟨n,hn⟩:∃ n,n=m.tops.length:=⟨_,rfl⟩
 rw [← hn] at HD hcap hf1 ⊢
 have HN:=LH hn
 have nn0:(n:Int)≤1000000:=by omega
 clear hf2 hf3 hT hR hd hn h hmx
 have hfd:=field_coms
 go_enter Tryz.func55,Tryz.ntmps55
 go_wp2_with fail
 refine Calls.mono (strTwin_any (s:=⟨[],m.coms⟩) (coms_str ?_) HFS.out) ?_
 ·exact RR.out.below (by repeat (first|with_reducible (first|exact Below.refl _ _|apply Below.drew|apply below_alloc)|((first|with_reducible refine Below.alloc ?_ ?_ _|with_reducible refine Below.setCell ?_ ?_ _);rotate_left;focus (first|(simp <;> omega)|omega))))
 rintro e w1 ⟨vt,vc,rfl,os,hb⟩
 obtain ⟨at0,ct0,ac,nac,cac,ev,-,-⟩:=os.reads.shape
 cases ev
 have oc:=os.coms
 have HB:Hid (Below w.heap.size w _):=below_step (by repeat (first|with_reducible (first|exact Below.refl _ _|apply Below.drew|apply below_alloc)|((first|with_reducible refine Below.alloc ?_ ?_ _|with_reducible refine Below.setCell ?_ ?_ _);rotate_left;focus (first|(simp <;> omega)|omega)))) hb
 have P:Blk _ (w.heap.size) _ _:=Blk.step (by repeat (first|((with_reducible apply Blk.new);focus (first|rfl|(simp <;> omega)))|with_reducible (first|apply Blk.drew|apply Blk.alloc|apply Blk.set_)|((with_reducible apply Blk.far);rotate_left;focus (first|(simp <;> omega)|omega)))) hb
 obtain ⟨p0,p1,pz⟩:=cells2 P
 have pl:=Blk.lt P
 have HP:=LH P
 clear P
 have R:Blk _ (w.heap.size+1) _ _:=Blk.step (by repeat (first|((with_reducible apply Blk.new);focus (first|rfl|(simp <;> omega)))|with_reducible (first|apply Blk.drew|apply Blk.alloc|apply Blk.set_)|((with_reducible apply Blk.far);rotate_left;focus (first|(simp <;> omega)|omega)))) hb
 obtain ⟨r0,r1,rz⟩:=cells2 R
 have rl:=Blk.lt R
 have HR:=LH R
 clear R
 have OC:Hid (OwnC w1 (w.heap.size+2) (.slice ac nac cac) m.coms):=oc.le (by simp)
 have s1:w.heap.size+2≤w1.heap.size:=rl
 have HB1:=LH s1
 clear hb oc os
 go_wp2_with fail
 go_loopg [15] n (fun g i wr=>∃ (k:Nat) (al:Option Addr) (capl:Nat),k≤n∧g=n - k∧i=.int .i64 (k:Int)∧Hid (OwnP wr (w1.heap.size+1) (.slice al k capl) (m.tops.take k))∧Hid (OwnC wr (w.heap.size+2) (.slice ac nac cac) m.coms)∧Hid (Below w.heap.size w wr) ∧
  Hid (Blk wr (w.heap.size+1) 46 [.slice none 0 0,.slice none 0 0])∧Hid (Blk wr w1.heap.size 46 [.slice al k capl,.slice ac nac cac]))
 case atStart =>
  refine ⟨0,none,0,Nat.zero_le _,rfl,rfl,OwnP.nil _ _,OC.out.alloc _,?_,?_,?_⟩
  ·show Below _ _ _
   repeat (first|with_reducible (first|exact HB.out|exact Below.refl _ _|apply Below.drew|apply below_alloc)|((first|with_reducible refine Below.alloc ?_ ?_ _|with_reducible refine Below.setCell ?_ ?_ _);rotate_left;focus (first|(simp <;> omega)|omega)))
  ·show Blk _ _ _ _
   repeat (first|with_reducible exact HR.out|((with_reducible apply Blk.new);focus (first|rfl|(simp <;> omega)))|with_reducible (first|apply Blk.drew|apply Blk.alloc|apply Blk.set_)|((with_reducible apply Blk.far);rotate_left;focus (first|(simp <;> omega)|omega)))
  ·show Blk _ _ _ _
   exact Blk.new rfl
 case round =>
  clear OC HB HP HR p0 p1 pz pl r0 r1 rz rl
  obtain ⟨k,al,capl,hk,rfl,rfl,OP,OC,HB,HR,HQ⟩:=hrel
  obtain ⟨q0,q1,qz⟩:=cells2 HQ.out
  have ql:=HQ.out.lt
  have HLW:Hid (w1.heap.size+1≤wr.heap.size):=ql
  by_cases hlt:k < n
  ·have hk0:(0:Int)≤(k:Int):=by omega
   have hk1:(k:Int) < (n:Int):=by omega
   obtain ⟨g,off,ha,hat⟩:=HD.out (by omega)
   subst ha
   obtain ⟨ea,ecap,⟨⟨c0,c1⟩,c2⟩,hPl⟩:=(hat k hlt).keep HB.out
   obtain ⟨x,hx⟩:∃ x,x=m.tops.getD k default:=⟨_,rfl⟩
   rw [← hx] at c0 c1 c2 hPl
   have hg1:g < wr.heap.size:=World.block_lt_of_cell? wr _ c0
   have hkl:k < m.tops.length:=by rw [← HN.out];exact hlt
   have HLX:=LH (show x.all.length * 48≤140737488355328 by rw [hx,getD_lt hkl];exact HF2.out _ (List.getElem_mem hkl))
   have HTK:=LH (show m.tops.take (k+1)=m.tops.take k++[x] by rw [hx,List.take_succ_eq_append_getElem hkl,getD_lt hkl])
   have HLK:=LH (show (m.tops.take k).length=k by rw [List.length_take];omega)
   have HSLX:=LH (show SliceR wr (.slice ea x.all.length ecap) 4 entCells x.all by
    obtain ⟨a9,c9,ev,hs⟩:=hPl
    cases ev
    exact hs)
   clear hat hPl hx hkl
   go_wp2_with fail
   refine Calls.mono (clone_wide (l:=x.all) ?_ HLX.out) ?_
   ·exact HSLX.out.below entCells_len (by repeat (first|with_reducible (first|exact Below.refl _ _|apply Below.drew|apply below_alloc)|((first|with_reducible refine Below.alloc ?_ ?_ _|with_reducible refine Below.setCell ?_ ?_ _);rotate_left;focus (first|(simp <;> omega)|omega))))
   rintro e w5 ⟨a6,c6,rfl,ho,hb⟩
   have HX6:Hid (Blk w5 wr.heap.size 105 [.slice ea x.all.length ecap,.int .i64 x.base,.int .i64 x.mark]):=LH (Blk.step (by repeat (first|with_reducible exact Blk.new rfl|((with_reducible apply Blk.new);focus (first|rfl|(simp <;> omega)))|with_reducible (first|apply Blk.drew|apply Blk.alloc|apply Blk.set_)|((with_reducible apply Blk.far);rotate_left;focus (first|(simp <;> omega)|omega)))) hb)
   have HW5:Hid (Below wr.heap.size wr w5):=below_step (by repeat (first|with_reducible (first|exact Below.refl _ _|apply Below.drew|apply below_alloc)|((first|with_reducible refine Below.alloc ?_ ?_ _|with_reducible refine Below.setCell ?_ ?_ _);rotate_left;focus (first|(simp <;> omega)|omega)))) hb
   have HOE:Hid (OwnE w5 (wr.heap.size+1) (.slice a6 x.all.length c6) x.all):=own_base ho (by simp)
   obtain ⟨x0,x1,x2,xz⟩:=cells3 HX6.out
   have hw5:wr.heap.size < w5.heap.size:=HX6.out.lt
   have HX7:Hid (Blk (w5.setCell ⟨wr.heap.size,0,none⟩ (.slice a6 x.all.length c6)) wr.heap.size 105 [.slice a6 x.all.length c6,.int .i64 x.base,.int .i64 x.mark]):=LH (HX6.out.set_ 0 _)
   have HQ7:Hid (Blk (w5.setCell ⟨wr.heap.size,0,none⟩ (.slice a6 x.all.length c6)) w1.heap.size 46 [.slice al k capl,.slice ac nac cac]):=LH ((HQ.out.step HW5.out).far (by omega) _)
   have HR7:Hid (Blk (w5.setCell ⟨wr.heap.size,0,none⟩ (.slice a6 x.all.length c6)) (w.heap.size+1) 46 [.slice none 0 0,.slice none 0 0]):=LH ((HR.out.step HW5.out).far (by have:=HR.out.lt;omega) _)
   have HW7:Hid (Below wr.heap.size wr (w5.setCell ⟨wr.heap.size,0,none⟩ (.slice a6 x.all.length c6))):=LH (HW5.out.setCell (p:=⟨wr.heap.size,0,none⟩) (Nat.le_refl _) _)
   have OC7:=LH (OC.out.keep HW7.out)
   have HOE7:Hid (OwnE (w5.setCell ⟨wr.heap.size,0,none⟩ (.slice a6 x.all.length c6)) (wr.heap.size+1) (.slice a6 x.all.length c6) x.all):=LH (own_set HOE.out (Nat.lt_succ_self _))
   have OP7:=LH (OP.out.keep HW7.out)
   clear ho hb HOE q0 q1 qz ql HQ HR c0 c1 c2 HX6
   go_upto_region 6 with fail
   generalize hW7:w5.setCell ⟨wr.heap.size,0,none⟩ (.slice a6 x.all.length c6)=W7 at HX7 HQ7 HR7 HW7 OC7 HOE7 OP7 ⊢
   clear hW7 x0 x1 x2 xz HW5 hw5
   obtain ⟨x0,x1,x2,xz⟩:=cells3 HX7.out
   obtain ⟨q0,q1,qz⟩:=cells2 HQ7.out
   have xl:=HX7.out.lt
   have ql:=HQ7.out.lt
   have hw17:w1.heap.size+1≤wr.heap.size:=HLW.out
   obtain ⟨ps,hpl,hrow,hent,hap⟩:=OP.out
   rw [HLK.out] at hrow
   have HROW:=LH hrow
   have HPL:=LH hpl
   have HENT:=LH hent
   have HAP:=LH hap
   clear hpl hrow hent hap
   go_wp2_with (at_builtin;go_must (refine wpList_append_own _ rfl _ _ 44 rfl (w1.heap.size+1) 105 i0 _ 3 40 Tryz.underlying44 hi hz0 hz1 hz2 rfl (by decide) _ k _ rfl (ownsRow_keep (ownsRow_keep HROW.out HW7.out) (below_alloc (Below.refl _ _))) ⟨W7.heap.size,0,none⟩ 1 1 (plCells (.slice a6 x.all.length c6,x)) rfl rfl (news_pl _ x rfl) (plCells_one _ _ _ x) (by unfold maxLen;omega) (by omega) (by simp;omega) ?_))
   intro v' w8 hown hgrow _
   obtain ⟨g5,cap5,rfl⟩:∃ g5 cap5,v'=.slice (some ⟨g5,0,none⟩) (k+1) cap5:=by
    rcases hown.2 with ⟨_,h0⟩|⟨g5,cp,_,e,_⟩
    ·omega
    ·exact ⟨g5,cp,e⟩
   have hrw:=ownsRow_keep (ownsRow_keep HROW.out HW7.out) (below_alloc (w:=W7) (Below.refl _ _) (o:=.cells #[.slice a6 x.all.length c6,.int .i64 x.base,.int .i64 x.mark] 105))
   have hww:wr.heap.size≤W7.heap.size:=HW7.out.size
   have OP8:Hid (OwnP w8 (w1.heap.size+1) (.slice (some ⟨g5,0,none⟩) (k+1) cap5) (m.tops.take (k+1))):=by
    rw [HTK.out]
    exact OwnP.snoc2 (B2:=wr.heap.size) HPL.out hrw (fun p hp=>own_below (own_below (HENT.out p hp) HW7.out) (below_alloc (Below.refl _ _))) HAP.out (fun p hp j hj=>((HENT.out p hp).lt j hj).2) (own_below (own_base HOE7.out (by omega)) (below_alloc (Below.refl _ _))) (fun j hj=>by have:=(HOE7.out.lt j hj).1;omega) hgrow hown HLK.out.symm
   have OC8:=LH (OwnC.grown (OwnC.alloc OC7.out _) hgrow hrw rfl (by decide) (by decide))
   have hr1:=HROW.out.lt
   have HB8:Hid (Below w.heap.size w w8):=Below.grown ((HB.out.trans (HW7.out.mono HB.out.size)).alloc (by have:=HB.out.size;omega) _) hgrow (by have:=HB.out.size;simp;omega) (fun j hj=>by have:=(hr1 j hj).1;have:=HB1.out;omega)
   have HR8:=LH (Blk.grown (HR7.out.alloc _) hgrow (fun e=>by have:=(hr1 _ e).1;have:=HB1.out;omega))
   have HQ8:=LH (Blk.grown (HQ7.out.alloc _) hgrow (fun e=>by have:=(hr1 _ e).1;omega))
   clear hown hgrow hrw q0 q1 qz x0 x1 x2 xz xl ql hr1
   obtain ⟨q0,q1,qz⟩:=cells2 HQ8.out
   have ql:=HQ8.out.lt
   go_wp2_with fail
   go_roundg (n - (k+1))
   case measure=>omega
   case rel =>
    have hb1:=HB1.out
    refine ⟨k+1,some ⟨g5,0,none⟩,cap5,by omega,rfl,by go_num,?_,?_,?_,?_,?_⟩
    ·show OwnP _ _ _ _
     exact OP8.out.far (by omega)
    ·exact LH (OwnC.blk OC8.out HQ8.out (by decide) (by decide))
    ·show Below _ _ _
     exact HB8.out.setCell (p:=⟨w1.heap.size,0,none⟩) (by show w.heap.size≤w1.heap.size;omega) _
    ·show Blk _ _ _ _
     exact HR8.out.far (by omega) _
    ·show Blk _ _ _ _
     exact HQ8.out.set_ 0 _
  ·obtain rfl:k=n:=by omega
   have hlt':¬ (k:Int) < (k:Int):=by omega
   have e:m.tops.take k=m.tops:=by rw [HN.out];exact List.take_length
   have OP6:=OP.out
   rw [e] at OP6
   have OP7:=LH OP6
   have hb1:=HB1.out
   have rl:=HR.out.lt
   obtain ⟨r0,r1,rz⟩:=cells2 HR.out
   clear e OP6 OP
   go_wp2_with fail
   obtain ⟨t0,t1,-⟩:=cells2 ((HR.out.set_ 0 (.slice al k capl)).set_ 1 (.slice ac nac cac))
   refine bodyPost_ret (v:=.agg #[.slice al k capl,.slice ac nac cac]) (by simp [results,Tryz.results55,go_sem,t0,t1]) rfl ⟨_,_,rfl,⟨_,_,rfl,?_,?_⟩,?_⟩
   ·exact OwnP.le ((OP7.out.far (by omega)).far (by omega)) (by omega)
   ·exact OwnRows.le (OwnC.far (OwnC.far OC.out (by omega)) (by omega)) (by omega)
   ·exact (HB.out.setCell (by simp) _).setCell (by simp) _
end Go.Proofs.YtdfmcgekfogpbabGreatDoor
namespace Go.Proofs.YtdfmcgekfogpbabGreatDoor
open Go.RowKit Go.Deep
def OwnQ (w:World) (B:Nat) (v:Value) (l:List Pl):Prop :=
 ∃ pl:List (Value × Pl),pl.map (·.2)=l∧w.ownsRow B 105 3 v l.length (pl.flatMap plCells)∧∀ p∈pl,OwnE w B p.1 p.2.all
def OwnN (w:World) (B:Nat) (v:Value) (m:Mdl):Prop:=∃ ta tc,v=.agg #[ta,tc]∧OwnQ w B ta m.tops∧OwnC w B tc m.coms
theorem OwnP.weak {w:World} {B:Nat} {v:Value} {l:List Pl} (h:OwnP w B v l):OwnQ w B v l:=by
 obtain ⟨pl,h1,h2,h3,_⟩:=h
 exact ⟨pl,h1,h2,h3⟩
theorem OwnM.weak {w:World} {B:Nat} {v:Value} {m:Mdl} (h:OwnM w B v m):OwnN w B v m:=by
 obtain ⟨ta,tc,h1,h2,h3⟩:=h
 exact ⟨ta,tc,h1,h2.weak,h3⟩
theorem OwnQ.reads {w:World} {B:Nat} {v:Value} {l:List Pl} (h:OwnQ w B v l):PlsR w v l:=by
 obtain ⟨pl,rfl,h2,h3⟩:=h
 rw [List.length_map] at h2
 exact ⟨pl,rfl,sliceR_of_owns plCells_len h2,fun p hp=>own_all (h3 p hp)⟩
theorem OwnN.reads {w:World} {B:Nat} {v:Value} {m:Mdl} (h:OwnN w B v m):MdlR w v m:=by
 obtain ⟨ta,tc,rfl,h2,h3⟩:=h
 exact ⟨ta,tc,rfl,h2.reads,h3.reads⟩
theorem OwnQ.keep {w w':World} {B:Nat} {v:Value} {l:List Pl} (h:OwnQ w B v l) (hb:Below w.heap.size w w'):OwnQ w' B v l:=by
 obtain ⟨pl,h1,h2,h3⟩:=h
 exact ⟨pl,h1,ownsRow_keep h2 hb,fun p hp=>own_below (h3 p hp) hb⟩
theorem OwnQ.le {w:World} {B B':Nat} {v:Value} {l:List Pl} (h:OwnQ w B v l) (hB:B'≤B):OwnQ w B' v l:=by
 obtain ⟨pl,h1,h2,h3⟩:=h
 exact ⟨pl,h1,ownsRow_le h2 hB,fun p hp=>own_base (h3 p hp) hB⟩
theorem OwnN.keep {w w':World} {B:Nat} {v:Value} {m:Mdl} (h:OwnN w B v m) (hb:Below w.heap.size w w'):OwnN w' B v m:=by
 obtain ⟨ta,tc,h1,h2,h3⟩:=h
 exact ⟨ta,tc,h1,h2.keep hb,h3.keep hb⟩
theorem OwnN.le {w:World} {B B':Nat} {v:Value} {m:Mdl} (h:OwnN w B v m) (hB:B'≤B):OwnN w B' v m:=by
 obtain ⟨ta,tc,h1,h2,h3⟩:=h
 exact ⟨ta,tc,h1,h2.le hB,OwnRows.le h3 hB⟩
theorem OwnQ.far {W:World} {B b o:Nat} {v u:Value} {l:List Pl} (h:OwnQ W B v l) (hb:b < B):OwnQ (W.setCell ⟨b,o,none⟩ u) B v l:=by
 obtain ⟨pl,h1,h2,h3⟩:=h
 exact ⟨pl,h1,ownsRow_setCell_other h2 (fun e=>by have:=(h2.lt _ e).1;simp at this;omega) u,fun p hp=>own_set (h3 p hp) hb⟩
theorem OwnQ.blk {W:World} {B b o:Nat} {t:TypeId} {cs:List Value} {v u:Value} {l:List Pl} (h:OwnQ W B v l) (hb:Blk W b t cs) (h1t:105≠t) (h2t:50≠t):OwnQ (W.setCell ⟨b,o,none⟩ u) B v l:=by
 obtain ⟨pl,h1,h2,h3⟩:=h
 exact ⟨pl,h1,ownsRow_setCell_other h2 (row_blk h2 hb h1t) u,fun p hp=>ownsRow_setCell_other (h3 p hp) (row_blk (h3 p hp) hb h2t) u⟩
theorem OwnN.blk {W:World} {B b o:Nat} {t:TypeId} {cs:List Value} {v u:Value} {m:Mdl} (h:OwnN W B v m) (hb:Blk W b t cs) (h1t:105≠t) (h2t:50≠t) (h3t:34≠t) (h4t:3≠t):OwnN (W.setCell ⟨b,o,none⟩ u) B v m:=by
 obtain ⟨ta,tc,rfl,h1,h2⟩:=h
 exact ⟨ta,tc,rfl,h1.blk hb h1t h2t,OwnC.blk h2 hb h3t h4t⟩
theorem OwnN.zero (w:World) (B:Nat):OwnN w B (.agg #[.slice none 0 0,.slice none 0 0]) Mdl.zero:=⟨_,_,rfl,⟨[],rfl,World.ownsRow_nil _ _ _ _,fun _ h=>by cases h⟩,OwnRows.nil _ _ _ _⟩
theorem flat3_set (pl:List (Value × Pl)) (i j:Nat) (y:Value) (p:Value × Pl) (hi:i < pl.length) (hj:j < 3) (hp:plCells p=(plCells (pl[i])).set j y) :
  (pl.flatMap plCells).set (i * 3+j) y=(pl.set i p).flatMap plCells:=by
 induction pl generalizing i with
 |nil=>simp at hi
 |cons z l ih =>
  cases i with
  |zero =>
   simp only [List.getElem_cons_zero] at hp
   simp only [List.flatMap_cons,List.set_cons_zero,Nat.zero_mul,Nat.zero_add,hp]
   rw [List.set_append_left _ _ (by rw [plCells_len];exact hj)]
  |succ i =>
   simp only [List.getElem_cons_succ] at hp
   have:=ih i (by simpa using hi) hp
   simp only [List.flatMap_cons,List.set_cons_succ,← this]
   rw [List.set_append_right (h:=by rw [plCells_len];omega),plCells_len,show (i+1) * 3+j - 3=i * 3+j by omega]
theorem OwnP.put {W:World} {B g n cap i j:Nat} {y:Int} {l:List Pl} {p':Pl} (h:OwnP W B (.slice (some ⟨g,0,none⟩) n cap) l) (hi:i < l.length)
  (hp:(j=1∧p'=⟨(l.getD i default).all,y,(l.getD i default).mark⟩)∨(j=2∧p'=⟨(l.getD i default).all,(l.getD i default).base,y⟩)) :
  OwnQ (W.setCell ⟨g,i * 3+j,none⟩ (.int .i64 y)) B (.slice (some ⟨g,0,none⟩) n cap) (l.set i p'):=by
 obtain ⟨pl,rfl,h2,h3,_⟩:=h
 rw [List.length_map] at h2 hi
 obtain rfl:n=pl.length:=by
  rcases h2.2 with ⟨e,_⟩|⟨_,_,_,e,_⟩
  ·cases e
  ·cases e;rfl
 have hd:(pl.map (·.2)).getD i default=pl[i].2:=by simp [List.getD,hi]
 rw [hd] at hp
 have s1:=(h2.stored (i * 3+j) (.int .i64 y)).1
 have hj:j < 3:=by omega
 have hpc:plCells (pl[i].1,p')=(plCells (pl[i])).set j (.int .i64 y):=by
  rcases hp with ⟨rfl,rfl⟩|⟨rfl,rfl⟩ <;> rfl
 have hpa:p'.all=(pl[i].2).all:=by rcases hp with ⟨_,rfl⟩|⟨_,rfl⟩ <;> rfl
 rw [flat3_set pl i j _ (pl[i].1,p') hi hj hpc] at s1
 have hne:∀ q:Value × Pl,OwnE W B q.1 q.2.all→OwnE (W.setCell ⟨g,i * 3+j,none⟩ (.int .i64 y)) B q.1 q.2.all:=fun q hq=>row_far hq (fun b hb=>heap_setCell_other _ _ _ _ hb) (rows_ne hq h2 (by decide) rfl)
 refine ⟨pl.set i (pl[i].1,p'),by simp,?_,fun p hp=>?_⟩
 ·rw [List.length_set,List.length_map]
  exact s1
 ·rcases List.mem_or_eq_of_mem_set hp with hp|hp
  ·exact hne p (h3 p hp)
  ·subst hp
   have:=hne (pl[i]) (h3 _ (List.getElem_mem hi))
   show OwnE _ B (pl[i]).1 p'.all
   rw [hpa]
   exact this
theorem OwnP.grow {W:World} {B g n cap i:Nat} {l:List Pl} (h:OwnP W B (.slice (some ⟨g,0,none⟩) n cap) l) (hi:i < l.length) :
  ∃ ea ecap,W.cell? ⟨g,i * 3,none⟩=some (.slice ea (l.getD i default).all.length ecap)∧OwnE W B (.slice ea (l.getD i default).all.length ecap) (l.getD i default).all ∧
   (∀ k,(Value.slice ea (l.getD i default).all.length ecap).ownBlock=some k→k≠g) ∧
   ∀ (W5:World) (a':Option Addr) (c':Nat) (x:Ent),W.grownBy W5 (Value.slice ea (l.getD i default).all.length ecap).ownBlock→OwnE W5 B (.slice a' ((l.getD i default).all.length+1) c') ((l.getD i default).all++[x]) →
    OwnQ (W5.setCell ⟨g,i * 3,none⟩ (.slice a' ((l.getD i default).all.length+1) c')) B (.slice (some ⟨g,0,none⟩) n cap) (l.set i ⟨(l.getD i default).all++[x],(l.getD i default).base,(l.getD i default).mark⟩):=by
 obtain ⟨pl,rfl,h2,h3,h4⟩:=h
 rw [List.length_map] at h2 hi
 obtain rfl:n=pl.length:=by
  rcases h2.2 with ⟨e,_⟩|⟨_,_,_,e,_⟩
  ·cases e
  ·cases e;rfl
 have hd:(pl.map (·.2)).getD i default=pl[i].2:=by simp [List.getD,hi]
 rw [hd]
 obtain ⟨ea,ecap,hu⟩:=own_shape (h3 _ (List.getElem_mem hi))
 have hi3:i * 3 < (pl.flatMap plCells).length:=by rw [h2.1];omega
 have hcell:(pl.flatMap plCells)[i * 3]?=some pl[i].1:=by
  have:=flat_get (k:=3) plCells_len pl i hi 0 (by omega)
  rw [Nat.add_zero] at this
  rw [this]
  rfl
 have hc:=h2.cells (g:=g) rfl (i * 3) _ hcell
 rw [show ((⟨g,0,none⟩:Addr).add (i * 3))=⟨g,i * 3,none⟩ by unfold Addr.add;split <;> simp_all] at hc
 have hown:=h3 _ (List.getElem_mem hi)
 rw [hu] at hc hown
 have hng:∀ k,(Value.slice ea (pl[i].2).all.length ecap).ownBlock=some k→k≠g:=fun k hk e=>by
  subst e
  exact rows_ne hown h2 (by decide) rfl hk
 refine ⟨ea,ecap,hc,hown,hng,fun W5 a' c' x hg ho=>?_⟩
 have h25:=ownsRow_grown' h2 hg (fun k hk hk2=>hng k hk (by simpa [Value.ownBlock] using hk2.symm))
 have s1:=(h25.stored (i * 3+0) (.slice a' ((pl[i].2).all.length+1) c')).1
 rw [flat3_set pl i 0 _ (.slice a' ((pl[i].2).all.length+1) c',⟨(pl[i].2).all++[x],(pl[i].2).base,(pl[i].2).mark⟩) hi (by omega) rfl] at s1
 have hne:∀ q:Value × Pl,OwnE W5 B q.1 q.2.all→OwnE (W5.setCell ⟨g,i * 3,none⟩ (.slice a' ((pl[i].2).all.length+1) c')) B q.1 q.2.all:=fun q hq=>row_far hq (fun b hb=>heap_setCell_other _ _ _ _ hb) (rows_ne hq h25 (by decide) rfl)
 refine ⟨pl.set i (.slice a' ((pl[i].2).all.length+1) c',⟨(pl[i].2).all++[x],(pl[i].2).base,(pl[i].2).mark⟩),by simp,?_,fun p hp=>?_⟩
 ·rw [List.length_set,List.length_map]
  exact s1
 ·obtain ⟨k,hk,rfl⟩:=List.getElem_of_mem hp
  rw [List.length_set] at hk
  by_cases hki:k=i
  ·subst hki
   rw [List.getElem_set_self]
   exact row_far ho (fun b hb=>heap_setCell_other _ _ _ _ hb) (rows_ne ho h25 (by decide) rfl)
  ·rw [List.getElem_set_ne (fun e=>hki e.symm)]
   refine hne _ (ownsRow_grown' (h3 _ (List.getElem_mem hk)) hg (fun b hb hb2=>?_))
   have hap:=List.pairwise_iff_getElem.1 h4
   rw [← hu] at hb
   rcases Nat.lt_or_ge k i with hlt|hge
   ·exact hap k i hk hi hlt b hb2 hb
   ·exact hap i k hi hk (by omega) b hb hb2
theorem grownBy_from {w w5:World} {o:Obj} {row:Option Nat} (h:(w.drew.alloc o).grownBy w5 row):w.grownBy w5 row :=
 ⟨h.os,h.tape,h.output,Nat.le_trans (by simp) h.size,fun k hk hr=>(h.block k (by simp;omega) hr).trans (Below.heap_alloc w.drew o k hk)⟩
def PutEndM (u:Mdl) (n x:Int) (w:World) (e:Ending) (w':World):Prop:=∃ ta tc,e=.returned (.tuple #[.agg #[ta,tc],.int .i64 n,.int .i64 x])∧OwnN w' w.heap.size (.agg #[ta,tc]) u∧Below w.heap.size w w'
def DoEndM (u:Mdl) (x:Int) (w:World) (e:Ending) (w':World):Prop:=∃ ta tc,e=.returned (.tuple #[.agg #[ta,tc],.int .i64 x])∧OwnN w' w.heap.size (.agg #[ta,tc]) u∧Below w.heap.size w w'
end Go.Proofs.YtdfmcgekfogpbabGreatDoor
namespace Go.Proofs.YtdfmcgekfogpbabGreatDoor
open Go.RowKit
set_option maxHeartbeats 8000000 in
set_option maxRecDepth 100000 in
theorem streamed_any {v:Value} {m:Mdl} {w:World} (h:MdlR w v m) (hs:∀ p∈m.tops,shapedP p) (hf:m.tops.length≤1000000∧few m.coms):Calls Tryz.prog 38 #[v] w (StrEnd (streamM m) w):=by
 obtain ⟨i0,hi,hz0,hz1,hz2⟩:=info_parts info_top
 obtain ⟨hf1,hf3⟩:=hf
 have HS:=LH hs
 have HF3:=LH hf3
 obtain ⟨a,cap,b,nc,cc,rfl,hT,hR⟩:=h.shape
 obtain ⟨aa,ccap,hv,hcap,hmx,_,hd⟩:=hT.shape
 cases hv
 have HD:=LH hd
 have RR:=LH hR
 obtain ⟨n,hn⟩:∃ n,n=m.tops.length:=⟨_,rfl⟩
 rw [← hn] at HD hcap hf1 ⊢
 have HN:=LH hn
 have nn0:(n:Int)≤1000000:=by omega
 have HFS:=LH (show fewS (streamM m) by
  refine ⟨by rw [streamM,List.length_map,← hn];exact hf1,fun t ht=>?_,hf3⟩
  obtain ⟨p,hp,rfl⟩:=List.mem_map.1 ht
  have h1:=(hs p hp).2.1
  have h2:(entP p).length≤p.all.length:=Nat.le_trans (fromE_len _ _) (keepF_sub _ _).length_le
  show (entP p).length≤1000000
  omega)
 clear hs hf3 hT hR hd hn h hmx
 go_enter Tryz.func38,Tryz.ntmps38
 go_wp2_with fail
 go_loopg [12] n (fun g i wr=>∃ (k:Nat) (al:Option Addr) (capl:Nat),k≤n∧g=n - k∧i=.int .i64 (k:Int)∧Hid (OwnT wr (w.heap.size+3) (.slice al k capl) ((m.tops.map topM).take k))∧Hid (Below w.heap.size w wr) ∧
  Hid (Blk wr (w.heap.size+1) 33 [.slice none 0 0,.slice none 0 0])∧Hid (Blk wr (w.heap.size+2) 33 [.slice al k capl,.slice b nc cc]))
 case atStart =>
  refine ⟨0,none,0,Nat.zero_le _,rfl,rfl,OwnT.nil _ _,?_,?_,?_⟩
  ·show Below _ _ _
   repeat (first|with_reducible (first|exact Below.refl _ _|apply Below.drew|apply below_alloc)|((first|with_reducible refine Below.alloc ?_ ?_ _|with_reducible refine Below.setCell ?_ ?_ _);rotate_left;focus (first|(simp <;> omega)|omega)))
  ·show Blk _ _ _ _
   repeat (first|(with_reducible exact Blk.new (by simp))|((with_reducible apply Blk.new);focus (first|rfl|(simp <;> omega)))|with_reducible (first|apply Blk.drew|apply Blk.alloc|apply Blk.set_)|((with_reducible apply Blk.far);rotate_left;focus (first|(simp <;> omega)|omega)))
  ·show Blk _ _ _ _
   exact Blk.new (by simp)
 case round =>
  obtain ⟨k,al,capl,hk,rfl,rfl,OT,HB,HR,HQ⟩:=hrel
  obtain ⟨q0,q1,qz⟩:=cells2 HQ.out
  obtain ⟨r0,r1,rz⟩:=cells2 HR.out
  have ql:=HQ.out.lt
  have rl:=HR.out.lt
  have hws:w.heap.size < wr.heap.size:=by omega
  by_cases hlt:k < n
  ·have hk0:(0:Int)≤(k:Int):=by omega
   have hk1:(k:Int) < (n:Int):=by omega
   obtain ⟨g,off,ha,hat⟩:=HD.out (by omega)
   subst ha
   obtain ⟨ea,ecap,⟨⟨c0,c1⟩,c2⟩,hTT⟩:=(hat k hlt).keep HB.out
   have T:=LH hTT
   have hg1:g < wr.heap.size:=World.block_lt_of_cell? wr _ c0
   obtain ⟨y,hy⟩:∃ y,y=m.tops.getD k default:=⟨_,rfl⟩
   rw [← hy] at c0 c1 c2 T
   have hkl:k < m.tops.length:=by rw [← HN.out];exact hlt
   have HSY:=LH (show shapedP y by rw [hy,getD_lt hkl];exact HS.out _ (List.getElem_mem hkl))
   obtain ⟨x,hx⟩:∃ x,x=topM y:=⟨_,rfl⟩
   have HTK:=LH (show (m.tops.map topM).take (k+1)=(m.tops.map topM).take k++[x] by
    rw [hx,hy,List.take_succ_eq_append_getElem (by simpa using hkl),getD_lt hkl]
    simp)
   have hlk:((m.tops.map topM).take k).length=k:=by rw [List.length_take,List.length_map];omega
   have HLK:=LH hlk
   have KT:Hid (∀ (W:World) {v:Value},PlR W v y→Calls Tryz.prog 75 #[v] W (TwinEnd17 x W)):=LH (fun W v hW=>by rw [hx];exact mdlTopic_any hW HSY.out)
   obtain ⟨pl,hpl,hrow,hent⟩:=OT.out
   rw [hlk] at hrow
   have HROW:=LH hrow
   have HPL:=LH hpl
   have HENT:=LH hent
   obtain ⟨an,hna⟩:∃ an,an=y.all.length:=⟨_,rfl⟩
   rw [← hna] at c0 T
   obtain ⟨yb,hyb⟩:∃ yb,yb=y.base:=⟨_,rfl⟩
   obtain ⟨ym,hym⟩:∃ ym,ym=y.mark:=⟨_,rfl⟩
   rw [← hyb] at c1 T
   rw [← hym] at c2 T
   clear hat hTT hx hy hlk hpl hrow hent hna hyb hym
   go_wp2_with fail
   go_region_law (first|(go_simp;go_at_call 75;refine (KT.out _ (T.out.below (by repeat (first|with_reducible (first|exact Below.refl _ _|apply Below.drew|apply below_alloc)|((first|with_reducible refine Below.alloc ?_ ?_ _|with_reducible refine Below.setCell ?_ ?_ _);rotate_left;focus (first|(simp <;> omega)|omega)))))).mono ?_;rintro e w4 ⟨a4,c4,rfl,o4,hb⟩;have HQ4:=LH (Blk.step (Blk.drew (Blk.alloc HQ.out _)) hb);have HX4:=LH (Blk.step (Blk.drew (Blk.new (w:=wr) (t:=105) (cs:=[.slice ea an ecap,.int .i64 yb,.int .i64 ym]) rfl)) hb);have HW4:Hid (Below wr.heap.size wr w4):=below_step (by repeat (first|with_reducible (first|exact Below.refl _ _|apply Below.drew|apply below_alloc)|((first|with_reducible refine Below.alloc ?_ ?_ _|with_reducible refine Below.setCell ?_ ?_ _);rotate_left;focus (first|(simp <;> omega)|omega)))) hb;have O4:=LH (own_base (B':=w.heap.size+3) o4 (by simp;omega));have hz4:wr.heap.size < w4.heap.size:=HX4.out.lt;have hy4:w.heap.size+2 < w4.heap.size:=HQ4.out.lt;obtain ⟨m0,m1,mz⟩:=cells2 HQ4.out;obtain ⟨n0,n1,n2,nz⟩:=cells3 HX4.out;clear hb o4)|(refine step_append_lies _ rfl _ _ 30 rfl (w.heap.size+3) 103 i0 _ 4 48 Tryz.underlying30 hi hz0 hz1 hz2 rfl (by decide) _ k _ rfl ((ownsRow_keep HROW.out HW4.out).alloc _) ⟨w4.heap.size,0,none⟩ 1 1 (topCells (.slice a4 x.ents.length c4,x)) rfl rfl (news_top _ x rfl) (topCells_one _ _ _ x) (by decide) (by unfold maxLen;omega) (by omega) (by simp;omega) _ rfl ?_;intro g5 cap5 w5 hown hgrow hat5 hlt5;have HQ5:=LH (Blk.grown (HQ4.out.alloc _) hgrow (fun e=>by have:=(HROW.out.lt _ e).1;omega));obtain ⟨m0,m1,mz⟩:=cells2 HQ5.out))
   all_goals
    have OT5:Hid (OwnT w5 (w.heap.size+3) (.slice (some ⟨g5,0,none⟩) (k+1) cap5) ((m.tops.map topM).take (k+1))):=by
     rw [HTK.out]
     exact OwnT.snoc2 HPL.out ((ownsRow_keep HROW.out HW4.out).alloc _) (fun p hp=>own_below (own_below (HENT.out p hp) HW4.out) ((Below.refl _ _).alloc (Nat.le_refl _) _)) (own_below O4.out ((Below.refl _ _).alloc (Nat.le_refl _) _)) hgrow hown HLK.out.symm
    have HB5:Hid (Below w.heap.size w w5):=Below.grown ((Below.step HB.out HW4.out (by omega)).alloc (by omega) _) hgrow (by simp;omega) (fun j hj=>by have:=(HROW.out.lt j hj).1;omega)
    have HR5:=LH (Blk.grown ((HR.out.step HW4.out).alloc _) hgrow (fun e=>by have:=(HROW.out.lt _ e).1;omega))
    have hl5:w.heap.size+2 < w5.heap.size:=HQ5.out.lt
    clear hown hgrow
    go_wp2_with fail
    go_roundg (n - (k+1))
    case measure=>omega
    case rel =>
     refine ⟨k+1,some ⟨g5,0,none⟩,cap5,by omega,rfl,by go_num,?_,?_,?_,?_⟩
     ·show OwnT _ _ _ _
      exact OT5.out.far (by omega)
     ·show Below _ _ _
      exact HB5.out.setCell (p:=⟨w.heap.size+2,0,none⟩) (by show w.heap.size≤w.heap.size+2;omega) _
     ·show Blk _ _ _ _
      exact HR5.out.far (by omega) _
     ·show Blk _ _ _ _
      exact HQ5.out.set_ 0 _
  ·obtain rfl:k=n:=by omega
   have hlt':¬ (k:Int) < (k:Int):=by omega
   have e:(m.tops.map topM).take k=m.tops.map topM:=by rw [HN.out,← List.length_map (f:=topM)];exact List.take_length
   have SS:Hid (StrR wr (.agg #[.slice al k capl,.slice b nc cc]) (streamM m)):=LH ⟨_,_,rfl,(by have h:=OT.out.reads;rwa [e] at h),RR.out.below HB.out⟩
   clear e OT
   go_wp2_with fail
   refine Calls.mono (strTwin_any SS.out HFS.out) ?_
   rintro e w6 ⟨ta,tc,rfl,os,hb⟩
   obtain ⟨a6,cap6,b6,nc6,cc6,ev,-,-⟩:=os.reads.shape
   cases ev
   clear r0 r1 rz q0 q1 qz
   replace HB:Hid (Below w.heap.size w _):=below_step (by repeat (first|with_reducible (first|exact HB.out|exact Below.refl _ _|apply Below.drew|apply below_alloc)|((first|with_reducible refine Below.alloc ?_ ?_ _|with_reducible refine Below.setCell ?_ ?_ _);rotate_left;focus (first|(simp <;> omega)|omega)))) hb
   have HR6:=LH (HR.out.step hb)
   have OS:Hid (OwnS w6 (w.heap.size+3) _ (streamM m)):=LH (os.le (by omega))
   have rl6:=HR6.out.lt
   clear hb os
   obtain ⟨r0,r1,rz⟩:=cells2 HR6.out
   go_wp2_with fail
   obtain ⟨t0,t1,-⟩:=cells2 ((HR6.out.set_ 0 (.slice a6 (streamM m).tops.length cap6)).set_ 1 (.slice b6 nc6 cc6))
   refine bodyPost_ret (v:=.agg #[.slice a6 (streamM m).tops.length cap6,.slice b6 nc6 cc6]) (by simp [results,Tryz.results38,go_sem,t0,t1]) rfl ⟨_,_,rfl,?_,?_⟩
   ·exact ((OS.out.le (by omega)).blk HR6.out (by decide) (by decide) (by decide) (by decide)).blk (HR6.out.set_ 0 _) (by decide) (by decide) (by decide) (by decide)
   ·exact (HB.out.setCell (p:=⟨w.heap.size+1,0,none⟩) (by simp) _).setCell (p:=⟨w.heap.size+1,1,none⟩) (by simp) _
end Go.Proofs.YtdfmcgekfogpbabGreatDoor
