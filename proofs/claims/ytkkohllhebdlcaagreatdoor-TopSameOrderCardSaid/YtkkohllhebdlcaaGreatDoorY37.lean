/-
  Proved here: skeen.Apply. No condition but that the clock and the command read. A group under way: its cells, and what they lead to, kept while the gr Memory that turns only where it holds boxes and rows of certain types; Plain and memory: what order.play hands on at each step. Plain: what holds of a clock while order.play goes on; and of a messag
-/
import Derived.Test.YtkkohllhebdlcaaGreatDoorY28
import Derived.Test.YtkkohllhebdlcaaGreatDoorY34
set_option maxRecDepth 100000
namespace Go.Proofs.YtkkohllhebdlcaaGreatDoor
open Go.RowKit
theorem skChk_any {v:Value} {s:Sk} {w:World} (h:SkR w v s):Calls Tryz.prog 52 #[v] w fun e w'=>e=.returned (.int .i64 (if chkS s=true then 0 else 8))∧Below w.heap.size w w':=by
 obtain ⟨a,cap,b,bc,rfl,⟨pl,hpl,hw,hg⟩,hd⟩:=h
 by_cases hh:headS s=true
 ·have h1:=hh
  simp only [headS,Bool.and_eq_true,Bool.not_eq_true',decide_eq_false_iff_not] at h1
  obtain ⟨⟨⟨h1,h2⟩,h3⟩,h4⟩:=h1
  exact skChk_body rfl rfl hpl hw hg hd (by omega) (by omega) (by omega) (by omega) (by rw [chkS,hh];simp [Bool.and_assoc])
 ·rw [if_neg (by rw [chkS];simp [hh])]
  refine skChk_head ?_
  simp only [headS,Bool.and_eq_true,Bool.not_eq_true',decide_eq_false_iff_not] at hh
  omega
theorem OwnMs.le {w:World} {B B':Nat} {v:Value} {l:List PM} (h:OwnMs w B v l) (hB:B'≤B):OwnMs w B' v l:=by
 obtain ⟨pl,h1,h2,h3⟩:=h
 exact ⟨pl,h1,ownsRow_le h2 hB,fun p hp=>ownsRow_le (h3 p hp) hB⟩
def ApEnd (r:Int × Sk × List PM) (w:World) (e:Ending) (w':World):Prop:=∃ v' lv,e=.returned (.tuple #[v',lv,.int .i64 r.1])∧OwnSk w' w.heap.size v' r.2.1∧OwnMs w' w.heap.size lv r.2.2∧Below w.heap.size w w'
set_option maxHeartbeats 16000000 in
set_option maxRecDepth 100000 in
theorem apply_any {v cv:Value} {s:Sk} {c:PC} {group:Int} {w:World} {r:Int × Sk × List PM} (h:SkR w v s) (hc:ComR w cv c) (hr:r=apS group c s) :
  Calls Tryz.prog 30 #[v,.int .i64 group,cv] w (ApEnd r w):=by
 have KC0:Hid (∀ W,Below w.heap.size w W→Calls Tryz.prog 52 #[v] W fun e W'=>e=.returned (.int .i64 (if chkS s=true then 0 else 8))∧Below W.heap.size W W'):=fun W hW=>skChk_any (h.below hW)
 have KM:Hid (∀ W,Below w.heap.size w W→Calls Tryz.prog 47 #[cv] W fun e W'=>e=.returned (.int .i64 (if okCom c=true then 0 else 120))∧Below W.heap.size W W'):=fun W hW=>chkCom_any (hc.below hW) rfl
 have KT:Hid (OkS s→∀ W,Below w.heap.size w W→Calls Tryz.prog 31 #[v] W (SkEnd s W)):=fun ho W hW=>skTwin_any (h.below hW) ho.few
 obtain ⟨q,hq⟩:∃ q,q=chkS s:=⟨_,rfl⟩
 obtain ⟨qc,hqc⟩:∃ qc,qc=okCom c:=⟨_,rfl⟩
 rw [← hq] at KC0
 rw [← hqc] at KM
 have HQ0:=LH hq
 have HQC:=LH hqc
 obtain ⟨ST,hST⟩:∃ ST,ST=stepS group c s:=⟨_,rfl⟩
 have HUP:Hid (OkS s→okCom c=true→idsUp ST.2.waits∧ST.2.waits.length+ST.2.done.length≤1000):=fun h1 h2=>by rw [hST];exact step_up h1 h2
 have HA1:Hid (okCom c=true→c.kind=1→msgB c.msg=true):=okCom_assign
 have HA2:Hid (okCom c=true→c.kind=2→smallI c.id):=okCom_final
 have HST:=LH hST
 have HR:Hid (r=if q=false then (8,skZ,[]) else if group < 0∨4≤group then (2,skZ,[]) else if qc=false then (120,skZ,[]) else if ST.1≠0 then (ST.1,skZ,[]) else endK ST.2):=by rw [hr,apS,hq,hqc,hST];exact LH rfl
 have CR:=LH hc
 obtain ⟨a,c1,b,d1,rfl,-,-⟩:=h
 obtain ⟨ma,mc,mb,bc,rfl,hG,-⟩:=hc
 have HG:=LH hG
 obtain ⟨ck,hck⟩:∃ ck,ck=s.clock:=⟨_,rfl⟩
 obtain ⟨n,hn⟩:∃ n,n=s.waits.length:=⟨_,rfl⟩
 obtain ⟨dn,hdn⟩:∃ dn,dn=s.done.length:=⟨_,rfl⟩
 rw [← hck,← hn,← hdn] at KC0 KT ⊢
 obtain ⟨kd,⟨i1,gl,t1,k1,bo⟩,ci,ct,ml,cp,cw,cn⟩:=c
 simp only at KM HG ⊢
 obtain ⟨gn,hgn⟩:∃ gn,gn=gl.length:=⟨_,rfl⟩
 obtain ⟨mn,hmn⟩:∃ mn,mn=ml.length:=⟨_,rfl⟩
 rw [← hgn] at HG
 rw [← hgn,← hmn] at KM ⊢
 have HCK:=LH hck
 have HN:=LH hn
 have HDN:=LH hdn
 have HGN:=LH hgn
 clear hr hST hq hqc hG hck hn hdn hgn hmn
 go_enter Tryz.func30,Tryz.ntmps30
 go_wp2_with fail
 refine (KC0.out _ (by repeat (first|with_reducible (first|exact Below.refl _ _|apply Below.drew|apply below_alloc)|((first|with_reducible refine Below.alloc ?_ ?_ _|with_reducible refine Below.setCell ?_ ?_ _);rotate_left;focus (first|(simp <;> omega)|omega))))).mono ?_
 rintro e w1 ⟨rfl,hb⟩
 have HX1:Hid (Below w.heap.size w _):=below_step (by repeat (first|with_reducible (first|exact Below.refl _ _|apply Below.drew|apply below_alloc)|((first|with_reducible refine Below.alloc ?_ ?_ _|with_reducible refine Below.setCell ?_ ?_ _);rotate_left;focus (first|(simp <;> omega)|omega)))) hb
 have HS1:Hid (Blk w1 w.heap.size 32 [.int .i64 ck,.slice a n c1,.slice b dn d1]):=LH (Blk.step (by repeat (first|with_reducible exact Blk.new rfl|((with_reducible apply Blk.new);focus (first|rfl|(simp <;> omega)))|with_reducible (first|apply Blk.drew|apply Blk.alloc|apply Blk.set_)|((with_reducible apply Blk.far);rotate_left;focus (first|(simp <;> omega)|omega)))) hb)
 have HC1:Hid (Blk w1 (w.heap.size+1) 58 [.int .u8 kd,.int .i64 i1,.slice ma gn mc,.int .i64 t1,.string k1,.string bo,.int .i64 ci,.int .i64 ct,.slice mb mn bc,.int .i64 cp,.int .i64 cw,.int .i64 cn]):=LH (Blk.step (by repeat (first|with_reducible exact Blk.new rfl|((with_reducible apply Blk.new);focus (first|rfl|(simp <;> omega)))|with_reducible (first|apply Blk.drew|apply Blk.alloc|apply Blk.set_)|((with_reducible apply Blk.far);rotate_left;focus (first|(simp <;> omega)|omega)))) hb)
 have HZ1:Hid (Blk w1 (w.heap.size+2) 32 [.int .i64 0,.slice none 0 0,.slice none 0 0]):=LH (Blk.step (by repeat (first|with_reducible exact Blk.new rfl|((with_reducible apply Blk.new);focus (first|rfl|(simp <;> omega)))|with_reducible (first|apply Blk.drew|apply Blk.alloc|apply Blk.set_)|((with_reducible apply Blk.far);rotate_left;focus (first|(simp <;> omega)|omega)))) hb)
 clear hb KC0
 obtain ⟨s0,s1,s2,sz⟩:=cells3 HS1.out
 obtain ⟨⟨⟨p0,p1,p2,p3⟩,⟨p4,p5,p6,p7⟩,p8,p9,p10,p11⟩,pz⟩:=cells12 HC1.out
 obtain ⟨z0,z1,z2,zz⟩:=cells3 HZ1.out
 have zl:=HZ1.out.lt
 cases q
 case false =>
  go_wp2_with fail
  have e:r=(8,skZ,[]):=by rw [HR.out];rfl
  obtain ⟨t0,t1,t2,-⟩:=cells3 (((HZ1.out.set_ 0 (.int .i64 0)).set_ 1 (.slice none 0 0)).set_ 2 (.slice none 0 0))
  refine bodyPost_ret (v:=.tuple #[.agg #[.int .i64 0,.slice none 0 0,.slice none 0 0],.slice none 0 0,.int .i64 8]) (by simp [results,Tryz.results30,go_sem,t0,t1,t2]) rfl ⟨_,_,by rw [e],by rw [e];exact ⟨none,0,none,0,rfl,OwnW.nil _ _,OwnD.nil _ _⟩,by rw [e];exact OwnMs.nil _ _,?_⟩
  exact ((HX1.out.setCell (p:=⟨w.heap.size+2,_,none⟩) (Nat.le_add_right _ 2) _).setCell (p:=⟨w.heap.size+2,_,none⟩) (Nat.le_add_right _ 2) _).setCell (p:=⟨w.heap.size+2,_,none⟩) (Nat.le_add_right _ 2) _
 have OK:=chkS_ok HQ0.out.symm
 have HOK:=LH OK
 clear OK
 by_cases g1:group < 0
 ·have HG1:=LH g1
  go_wp2_with fail
  have e:r=(2,skZ,[]):=by rw [HR.out,if_neg (by simp),if_pos (Or.inl HG1.out)]
  obtain ⟨t0,t1,t2,-⟩:=cells3 (((HZ1.out.set_ 0 (.int .i64 0)).set_ 1 (.slice none 0 0)).set_ 2 (.slice none 0 0))
  refine bodyPost_ret (v:=.tuple #[.agg #[.int .i64 0,.slice none 0 0,.slice none 0 0],.slice none 0 0,.int .i64 2]) (by simp [results,Tryz.results30,go_sem,t0,t1,t2]) rfl ⟨_,_,by rw [e],by rw [e];exact ⟨none,0,none,0,rfl,OwnW.nil _ _,OwnD.nil _ _⟩,by rw [e];exact OwnMs.nil _ _,?_⟩
  exact ((HX1.out.setCell (p:=⟨w.heap.size+2,_,none⟩) (Nat.le_add_right _ 2) _).setCell (p:=⟨w.heap.size+2,_,none⟩) (Nat.le_add_right _ 2) _).setCell (p:=⟨w.heap.size+2,_,none⟩) (Nat.le_add_right _ 2) _
 by_cases g2:4≤group
 ·have HG2:=LH g2
  go_wp2_with fail
  have e:r=(2,skZ,[]):=by rw [HR.out,if_neg (by simp),if_pos (Or.inr HG2.out)]
  obtain ⟨t0,t1,t2,-⟩:=cells3 (((HZ1.out.set_ 0 (.int .i64 0)).set_ 1 (.slice none 0 0)).set_ 2 (.slice none 0 0))
  refine bodyPost_ret (v:=.tuple #[.agg #[.int .i64 0,.slice none 0 0,.slice none 0 0],.slice none 0 0,.int .i64 2]) (by simp [results,Tryz.results30,go_sem,t0,t1,t2]) rfl ⟨_,_,by rw [e],by rw [e];exact ⟨none,0,none,0,rfl,OwnW.nil _ _,OwnD.nil _ _⟩,by rw [e];exact OwnMs.nil _ _,?_⟩
  exact ((HX1.out.setCell (p:=⟨w.heap.size+2,_,none⟩) (Nat.le_add_right _ 2) _).setCell (p:=⟨w.heap.size+2,_,none⟩) (Nat.le_add_right _ 2) _).setCell (p:=⟨w.heap.size+2,_,none⟩) (Nat.le_add_right _ 2) _
 have HGR:Hid (¬ (group < 0∨4≤group)):=LH (fun h=>h.elim g1 g2)
 go_wp2_with fail
 refine (KM.out _ (by repeat (first|with_reducible (first|exact HX1.out|exact Below.refl _ _|apply Below.drew|apply below_alloc)|((first|with_reducible refine Below.alloc ?_ ?_ _|with_reducible refine Below.setCell ?_ ?_ _);rotate_left;focus (first|(simp <;> omega)|omega))))).mono ?_
 rintro e w2 ⟨rfl,hb⟩
 have HX2:Hid (Below w.heap.size w _):=below_step (by repeat (first|with_reducible (first|exact HX1.out|exact Below.refl _ _|apply Below.drew|apply below_alloc)|((first|with_reducible refine Below.alloc ?_ ?_ _|with_reducible refine Below.setCell ?_ ?_ _);rotate_left;focus (first|(simp <;> omega)|omega)))) hb
 have HXX:Hid (Below w1.heap.size w1 w2):=below_step (by repeat (first|with_reducible (first|exact Below.refl _ _|apply Below.drew|apply below_alloc)|((first|with_reducible refine Below.alloc ?_ ?_ _|with_reducible refine Below.setCell ?_ ?_ _);rotate_left;focus (first|(simp <;> omega)|omega)))) hb
 have HS2:=LH (HS1.out.step HXX.out)
 have HC2:=LH (HC1.out.step HXX.out)
 have HZ2:=LH (HZ1.out.step HXX.out)
 clear hb KM s0 s1 s2 sz p0 p1 p2 p3 p4 p5 p6 p7 p8 p9 p10 p11 pz z0 z1 z2 zz zl HS1 HC1 HZ1 HX1 HXX
 obtain ⟨s0,s1,s2,sz⟩:=cells3 HS2.out
 obtain ⟨⟨⟨p0,p1,p2,p3⟩,⟨p4,p5,p6,p7⟩,p8,p9,p10,p11⟩,pz⟩:=cells12 HC2.out
 obtain ⟨z0,z1,z2,zz⟩:=cells3 HZ2.out
 have zl:=HZ2.out.lt
 cases qc
 case false =>
  go_wp2_with fail
  have e:r=(120,skZ,[]):=by rw [HR.out,if_neg (by simp),if_neg HGR.out];rfl
  obtain ⟨t0,t1,t2,-⟩:=cells3 (((HZ2.out.set_ 0 (.int .i64 0)).set_ 1 (.slice none 0 0)).set_ 2 (.slice none 0 0))
  refine bodyPost_ret (v:=.tuple #[.agg #[.int .i64 0,.slice none 0 0,.slice none 0 0],.slice none 0 0,.int .i64 120]) (by simp [results,Tryz.results30,go_sem,t0,t1,t2]) rfl ⟨_,_,by rw [e],by rw [e];exact ⟨none,0,none,0,rfl,OwnW.nil _ _,OwnD.nil _ _⟩,by rw [e];exact OwnMs.nil _ _,?_⟩
  exact ((HX2.out.setCell (p:=⟨w.heap.size+2,_,none⟩) (Nat.le_add_right _ 2) _).setCell (p:=⟨w.heap.size+2,_,none⟩) (Nat.le_add_right _ 2) _).setCell (p:=⟨w.heap.size+2,_,none⟩) (Nat.le_add_right _ 2) _
 go_wp2_with fail
 refine (KT.out HOK.out _ (by repeat (first|with_reducible (first|exact HX2.out|exact Below.refl _ _|apply Below.drew|apply below_alloc)|((first|with_reducible refine Below.alloc ?_ ?_ _|with_reducible refine Below.setCell ?_ ?_ _);rotate_left;focus (first|(simp <;> omega)|omega))))).mono ?_
 rintro e w3 ⟨v3,rfl,⟨a3,c3,b3,d3,rfl,ow,od⟩,hb⟩
 have HX3:Hid (Below w2.heap.size w2 w3):=below_step (by repeat (first|with_reducible (first|exact Below.refl _ _|apply Below.drew|apply below_alloc)|((first|with_reducible refine Below.alloc ?_ ?_ _|with_reducible refine Below.setCell ?_ ?_ _);rotate_left;focus (first|(simp <;> omega)|omega)))) hb
 rw [← HN.out] at ow ⊢
 rw [← HDN.out] at od ⊢
 have OW:=LH ow
 have OD:=LH od
 have HC3:=LH (HC2.out.step HX3.out)
 have HZ3:=LH (HZ2.out.step HX3.out)
 clear hb ow od s0 s1 s2 sz p0 p1 p2 p3 p4 p5 p6 p7 p8 p9 p10 p11 pz z0 z1 z2 zz zl KT HS2 HC2 g1 g2
 obtain ⟨⟨⟨p0,p1,p2,p3⟩,⟨p4,p5,p6,p7⟩,p8,p9,p10,p11⟩,pz⟩:=cells12 HC3.out
 have pl3:=HC3.out.lt
 obtain ⟨hup,hln⟩:=HUP.out HOK.out HQC.out.symm
 have HU:=LH hup
 have HL:=LH hln
 have HA1':=LH (HA1.out HQC.out.symm)
 have HA2':=LH (HA2.out HQC.out.symm)
 clear hup hln HUP HA1 HA2
 obtain ⟨x,s'⟩:=ST
 have HRR:Hid (r=if x≠0 then (x,skZ,[]) else endK s'):=by rw [HR.out,if_neg (by simp),if_neg HGR.out,if_neg (by simp)];exact LH rfl
 simp only at HU HL
 go_upto_region 10 with fail
 have HK4:Hid (Ck (w3.alloc (.cells #[.int .i64 s.clock,.slice a3 n c3,.slice b3 dn d3] 130)) w2.heap.size w3.heap.size s):=by
  obtain ⟨pl,e1,e2,e3⟩:=OW.out
  have e4:=OD.out
  have hA:Below w3.heap.size w3 (w3.alloc (.cells #[.int .i64 s.clock,.slice a3 n c3,.slice b3 dn d3] 130)):=(Below.refl _ _).alloc (Nat.le_refl _) _
  rw [HN.out] at e2 hA ⊢
  rw [HDN.out] at e4 hA ⊢
  exact LH ⟨pl,a3,c3,b3,d3,e1,Blk.new rfl,ownsRow_keep e2 hA,fun p hp=>ownsRow_keep (e3 p hp) hA,ownsRow_keep e4 hA⟩
 have HB4:Hid (Below w2.heap.size w2 (w3.alloc (.cells #[.int .i64 s.clock,.slice a3 n c3,.slice b3 dn d3] 130))):=LH (HX3.out.alloc HX3.out.size _)
 have HC4:=LH (HC3.out.alloc (.cells #[.int .i64 s.clock,.slice a3 n c3,.slice b3 dn d3] 130))
 clear p0 p1 p2 p3 p4 p5 p6 p7 p8 p9 p10 p11 pz pl3 HC3 HZ3 OW OD
 generalize w3.alloc (.cells #[.int .i64 s.clock,.slice a3 n c3,.slice b3 dn d3] 130)=w4 at HK4 HB4 HC4 ⊢
 obtain ⟨⟨⟨p0,p1,p2,p3⟩,⟨p4,p5,p6,p7⟩,p8,p9,p10,p11⟩,pz⟩:=cells12 HC4.out
 have pl4:=HC4.out.lt
 have hg3:=HX3.out.size
 have zl2:=HZ2.out.lt
 by_cases hk1:kd=1
 ·have KA:Hid (Calls Tryz.prog 53 #[.pointer (some ⟨w3.heap.size,0,none⟩),.int .i64 group,.agg #[.int .i64 i1,.slice ma gn mc,.int .i64 t1,.string k1,.string bo]] w4 (CkEnd w2 w3.heap.size (x,s'))) :=
   assign_any (m:=⟨i1,gl,t1,k1,bo⟩) HK4.out HB4.out hg3 ⟨ma,mc,by rw [HGN.out],by have:=HG.out.below HX2.out;rw [HGN.out] at this;exact this⟩ HOK.out.up (msgB_id (HA1'.out hk1)) (by have:=HOK.out.w;omega) HOK.out.c0 HOK.out.c1 (by have:=msgB_groups (HA1'.out hk1);omega) (by rw [HST.out,stepS,if_pos hk1])
  have hkb:(kd == 1)=true:=by simpa using hk1
  clear hk1
  go_wp2_with fail
  refine KA.out.mono ?_
  rintro e w5 ⟨rfl,hk5,hb5⟩
  have HK5:=LH hk5
  have HB5:=LH hb5
  have HZ5:=LH (HZ2.out.below hb5 zl2)
  obtain ⟨z0,z1,z2,zz⟩:=cells3 HZ5.out
  have zl:=HZ5.out.lt
  clear hk5 hb5 KA HK4 HB4 HC4 p0 p1 p2 p3 p4 p5 p6 p7 p8 p9 p10 p11 pz pl4
  by_cases hx:x=0
  ·subst hx
   obtain ⟨⟨⟨dk,dw,dd⟩,om⟩,hD⟩:∃ D,D=delS s'.waits.length s' []:=⟨_,rfl⟩
   have KD:Hid (Calls Tryz.prog 55 #[.pointer (some ⟨w3.heap.size,0,none⟩)] w5 (DlvEnd w2 w3.heap.size (⟨dk,dw,dd⟩,om))):=deliver_any HK5.out HB5.out hg3 HU.out (Nat.le_trans HL.out (by decide)) hD
   have HE:Hid (r=if 200 < dd.length then (9,skZ,[]) else (0,⟨dk,dw,dd⟩,om)):=by rw [HRR.out,if_neg (by simp),endK,← hD];exact LH rfl
   clear hD HRR HR HU HL
   go_wp2_with fail
   refine KD.out.mono ?_
   rintro e w6 ⟨al,cl,rfl,hom,⟨pl,a6,c6,b6,d6,e1,e2,e3,e4,e5⟩,hb6⟩
   simp only at hom e1 e2 e3 e5
   obtain ⟨z0,z1,z2,zz⟩:=cells3 (HZ2.out.below hb6 zl2)
   obtain ⟨q0,q1,q2,qz⟩:=cells3 e2
   have HZ6:=LH (HZ2.out.below hb6 zl2)
   have HX6:=LH (Below.step HX2.out hb6 HX2.out.size)
   have E1:=LH e1
   have E2:=LH e2
   have E3:=LH e3
   have E4:=LH e4
   have E5:=LH e5
   have OM:=LH hom
   have zl:=HZ6.out.lt
   have ql:=e2.lt
   have hle:=HX2.out.size
   simp only
   clear hom e1 e2 e3 e4 e5 hb6 KD
   by_cases hd:200 < dd.length
   ·have hd1:(200:Int) < (dd.length:Int):=by omega
    have HDD:=LH hd
    clear hd
    go_wp2_with fail
    have e:r=(9,skZ,[]):=by rw [HE.out,if_pos HDD.out]
    obtain ⟨t0,t1,t2,-⟩:=cells3 (((HZ6.out.set_ 0 (.int .i64 0)).set_ 1 (.slice none 0 0)).set_ 2 (.slice none 0 0))
    refine bodyPost_ret (v:=.tuple #[.agg #[.int .i64 0,.slice none 0 0,.slice none 0 0],.slice none 0 0,.int .i64 9]) (by simp [results,Tryz.results30,go_sem,t0,t1,t2]) rfl ⟨_,_,by rw [e],by rw [e];exact ⟨none,0,none,0,rfl,OwnW.nil _ _,OwnD.nil _ _⟩,by rw [e];exact OwnMs.nil _ _,?_⟩
    exact ((HX6.out.setCell (p:=⟨w.heap.size+2,_,none⟩) (Nat.le_add_right _ 2) _).setCell (p:=⟨w.heap.size+2,_,none⟩) (Nat.le_add_right _ 2) _).setCell (p:=⟨w.heap.size+2,_,none⟩) (Nat.le_add_right _ 2) _
   ·have hd1:¬ (200:Int) < (dd.length:Int):=by omega
    have HDD:=LH hd
    clear hd
    go_wp2_with fail
    have e:r=(0,⟨dk,dw,dd⟩,om):=by rw [HE.out,if_neg HDD.out]
    have hq:=HZ6.out
    obtain ⟨t0,t1,t2,-⟩:=cells3 (((hq.set_ 0 (.int .i64 dk)).set_ 1 (.slice a6 dw.length c6)).set_ 2 (.slice b6 dd.length d6))
    have hfar:∀ b,b≠w.heap.size+2→(((w6.setCell ⟨w.heap.size+2,0,none⟩ (.int .i64 dk)).setCell ⟨w.heap.size+2,1,none⟩ (.slice a6 dw.length c6)).setCell ⟨w.heap.size+2,2,none⟩ (.slice b6 dd.length d6)).heap[b]?=w6.heap[b]?:=fun b hb=>(heap_set _ _ _ _ b hb).trans ((heap_set _ _ _ _ b hb).trans (heap_set _ _ _ _ b hb))
    have f3:=ownsRow_le (row_far E3.out hfar (row_blk E3.out hq (by decide))) hle
    have f4:=fun p hp=>ownsRow_le (row_far (E4.out p hp) hfar (row_blk (E4.out p hp) hq (by decide))) hle
    have f5:=ownsRow_le (row_far E5.out hfar (row_blk E5.out hq (by decide))) hle
    have f6:=(OM.out.blk hq hfar (by decide) (by decide)).le hle
    refine bodyPost_ret (v:=.tuple #[.agg #[.int .i64 dk,.slice a6 dw.length c6,.slice b6 dd.length d6],.slice al om.length cl,.int .i64 0]) (by simp [results,Tryz.results30,go_sem,t0,t1,t2]) rfl ⟨_,_,by rw [e],by rw [e];exact ⟨a6,c6,b6,d6,rfl,⟨pl,E1.out,f3,f4⟩,f5⟩,by rw [e];exact f6,?_⟩
    exact ((HX6.out.setCell (p:=⟨w.heap.size+2,_,none⟩) (Nat.le_add_right _ 2) _).setCell (p:=⟨w.heap.size+2,_,none⟩) (Nat.le_add_right _ 2) _).setCell (p:=⟨w.heap.size+2,_,none⟩) (Nat.le_add_right _ 2) _
  ·have hxb:(x == 0)=false:=by simpa using hx
   have HXN:=LH hx
   have HX5:=LH (Below.step HX2.out (HB5.out) HX2.out.size)
   clear hx
   go_wp2_with fail
   have e:r=(x,skZ,[]):=by rw [HRR.out,if_pos HXN.out]
   obtain ⟨t0,t1,t2,-⟩:=cells3 (((HZ5.out.set_ 0 (.int .i64 0)).set_ 1 (.slice none 0 0)).set_ 2 (.slice none 0 0))
   refine bodyPost_ret (v:=.tuple #[.agg #[.int .i64 0,.slice none 0 0,.slice none 0 0],.slice none 0 0,.int .i64 x]) (by simp [results,Tryz.results30,go_sem,t0,t1,t2]) rfl ⟨_,_,by rw [e],by rw [e];exact ⟨none,0,none,0,rfl,OwnW.nil _ _,OwnD.nil _ _⟩,by rw [e];exact OwnMs.nil _ _,?_⟩
   exact ((HX5.out.setCell (p:=⟨w.heap.size+2,_,none⟩) (Nat.le_add_right _ 2) _).setCell (p:=⟨w.heap.size+2,_,none⟩) (Nat.le_add_right _ 2) _).setCell (p:=⟨w.heap.size+2,_,none⟩) (Nat.le_add_right _ 2) _
 ·by_cases hk2:kd=2
  ·have hx0:x=0∧s'=finalS ci ct s:=by have:=HST.out;rw [stepS,if_neg hk1,if_pos hk2] at this;simpa using this
   have KF:Hid (Calls Tryz.prog 54 #[.pointer (some ⟨w3.heap.size,0,none⟩),.int .i64 ci,.int .i64 ct] w4 (FinEnd w2 w3.heap.size s')) :=
    final_any HK4.out HB4.out hg3 HOK.out.up (HA2'.out hk2) (by have:=HOK.out.w;omega) hx0.2
   have HX0:=LH hx0.1
   have hkb:(kd == 1)=false:=by simpa using hk1
   have hkc:(kd == 2)=true:=by simpa using hk2
   clear hk1 hk2 hx0
   go_wp2_with fail
   refine KF.out.mono ?_
   rintro e w5 ⟨rfl,hk5,hb5⟩
   have HK5:=LH hk5
   have HB5:=LH hb5
   clear hk5 hb5
   have hx0:=HX0.out
   subst hx0
   obtain ⟨⟨⟨dk,dw,dd⟩,om⟩,hD⟩:∃ D,D=delS s'.waits.length s' []:=⟨_,rfl⟩
   have KD:Hid (Calls Tryz.prog 55 #[.pointer (some ⟨w3.heap.size,0,none⟩)] w5 (DlvEnd w2 w3.heap.size (⟨dk,dw,dd⟩,om))):=deliver_any HK5.out HB5.out hg3 HU.out (Nat.le_trans HL.out (by decide)) hD
   have HE:Hid (r=if 200 < dd.length then (9,skZ,[]) else (0,⟨dk,dw,dd⟩,om)):=by rw [HRR.out,if_neg (by simp),endK,← hD];exact LH rfl
   clear hD HRR HR HU HL
   go_wp2_with fail
   refine KD.out.mono ?_
   rintro e w6 ⟨al,cl,rfl,hom,⟨pl,a6,c6,b6,d6,e1,e2,e3,e4,e5⟩,hb6⟩
   simp only at hom e1 e2 e3 e5
   obtain ⟨z0,z1,z2,zz⟩:=cells3 (HZ2.out.below hb6 zl2)
   obtain ⟨q0,q1,q2,qz⟩:=cells3 e2
   have HZ6:=LH (HZ2.out.below hb6 zl2)
   have HX6:=LH (Below.step HX2.out hb6 HX2.out.size)
   have E1:=LH e1
   have E2:=LH e2
   have E3:=LH e3
   have E4:=LH e4
   have E5:=LH e5
   have OM:=LH hom
   have zl:=HZ6.out.lt
   have ql:=e2.lt
   have hle:=HX2.out.size
   simp only
   clear hom e1 e2 e3 e4 e5 hb6 KD
   by_cases hd:200 < dd.length
   ·have hd1:(200:Int) < (dd.length:Int):=by omega
    have HDD:=LH hd
    clear hd
    go_wp2_with fail
    have e:r=(9,skZ,[]):=by rw [HE.out,if_pos HDD.out]
    obtain ⟨t0,t1,t2,-⟩:=cells3 (((HZ6.out.set_ 0 (.int .i64 0)).set_ 1 (.slice none 0 0)).set_ 2 (.slice none 0 0))
    refine bodyPost_ret (v:=.tuple #[.agg #[.int .i64 0,.slice none 0 0,.slice none 0 0],.slice none 0 0,.int .i64 9]) (by simp [results,Tryz.results30,go_sem,t0,t1,t2]) rfl ⟨_,_,by rw [e],by rw [e];exact ⟨none,0,none,0,rfl,OwnW.nil _ _,OwnD.nil _ _⟩,by rw [e];exact OwnMs.nil _ _,?_⟩
    exact ((HX6.out.setCell (p:=⟨w.heap.size+2,_,none⟩) (Nat.le_add_right _ 2) _).setCell (p:=⟨w.heap.size+2,_,none⟩) (Nat.le_add_right _ 2) _).setCell (p:=⟨w.heap.size+2,_,none⟩) (Nat.le_add_right _ 2) _
   ·have hd1:¬ (200:Int) < (dd.length:Int):=by omega
    have HDD:=LH hd
    clear hd
    go_wp2_with fail
    have e:r=(0,⟨dk,dw,dd⟩,om):=by rw [HE.out,if_neg HDD.out]
    have hq:=HZ6.out
    obtain ⟨t0,t1,t2,-⟩:=cells3 (((hq.set_ 0 (.int .i64 dk)).set_ 1 (.slice a6 dw.length c6)).set_ 2 (.slice b6 dd.length d6))
    have hfar:∀ b,b≠w.heap.size+2→(((w6.setCell ⟨w.heap.size+2,0,none⟩ (.int .i64 dk)).setCell ⟨w.heap.size+2,1,none⟩ (.slice a6 dw.length c6)).setCell ⟨w.heap.size+2,2,none⟩ (.slice b6 dd.length d6)).heap[b]?=w6.heap[b]?:=fun b hb=>(heap_set _ _ _ _ b hb).trans ((heap_set _ _ _ _ b hb).trans (heap_set _ _ _ _ b hb))
    have f3:=ownsRow_le (row_far E3.out hfar (row_blk E3.out hq (by decide))) hle
    have f4:=fun p hp=>ownsRow_le (row_far (E4.out p hp) hfar (row_blk (E4.out p hp) hq (by decide))) hle
    have f5:=ownsRow_le (row_far E5.out hfar (row_blk E5.out hq (by decide))) hle
    have f6:=(OM.out.blk hq hfar (by decide) (by decide)).le hle
    refine bodyPost_ret (v:=.tuple #[.agg #[.int .i64 dk,.slice a6 dw.length c6,.slice b6 dd.length d6],.slice al om.length cl,.int .i64 0]) (by simp [results,Tryz.results30,go_sem,t0,t1,t2]) rfl ⟨_,_,by rw [e],by rw [e];exact ⟨a6,c6,b6,d6,rfl,⟨pl,E1.out,f3,f4⟩,f5⟩,by rw [e];exact f6,?_⟩
    exact ((HX6.out.setCell (p:=⟨w.heap.size+2,_,none⟩) (Nat.le_add_right _ 2) _).setCell (p:=⟨w.heap.size+2,_,none⟩) (Nat.le_add_right _ 2) _).setCell (p:=⟨w.heap.size+2,_,none⟩) (Nat.le_add_right _ 2) _
  ·have hx0:x=0∧s'=s:=by have:=HST.out;rw [stepS,if_neg hk1,if_neg hk2] at this;simpa using this
   obtain ⟨h1,h2⟩:=hx0
   subst h2
   have HX0:=LH h1
   have hkb:(kd == 1)=false:=by simpa using hk1
   have hkc:(kd == 2)=false:=by simpa using hk2
   clear hk1 hk2 h1
   have hx0:=HX0.out
   subst hx0
   obtain ⟨⟨⟨dk,dw,dd⟩,om⟩,hD⟩:∃ D,D=delS s'.waits.length s' []:=⟨_,rfl⟩
   have KD:Hid (Calls Tryz.prog 55 #[.pointer (some ⟨w3.heap.size,0,none⟩)] w4 (DlvEnd w2 w3.heap.size (⟨dk,dw,dd⟩,om))):=deliver_any HK4.out HB4.out hg3 HU.out (Nat.le_trans HL.out (by decide)) hD
   have HE:Hid (r=if 200 < dd.length then (9,skZ,[]) else (0,⟨dk,dw,dd⟩,om)):=by rw [HRR.out,if_neg (by simp),endK,← hD];exact LH rfl
   clear hD HRR HR HU HL
   go_wp2_with fail
   refine KD.out.mono ?_
   rintro e w6 ⟨al,cl,rfl,hom,⟨pl,a6,c6,b6,d6,e1,e2,e3,e4,e5⟩,hb6⟩
   simp only at hom e1 e2 e3 e5
   obtain ⟨z0,z1,z2,zz⟩:=cells3 (HZ2.out.below hb6 zl2)
   obtain ⟨q0,q1,q2,qz⟩:=cells3 e2
   have HZ6:=LH (HZ2.out.below hb6 zl2)
   have HX6:=LH (Below.step HX2.out hb6 HX2.out.size)
   have E1:=LH e1
   have E2:=LH e2
   have E3:=LH e3
   have E4:=LH e4
   have E5:=LH e5
   have OM:=LH hom
   have zl:=HZ6.out.lt
   have ql:=e2.lt
   have hle:=HX2.out.size
   simp only
   clear hom e1 e2 e3 e4 e5 hb6 KD
   by_cases hd:200 < dd.length
   ·have hd1:(200:Int) < (dd.length:Int):=by omega
    have HDD:=LH hd
    clear hd
    go_wp2_with fail
    have e:r=(9,skZ,[]):=by rw [HE.out,if_pos HDD.out]
    obtain ⟨t0,t1,t2,-⟩:=cells3 (((HZ6.out.set_ 0 (.int .i64 0)).set_ 1 (.slice none 0 0)).set_ 2 (.slice none 0 0))
    refine bodyPost_ret (v:=.tuple #[.agg #[.int .i64 0,.slice none 0 0,.slice none 0 0],.slice none 0 0,.int .i64 9]) (by simp [results,Tryz.results30,go_sem,t0,t1,t2]) rfl ⟨_,_,by rw [e],by rw [e];exact ⟨none,0,none,0,rfl,OwnW.nil _ _,OwnD.nil _ _⟩,by rw [e];exact OwnMs.nil _ _,?_⟩
    exact ((HX6.out.setCell (p:=⟨w.heap.size+2,_,none⟩) (Nat.le_add_right _ 2) _).setCell (p:=⟨w.heap.size+2,_,none⟩) (Nat.le_add_right _ 2) _).setCell (p:=⟨w.heap.size+2,_,none⟩) (Nat.le_add_right _ 2) _
   ·have hd1:¬ (200:Int) < (dd.length:Int):=by omega
    have HDD:=LH hd
    clear hd
    go_wp2_with fail
    have e:r=(0,⟨dk,dw,dd⟩,om):=by rw [HE.out,if_neg HDD.out]
    have hq:=HZ6.out
    obtain ⟨t0,t1,t2,-⟩:=cells3 (((hq.set_ 0 (.int .i64 dk)).set_ 1 (.slice a6 dw.length c6)).set_ 2 (.slice b6 dd.length d6))
    have hfar:∀ b,b≠w.heap.size+2→(((w6.setCell ⟨w.heap.size+2,0,none⟩ (.int .i64 dk)).setCell ⟨w.heap.size+2,1,none⟩ (.slice a6 dw.length c6)).setCell ⟨w.heap.size+2,2,none⟩ (.slice b6 dd.length d6)).heap[b]?=w6.heap[b]?:=fun b hb=>(heap_set _ _ _ _ b hb).trans ((heap_set _ _ _ _ b hb).trans (heap_set _ _ _ _ b hb))
    have f3:=ownsRow_le (row_far E3.out hfar (row_blk E3.out hq (by decide))) hle
    have f4:=fun p hp=>ownsRow_le (row_far (E4.out p hp) hfar (row_blk (E4.out p hp) hq (by decide))) hle
    have f5:=ownsRow_le (row_far E5.out hfar (row_blk E5.out hq (by decide))) hle
    have f6:=(OM.out.blk hq hfar (by decide) (by decide)).le hle
    refine bodyPost_ret (v:=.tuple #[.agg #[.int .i64 dk,.slice a6 dw.length c6,.slice b6 dd.length d6],.slice al om.length cl,.int .i64 0]) (by simp [results,Tryz.results30,go_sem,t0,t1,t2]) rfl ⟨_,_,by rw [e],by rw [e];exact ⟨a6,c6,b6,d6,rfl,⟨pl,E1.out,f3,f4⟩,f5⟩,by rw [e];exact f6,?_⟩
    exact ((HX6.out.setCell (p:=⟨w.heap.size+2,_,none⟩) (Nat.le_add_right _ 2) _).setCell (p:=⟨w.heap.size+2,_,none⟩) (Nat.le_add_right _ 2) _).setCell (p:=⟨w.heap.size+2,_,none⟩) (Nat.le_add_right _ 2) _
def Kp (g b:Nat) (w w':World):Prop:=w.heap.size≤w'.heap.size∧∀ k,k < w.heap.size→k≠g→k≠b→w'.heap[k]?=w.heap[k]?
theorem Kp.refl (g b:Nat) (w:World):Kp g b w w:=⟨Nat.le_refl _,fun _ _ _ _=>rfl⟩
theorem Kp.trans {g b:Nat} {u v w:World} (h:Kp g b u v) (h':Kp g b v w):Kp g b u w :=
 ⟨Nat.le_trans h.1 h'.1,fun k hk h1 h2=>(h'.2 k (Nat.lt_of_lt_of_le hk h.1) h1 h2).trans (h.2 k hk h1 h2)⟩
theorem Kp.below {g b:Nat} {w w':World} (h:Below w.heap.size w w'):Kp g b w w':=⟨h.size,fun k hk _ _=>h.block k hk⟩
theorem Kp.set1 {g b o:Nat} {w:World} {v:Value}:Kp g b w (w.setCell ⟨g,o,none⟩ v):=⟨by simp,fun k _ h1 _=>heap_set w g o v k h1⟩
theorem Kp.set2 {g b o:Nat} {w:World} {v:Value}:Kp g b w (w.setCell ⟨b,o,none⟩ v):=⟨by simp,fun k _ _ h2=>heap_set w b o v k h2⟩
def notTk (w:World) (k:Nat):Prop:=∀ cur fr,w.heap[k]?≠some (.cells cur 48 fr)
def Kw (g b:Nat) (w w':World):Prop:=w.heap.size≤w'.heap.size∧∀ k,k < w.heap.size→k≠g→k≠b→notTk w k→w'.heap[k]?=w.heap[k]?
theorem Kp.weak {g b:Nat} {w w':World} (h:Kp g b w w'):Kw g b w w':=⟨h.1,fun k h1 h2 h3 _=>h.2 k h1 h2 h3⟩
theorem Kw.refl (g b:Nat) (w:World):Kw g b w w:=(Kp.refl g b w).weak
theorem Kw.below {g b:Nat} {w w':World} (h:Below w.heap.size w w'):Kw g b w w':=(Kp.below h).weak
theorem Kw.trans {g b:Nat} {u v w:World} (h:Kw g b u v) (h':Kw g b v w):Kw g b u w :=
 ⟨Nat.le_trans h.1 h'.1,fun k hk h1 h2 h3=>(h'.2 k (Nat.lt_of_lt_of_le hk h.1) h1 h2 (fun c f e=>h3 c f ((h.2 k hk h1 h2 h3).symm.trans e))).trans (h.2 k hk h1 h2 h3)⟩
theorem Kw.took {g b:Nat} {w w':World} {row:Option Nat} (h:w.grownBy w' row) (hr:∀ k,row=some k→k < w.heap.size→∃ cur fr,w.heap[k]?=some (.cells cur 48 fr)):Kw g b w w' :=
 ⟨h.size,fun k hk _ _ h3=>h.block k hk (fun e=>by obtain ⟨c,f,q⟩:=hr k e.symm hk;exact h3 c f q)⟩
theorem ownsRow_kp {w w':World} {g b B s n:Nat} {e:TypeId} {v:Value} {xs:List Value} (h:w.ownsRow B e s v n xs) (hk:Kw g b w w') (h1:g < B∨w.heap.size≤g) (h2:b < B∨w.heap.size≤b) (he:e≠48):w'.ownsRow B e s v n xs :=
 ⟨h.1,h.2.elim Or.inl (fun ⟨k,cp,cur,hv,hB,hg,q⟩=>Or.inr ⟨k,cp,cur,hv,hB,(hk.2 k (Array.getElem?_eq_some_iff.1 hg).1 (by have:=(Array.getElem?_eq_some_iff.1 hg).1;omega) (by have:=(Array.getElem?_eq_some_iff.1 hg).1;omega) (fun c f e'=>by
  rw [hg] at e'
  cases e'
  exact he rfl)).trans hg,q⟩)⟩
theorem ownsRow_ks {w w':World} {g b B s n:Nat} {e:TypeId} {v:Value} {xs:List Value} (h:w.ownsRow B e s v n xs) (hk:Kp g b w w') (h1:g < B) (h2:b < B):w'.ownsRow B e s v n xs :=
 ⟨h.1,h.2.elim Or.inl (fun ⟨k,cp,cur,hv,hB,hg,q⟩=>Or.inr ⟨k,cp,cur,hv,hB,(hk.2 k (Array.getElem?_eq_some_iff.1 hg).1 (by omega) (by omega)).trans hg,q⟩)⟩
def Stab (w:World) (g b:Nat) (R:World→Prop):Prop:=∀ w',Kw g b w w'→R w'
theorem Stab.now {w:World} {g b:Nat} {R:World→Prop} (h:Stab w g b R):R w:=h w (Kw.refl _ _ _)
theorem Stab.go {w w':World} {g b:Nat} {R:World→Prop} (h:Stab w g b R) (hk:Kp g b w w'):Stab w' g b R:=fun _ h'=>h _ (hk.weak.trans h')
theorem Stab.gow {w w':World} {g b:Nat} {R:World→Prop} (h:Stab w g b R) (hk:Kw g b w w'):Stab w' g b R:=fun _ h'=>h _ (hk.trans h')
theorem ownsRow_agree {w w':World} {B s n:Nat} {e:TypeId} {v:Value} {xs:List Value} (h:w.ownsRow B e s v n xs) (hh:∀ k,B≤k→k < w.heap.size→w'.heap[k]?=w.heap[k]?):w'.ownsRow B e s v n xs :=
 ⟨h.1,h.2.elim Or.inl (fun ⟨k,cp,cur,hv,hB,hg,q⟩=>Or.inr ⟨k,cp,cur,hv,hB,(hh k hB (Array.getElem?_eq_some_iff.1 hg).1).trans hg,q⟩)⟩
theorem OwnSk.agree {w w':World} {B:Nat} {v:Value} {s:Sk} (h:OwnSk w B v s) (hh:∀ k,B≤k→k < w.heap.size→w'.heap[k]?=w.heap[k]?):OwnSk w' B v s:=by
 obtain ⟨a,c,b,d,h1,⟨pl,e1,e2,e3⟩,h3⟩:=h
 exact ⟨a,c,b,d,h1,⟨pl,e1,ownsRow_agree e2 hh,fun p hp=>ownsRow_agree (e3 p hp) hh⟩,ownsRow_agree h3 hh⟩
theorem OwnS.agree {w w':World} {B:Nat} {v:Value} {s:Str} (h:OwnS w B v s) (hh:∀ k,B≤k→k < w.heap.size→w'.heap[k]?=w.heap[k]?):OwnS w' B v s:=by
 obtain ⟨ta,tc,h1,⟨pl,e1,e2,e3⟩,⟨us,c1,c2,c3,c4⟩⟩:=h
 exact ⟨ta,tc,h1,⟨pl,e1,ownsRow_agree e2 hh,fun p hp=>ownsRow_agree (e3 p hp) hh⟩,⟨us,ownsRow_agree c1 hh,c2,fun i hi=>ownsRow_agree (c3 i hi) hh,c4⟩⟩
theorem OwnSk.kp {w w':World} {g b B:Nat} {v:Value} {s:Sk} (h:OwnSk w B v s) (hk:Kw g b w w') (hg:g < B∨w.heap.size≤g) (hb:b < B∨w.heap.size≤b):OwnSk w' B v s:=by
 obtain ⟨a,c,b,d,h1,⟨pl,e1,e2,e3⟩,h3⟩:=h
 exact ⟨a,c,b,d,h1,⟨pl,e1,ownsRow_kp e2 hk hg hb (by decide),fun p hp=>ownsRow_kp (e3 p hp) hk hg hb (by decide)⟩,ownsRow_kp h3 hk hg hb (by decide)⟩
theorem OwnS.kp {w w':World} {g b B:Nat} {v:Value} {s:Str} (h:OwnS w B v s) (hk:Kw g b w w') (hg:g < B∨w.heap.size≤g) (hb:b < B∨w.heap.size≤b):OwnS w' B v s:=by
 obtain ⟨ta,tc,h1,⟨pl,e1,e2,e3⟩,⟨us,c1,c2,c3,c4⟩⟩:=h
 exact ⟨ta,tc,h1,⟨pl,e1,ownsRow_kp e2 hk hg hb (by decide),fun p hp=>ownsRow_kp (e3 p hp) hk hg hb (by decide)⟩,⟨us,ownsRow_kp c1 hk hg hb (by decide),c2,fun i hi=>ownsRow_kp (c3 i hi) hk hg hb (by decide),c4⟩⟩
theorem Stab.sk {w:World} {g b B:Nat} {v:Value} {s:Sk} (h:OwnSk w B v s) (hg:g < B) (hb:b < B):Stab w g b (fun w'=>SkR w' v s):=fun _ hk=>(h.kp hk (Or.inl hg) (Or.inl hb)).reads
theorem Stab.st {w:World} {g b B:Nat} {v:Value} {s:Str} (h:OwnS w B v s) (hg:g < B) (hb:b < B):Stab w g b (fun w'=>StrR w' v s):=fun _ hk=>(h.kp hk (Or.inl hg) (Or.inl hb)).reads
def HomeAt (w:World) (g b:Nat) (s:Gs):Prop :=
 ∃ wv dv ta tc,Blk w g 80 [.int .i64 s.sk.clock,wv,dv,ta,tc,.slice (some ⟨b,0,none⟩) 6 6]∧Blk w b 3 (rowVals s.last)∧g≠b ∧
  Stab w g b (fun w'=>SkR w' (.agg #[.int .i64 s.sk.clock,wv,dv]) s.sk)∧Stab w g b (fun w'=>StrR w' (.agg #[ta,tc]) (streamM s.m))
theorem HomeAt.keep {w w':World} {g b:Nat} {s:Gs} (h:HomeAt w g b s) (hb:Below w.heap.size w w'):HomeAt w' g b s:=by
 obtain ⟨wv,dv,ta,tc,h1,h2,h3,h4,h5⟩:=h
 exact ⟨wv,dv,ta,tc,h1.step hb,h2.step hb,h3,h4.go (Kp.below hb),h5.go (Kp.below hb)⟩
def tkCs (x:Tk):List Value:=[.int .i64 x.1,.int .i64 x.2.1,.int .i64 x.2.2]
theorem tkCs_len (x:Tk):(tkCs x).length=3:=rfl
def OwnTk (w:World) (B:Nat) (v:Value) (l:List Tk):Prop:=w.ownsRow B 48 3 v l.length (l.flatMap tkCs)
theorem tk_one (l:List Tk):∀ v∈l.flatMap tkCs,v.oneCell'=true:=by
 intro v hv
 obtain ⟨x,hx,hv⟩:=List.mem_flatMap.1 hv
 simp only [tkCs,List.mem_cons,List.not_mem_nil,or_false] at hv
 rcases hv with rfl|rfl|rfl <;> rfl
theorem info_tk:(Tryz.prog.info? 48).map (fun i=>(i.zero,i.size,i.bytes))=some (some (.agg #[.int .i64 0,.int .i64 0,.int .i64 0]),3,24):=by kernel_rfl
def offT (ts:List TypeId) (w:World) (k:Nat):Prop:=∀ cur t fr,w.heap[k]?=some (.cells cur t fr)→t ∉ ts
def Fr (ts:List TypeId) (w w':World):Prop:=w.heap.size≤w'.heap.size∧∀ k,k < w.heap.size→offT ts w k→w'.heap[k]?=w.heap[k]?
theorem Fr.trans {ts:List TypeId} {u v w:World} (h:Fr ts u v) (h':Fr ts v w):Fr ts u w :=
 ⟨Nat.le_trans h.1 h'.1,fun k hk h1=>(h'.2 k (Nat.lt_of_lt_of_le hk h.1) (fun c t f e=>h1 c t f ((h.2 k hk h1).symm.trans e))).trans (h.2 k hk h1)⟩
theorem Fr.below {ts:List TypeId} {w w':World} (h:Below w.heap.size w w'):Fr ts w w':=⟨h.size,fun k hk _=>h.block k hk⟩
theorem Fr.mono {ts ts':List TypeId} {w w':World} (h:Fr ts w w') (hs:∀ t∈ts,t∈ts'):Fr ts' w w':=⟨h.1,fun k hk h1=>h.2 k hk (fun c t f e ht=>h1 c t f e (hs t ht))⟩
theorem Fr.set {ts:List TypeId} {w:World} {b o:Nat} {t:TypeId} {cs:List Value} {v:Value} (hb:Blk w b t cs) (ht:t∈ts):Fr ts w (w.setCell ⟨b,o,none⟩ v) :=
 ⟨by simp,fun k _ h1=>heap_set w b o v k (fun e=>by subst e;exact h1 _ _ _ hb ht)⟩
theorem row_block {w:World} {B s n k:Nat} {e:TypeId} {v:Value} {xs:List Value} (h:w.ownsRow B e s v n xs) (hk:v.ownBlock=some k):∃ cur fr,w.heap[k]?=some (.cells cur e fr):=by
 obtain ⟨_,h2⟩:=h
 rcases h2 with ⟨rfl,_⟩|⟨g,cp,cur,rfl,_,hg,_⟩
 ·cases hk
 ·cases hk;exact ⟨_,_,hg⟩
theorem Fr.grown {ts:List TypeId} {w w':World} {B s n:Nat} {e:TypeId} {v:Value} {xs:List Value} (h:w.ownsRow B e s v n xs) (hg:w.grownBy w' v.ownBlock) (he:e∈ts):Fr ts w w' :=
 ⟨hg.size,fun k hk h1=>hg.block k hk (fun e2=>by obtain ⟨c,f,q⟩:=row_block h e2.symm;exact h1 c _ f q he)⟩
theorem Blk.fr {ts:List TypeId} {w w':World} {b:Nat} {t:TypeId} {cs:List Value} (h:Blk w b t cs) (hf:Fr ts w w') (ht:t ∉ ts):Blk w' b t cs :=
 (hf.2 b h.lt (fun c t' f e=>by
  have:=h.symm.trans e
  cases this
  exact ht)).trans h
theorem ownsRow_fr {ts:List TypeId} {w w':World} {B s n:Nat} {e:TypeId} {v:Value} {xs:List Value} (h:w.ownsRow B e s v n xs) (hf:Fr ts w w') (he:e ∉ ts):w'.ownsRow B e s v n xs :=
 ⟨h.1,h.2.elim Or.inl (fun ⟨k,cp,cur,hv,hB,hg,q⟩=>Or.inr ⟨k,cp,cur,hv,hB,(hf.2 k (Array.getElem?_eq_some_iff.1 hg).1 (fun c t f e'=>by
  rw [hg] at e'
  cases e'
  exact he)).trans hg,q⟩)⟩
theorem OwnSk.fr {ts:List TypeId} {w w':World} {B:Nat} {v:Value} {s:Sk} (h:OwnSk w B v s) (hf:Fr ts w w') (h1:65 ∉ ts) (h2:3 ∉ ts) (h3:104 ∉ ts):OwnSk w' B v s:=by
 obtain ⟨a,c,b,d,e0,⟨pl,e1,e2,e3⟩,e4⟩:=h
 exact ⟨a,c,b,d,e0,⟨pl,e1,ownsRow_fr e2 hf h1,fun p hp=>ownsRow_fr (e3 p hp) hf h2⟩,ownsRow_fr e4 hf h3⟩
theorem OwnK.fr {ts:List TypeId} {w w':World} {B:Nat} {v:Value} {l:List PC} (h:OwnK w B v l) (hf:Fr ts w w') (h1:58 ∉ ts) (h2:3 ∉ ts):OwnK w' B v l:=by
 obtain ⟨pl,e1,e2,e3⟩:=h
 exact ⟨pl,e1,ownsRow_fr e2 hf h1,fun p hp=>⟨ownsRow_fr (e3 p hp).1 hf h2,ownsRow_fr (e3 p hp).2 hf h2⟩⟩
def FewO (s:Sk):Prop:=SkW s∧s.done.length≤200
theorem FewO.z:FewO skZ:=⟨⟨Nat.zero_le _,fun x hx=>by cases hx⟩,Nat.zero_le _⟩
theorem FewO.step {g:Int} {c:PC} {s:Sk} (h:FewO s):FewO (ordStep g c s):=by
 unfold ordStep
 split
 ·next h0=>exact ⟨apS_w h.1,(apS_len h0).2⟩
 ·exact h
theorem FewO.few {s:Sk} (h:FewO s):fewK s:=⟨by have:=h.1.1;omega,by have:=h.2;omega,fun x hx=>by have:=h.1.2 x hx;omega⟩
def StepR (W:World) (B:Nat) (c:PC) (s s':Sk) (v:Value):Prop:=∃ ma mc mb bc wa wc da dc wa' wc' da' dc' oa on oc,
 v=.agg #[.int .u8 c.kind,.int .i64 c.msg.id,.slice ma c.msg.groups.length mc,.int .i64 c.msg.topic,.string c.msg.key,.string c.msg.body,.int .i64 c.id,.int .i64 c.time,.slice mb c.members.length bc,.int .i64 c.topic,.int .i64 c.who,.int .i64 c.n,
  .int .i64 s.clock,.slice wa s.waits.length wc,.slice da s.done.length dc,.int .i64 s'.clock,.slice wa' s'.waits.length wc',.slice da' s'.done.length dc',.slice oa on oc] ∧
 OwnI W B (.slice ma c.msg.groups.length mc) c.msg.groups∧OwnSk W B (.agg #[.int .i64 s.clock,.slice wa s.waits.length wc,.slice da s.done.length dc]) s∧OwnSk W B (.agg #[.int .i64 s'.clock,.slice wa' s'.waits.length wc',.slice da' s'.done.length dc']) s'
structure RunI (s:Sk):Prop where
 few:FewO s
 inv:InvK s
 gr:∀ w∈s.waits,msgB w.msg=true
theorem RunI.z:RunI skZ:=⟨FewO.z,invK_z,fun _ h=>by cases h⟩
theorem RunI.step {g:Int} {c:PC} {s:Sk} (h:RunI s) (hc:okCom c=true):RunI (ordStep g c s):=by
 refine ⟨h.few.step,ordStep_inv h.inv hc,?_⟩
 rcases ordWay (g:=g) h.inv hc with ⟨e,_⟩|⟨hk,_,_,_,e,_⟩|⟨hk,h1,h2,h3,e,_⟩
 ·rw [e];exact h.gr
 ·rw [e]
  intro w hw
  rcases mem_insW.1 hw with rfl|hw
  ·exact okCom_assign hc hk
  ·exact h.gr w hw
 ·obtain ⟨hlt,hid,hmem⟩:=posW_id h.inv.wi h1
  rw [e]
  intro w hw
  have hw1:=delS_sub _ _ _ _ hw
  rcases List.mem_or_eq_of_mem_set hw1 with hw|rfl
  ·exact h.gr w hw
  ·exact (h.gr _ hmem:msgB (s.waits.getD (posW s.waits c.id) default).msg=true)
theorem okG_ge {l:List Int}:∀ n:Nat,okG l n=true→∀ i,i < n→0≤l.getD i 0
 |0,_,i,hi=>absurd hi (Nat.not_lt_zero _)
 |n+1,h,i,hi=>by
  rw [okG,Bool.and_eq_true,Bool.and_eq_true] at h
  by_cases e:i=n
  ·subst e
   have:=h.2.1
   simp only [inB,Bool.and_eq_true,decide_eq_true_eq] at this
   exact this.1
  ·exact okG_ge n h.1 i (by omega)
theorem grp_ge {m:PM} (h:msgB m=true):∀ g∈m.groups,0≤g:=by
 intro g hg
 rw [msgB,Bool.and_eq_true,grpB,Bool.and_eq_true] at h
 obtain ⟨i,hi,rfl⟩:=List.getElem_of_mem hg
 have:=okG_ge _ h.1.2 i hi
 simpa [List.getD,hi] using this
end Go.Proofs.YtkkohllhebdlcaaGreatDoor
