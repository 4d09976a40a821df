/-
  Proved here: (*skeen.clock).assign. Conditions: the ids of what waits rise and are  (*skeen.clock).final. Conditions: the ids of what waits rise and are s Plain: what is delivered; own messages; the clock's done laid anew. No Plain: which clocks may be; numbers that were seen, as a map that a ca skeen.Check: heads that may not be. No condition.
-/
import Derived.Test.YtkkohllhebdlcaaGreatDoorY13
set_option maxRecDepth 100000
namespace Go.Proofs.YtkkohllhebdlcaaGreatDoor
open Go.RowKit
def assignS (group:Int) (m:PM) (s:Sk):Int × Sk :=
 if hasW s.waits m.id=true∨doneB s.done m.id=true∨conI m.groups group=false then (0,s)
 else if s.clock=1073741824∨s.waits.length=200 then (9,s)
 else (0,⟨s.clock+1,insW s.waits (posW s.waits m.id) ⟨m,s.clock+1,false⟩,s.done⟩)
def CkEnd (w0:World) (g:Nat) (r:Int × Sk) (e:Ending) (w':World):Prop:=e=.returned (.int .i64 r.1)∧Ck w' w0.heap.size g r.2∧Below w0.heap.size w0 w'
theorem posW_le (l:List Wt) (id:Int):posW l id≤l.length:=(List.takeWhile_sublist _).length_le
theorem grown_below {B:Nat} {w0 w w':World} {row:Option Nat} (h:Below B w0 w) (hg:w.grownBy w' row) (hB:B≤w.heap.size) (hr:∀ k,row=some k→B≤k):Below B w0 w':=h.grown hg hB hr
set_option maxHeartbeats 8000000 in
set_option maxRecDepth 100000 in
theorem assign_any {w0 w:World} {g:Nat} {group:Int} {m:PM} {s:Sk} {mv:Value} {r:Int × Sk} (h:Ck w w0.heap.size g s) (h0:Below w0.heap.size w0 w) (hg:w0.heap.size≤g) (hm:MsgR w0 mv m) (hu:idsUp s.waits) (hid:smallI m.id) (hl:s.waits.length≤1000000)
  (hc0:0≤s.clock) (hc1:s.clock≤1073741824) (hgl:m.groups.length≤1000000) (hr:r=assignS group m s) :
  Calls Tryz.prog 53 #[.pointer (some ⟨g,0,none⟩),.int .i64 group,mv] w (CkEnd w0 g r):=by
 obtain ⟨pl,a1,c1,b1,d1,hck⟩:=h
 obtain ⟨ma,mc,rfl,hG⟩:=hm
 have G:=LH hG
 have HK:=LH hck
 have HB:=LH h0
 obtain ⟨ck,wl,dl⟩:=s
 obtain ⟨i1,gl,t1,k1,bo⟩:=m
 simp only at hu hid hl hc0 hc1 hgl
 obtain ⟨n,hn⟩:∃ n,n=wl.length:=⟨_,rfl⟩
 obtain ⟨dn,hdn⟩:∃ dn,dn=dl.length:=⟨_,rfl⟩
 obtain ⟨gn,hgn⟩:∃ gn,gn=gl.length:=⟨_,rfl⟩
 obtain ⟨P,hP⟩:∃ P,P=posW wl i1:=⟨_,rfl⟩
 obtain ⟨F,hF⟩:∃ F,F=hasW wl i1:=⟨_,rfl⟩
 obtain ⟨D,hD⟩:∃ D,D=doneB dl i1:=⟨_,rfl⟩
 obtain ⟨C,hC⟩:∃ C,C=conI gl group:=⟨_,rfl⟩
 have HPn:P≤n:=by rw [hP,hn];exact posW_le _ _
 have hpl:pl.map (·.2)=wl:=hck.1
 have hll:pl.length=n:=by rw [hn,← hpl,List.length_map]
 have KF:Hid (∀ W,Below w.heap.size w W→Calls Tryz.prog 84 #[.pointer (some ⟨g,0,none⟩),.int .i64 i1] W fun e W'=>e=.returned (.tuple #[.int .i64 (P:Nat),.bool F])∧Below W.heap.size W W'):=fun W hW=>by
  have:=find_any (w:=W) i1 ((hck.keep hW).2.1.cell 1) (hck.keep hW).wts (by rw [hpl];exact hu) hid (by omega)
  rw [hpl,← hP,← hF] at this
  exact this
 have KD:Hid (∀ W,Below w.heap.size w W→Calls Tryz.prog 85 #[.pointer (some ⟨g,0,none⟩),.int .i64 i1] W fun e W'=>e=.returned (.bool D)∧Below W.heap.size W W'):=fun W hW=>by
  have:=done_any (w:=W) i1 ((hck.keep hW).2.1.cell 2) (hck.keep hW).2.2.2.2.reads
  rw [← hD] at this
  exact this
 have KC:Hid (∀ W,Below w0.heap.size w0 W→Calls Tryz.prog 86 #[.slice ma gn mc,.int .i64 group] W fun e W'=>e=.returned (.bool C)∧W'=W):=fun W hW=>by
  have:=conI_any (w:=W) group (hG.below hW)
  rw [hC,hgn]
  exact this
 have KI:Hid (∀ W,Below w0.heap.size w0 W→Calls Tryz.prog 46 #[.slice ma gn mc] W fun e W'=>∃ a4 c4,e=.returned (.slice a4 gn c4)∧OwnI W' W.heap.size (.slice a4 gn c4) gl∧Below W.heap.size W W'):=fun W hW=>by
  have:=cloI_any (cs:=intCell) (fun _=>rfl) (hG.below hW) (by rw [← rowVals_flat];exact rowVals_one' _) hgl
  unfold CloEndI at this
  simp only at this
  rw [← hgn,← rowVals_flat] at this
  unfold OwnI
  rw [← hgn]
  rw [hgn]
  rw [hgn] at this
  exact this
 have HR:Hid (r=if F=true∨D=true∨C=false then (0,⟨ck,wl,dl⟩) else if ck=1073741824∨n=200 then (9,⟨ck,wl,dl⟩) else (0,⟨ck+1,insW wl P ⟨⟨i1,gl,t1,k1,bo⟩,ck+1,false⟩,dl⟩)):=by
  rw [hr,assignS,hF,hD,hC,hn,hP]
  exact LH rfl
 have HPL:=LH hpl
 have HN:=LH hn
 have HGN:=LH hgn
 have HLL:=LH hll
 have hq:=hck.2.1
 simp only at hq
 rw [← hn,← hdn] at hq
 have HQ:=LH hq
 have gw:=hq.lt
 simp only [← hgn]
 clear hr hgl hgn hdn hu hid hG hck h0 hpl hll hP hF hD hC hq
 rw [← hn] at hl
 clear hn
 go_enter Tryz.func53,Tryz.ntmps53
 go_wp2_with fail
 refine (KF.out _ (by repeat (first|with_reducible (first|exact Below.refl _ _|apply Below.drew|apply below_alloc)|((first|with_reducible refine Below.alloc ?_ ?_ _|with_reducible refine Below.setCell ?_ ?_ _);rotate_left;focus (first|(simp <;> omega)|omega))))).mono ?_
 rintro e w1 ⟨rfl,hb⟩
 have HX:Hid (Below w.heap.size w _):=below_step (by repeat (first|with_reducible (first|exact Below.refl _ _|apply Below.drew|apply below_alloc)|((first|with_reducible refine Below.alloc ?_ ?_ _|with_reducible refine Below.setCell ?_ ?_ _);rotate_left;focus (first|(simp <;> omega)|omega)))) hb
 have HM:Hid (Blk w1 w.heap.size 56 [.int .i64 i1,.slice ma gn mc,.int .i64 t1,.string k1,.string bo]):=LH (Blk.step (by repeat (first|with_reducible exact Blk.new rfl|((with_reducible apply Blk.new);focus (first|rfl|(simp <;> omega)))|with_reducible (first|apply Blk.drew|apply Blk.alloc|apply Blk.set_)|((with_reducible apply Blk.far);rotate_left;focus (first|(simp <;> omega)|omega)))) hb)
 obtain ⟨m0,m1,m2,m3,m4,mz⟩:=cells5 HM.out
 have ml:=HM.out.lt
 clear hb KF
 cases F
 case true =>
  go_wp2_with fail
  go_ret
  have e:r=(0,⟨ck,wl,dl⟩):=by rw [HR.out];rfl
  exact ⟨by rw [e];rfl,by rw [e];exact ⟨pl,a1,c1,b1,d1,HK.out.keep HX.out⟩,Below.step HB.out HX.out HB.out.size⟩
 go_wp2_with fail
 refine (KD.out _ (by repeat (first|with_reducible (first|exact HX.out|exact Below.refl _ _|apply Below.drew|apply below_alloc)|((first|with_reducible refine Below.alloc ?_ ?_ _|with_reducible refine Below.setCell ?_ ?_ _);rotate_left;focus (first|(simp <;> omega)|omega))))).mono ?_
 rintro e w2 ⟨rfl,hb⟩
 have HX2:Hid (Below w.heap.size w w2):=below_step (by repeat (first|with_reducible (first|exact HX.out|exact Below.refl _ _|apply Below.drew|apply below_alloc)|((first|with_reducible refine Below.alloc ?_ ?_ _|with_reducible refine Below.setCell ?_ ?_ _);rotate_left;focus (first|(simp <;> omega)|omega)))) hb
 have HM2:Hid (Blk w2 w.heap.size 56 [.int .i64 i1,.slice ma gn mc,.int .i64 t1,.string k1,.string bo]):=LH (Blk.step (by repeat (first|with_reducible exact HM.out|((with_reducible apply Blk.new);focus (first|rfl|(simp <;> omega)))|with_reducible (first|apply Blk.drew|apply Blk.alloc|apply Blk.set_)|((with_reducible apply Blk.far);rotate_left;focus (first|(simp <;> omega)|omega)))) hb)
 clear hb KD m0 m1 m2 m3 m4 mz ml HM HX
 obtain ⟨m0,m1,m2,m3,m4,mz⟩:=cells5 HM2.out
 have ml:=HM2.out.lt
 cases D
 case true =>
  go_wp2_with fail
  go_ret
  have e:r=(0,⟨ck,wl,dl⟩):=by rw [HR.out];rfl
  exact ⟨by rw [e];rfl,by rw [e];exact ⟨pl,a1,c1,b1,d1,HK.out.keep HX2.out⟩,Below.step HB.out HX2.out HB.out.size⟩
 go_wp2_with fail
 refine (KC.out _ (Below.step HB.out (by repeat (first|with_reducible (first|exact HX2.out|exact Below.refl _ _|apply Below.drew|apply below_alloc)|((first|with_reducible refine Below.alloc ?_ ?_ _|with_reducible refine Below.setCell ?_ ?_ _);rotate_left;focus (first|(simp <;> omega)|omega)))) HB.out.size)).mono ?_
 rintro e w3 ⟨rfl,rfl⟩
 cases C
 case false =>
  go_wp2_with fail
  go_ret
  have e:r=(0,⟨ck,wl,dl⟩):=by rw [HR.out];rfl
  exact ⟨by rw [e];rfl,by rw [e];exact ⟨pl,a1,c1,b1,d1,HK.out.keep (by repeat (first|with_reducible (first|exact HX2.out|exact Below.refl _ _|apply Below.drew|apply below_alloc)|((first|with_reducible refine Below.alloc ?_ ?_ _|with_reducible refine Below.setCell ?_ ?_ _);rotate_left;focus (first|(simp <;> omega)|omega))))⟩,Below.step HB.out (by repeat (first|with_reducible (first|exact HX2.out|exact Below.refl _ _|apply Below.drew|apply below_alloc)|((first|with_reducible refine Below.alloc ?_ ?_ _|with_reducible refine Below.setCell ?_ ?_ _);rotate_left;focus (first|(simp <;> omega)|omega)))) HB.out.size⟩
 have hq2:=HQ.out.step (show Below w.heap.size w w3 by repeat (first|with_reducible (first|exact HX2.out|exact Below.refl _ _|apply Below.drew|apply below_alloc)|((first|with_reducible refine Below.alloc ?_ ?_ _|with_reducible refine Below.setCell ?_ ?_ _);rotate_left;focus (first|(simp <;> omega)|omega))))
 obtain ⟨q0,q1,q2,qz⟩:=cells3 hq2
 by_cases hmx:ck=1073741824
 ·subst hmx
  go_wp2_with fail
  go_ret
  have e:r=(9,⟨1073741824,wl,dl⟩):=by rw [HR.out];simp
  exact ⟨by rw [e];rfl,by rw [e];exact ⟨pl,a1,c1,b1,d1,HK.out.keep (by repeat (first|with_reducible (first|exact HX2.out|exact Below.refl _ _|apply Below.drew|apply below_alloc)|((first|with_reducible refine Below.alloc ?_ ?_ _|with_reducible refine Below.setCell ?_ ?_ _);rotate_left;focus (first|(simp <;> omega)|omega))))⟩,Below.step HB.out (by repeat (first|with_reducible (first|exact HX2.out|exact Below.refl _ _|apply Below.drew|apply below_alloc)|((first|with_reducible refine Below.alloc ?_ ?_ _|with_reducible refine Below.setCell ?_ ?_ _);rotate_left;focus (first|(simp <;> omega)|omega)))) HB.out.size⟩
 by_cases hmn:n=200
 ·have hmn':(n:Int)=200:=by omega
  go_wp2_with fail
  go_ret
  have e:r=(9,⟨ck,wl,dl⟩):=by rw [HR.out];simp [hmx,hmn]
  exact ⟨by rw [e];rfl,by rw [e];exact ⟨pl,a1,c1,b1,d1,HK.out.keep (by repeat (first|with_reducible (first|exact HX2.out|exact Below.refl _ _|apply Below.drew|apply below_alloc)|((first|with_reducible refine Below.alloc ?_ ?_ _|with_reducible refine Below.setCell ?_ ?_ _);rotate_left;focus (first|(simp <;> omega)|omega))))⟩,Below.step HB.out (by repeat (first|with_reducible (first|exact HX2.out|exact Below.refl _ _|apply Below.drew|apply below_alloc)|((first|with_reducible refine Below.alloc ?_ ?_ _|with_reducible refine Below.setCell ?_ ?_ _);rotate_left;focus (first|(simp <;> omega)|omega)))) HB.out.size⟩
 have hw1:IntKind.i64.wrap (ck+1)=ck+1:=by rw [IntKind.wrap_i64];omega
 have HX3:Hid (Below w.heap.size w w3):=LH (by repeat (first|with_reducible (first|exact HX2.out|exact Below.refl _ _|apply Below.drew|apply below_alloc)|((first|with_reducible refine Below.alloc ?_ ?_ _|with_reducible refine Below.setCell ?_ ?_ _);rotate_left;focus (first|(simp <;> omega)|omega))))
 have hmn':¬ (n:Int)=200:=by omega
 have hgm:w.heap.size≠g:=by omega
 have HE:Hid (r=(0,⟨ck+1,insW wl P ⟨⟨i1,gl,t1,k1,bo⟩,ck+1,false⟩,dl⟩)):=by rw [HR.out];simp [hmx,hmn,LH]
 have HM3:Hid (Blk w3 w.heap.size 56 [.int .i64 i1,.slice ma gn mc,.int .i64 t1,.string k1,.string bo]):=HM2
 have hmxb:(ck == 1073741824)=false:=by simpa using hmx
 have hmnb:((n:Int) == 200)=false:=by simpa using hmn'
 clear hq2 HR HM2 hmx hmn'
 go_wp2_with fail
 refine at_world (C:=fun W=>Hid (CkR W w0.heap.size g ⟨ck+1,wl,dl⟩ pl a1 c1 b1 d1)) (by refine LH ?_;show CkR _ w0.heap.size g ⟨ck+1,wl,dl⟩ pl a1 c1 b1 d1;exact CkR.tick (ck+1) (HK.out.keep HX3.out)) (fun HK4=>?_)
 refine at_world (C:=fun W=>Hid (Below w0.heap.size w0 W)) (by refine LH ?_;show Below w0.heap.size w0 _;exact (Below.step HB.out HX3.out HB.out.size).setCell hg _) (fun HB4=>?_)
 refine at_world (C:=fun W=>Hid (Blk W w.heap.size 56 [.int .i64 i1,.slice ma gn mc,.int .i64 t1,.string k1,.string bo])) (by refine LH ?_;show Blk _ w.heap.size 56 [.int .i64 i1,.slice ma gn mc,.int .i64 t1,.string k1,.string bo];exact HM3.out.far hgm _) (fun HM4=>?_)
 clear q0 q1 q2 qz m0 m1 m2 m3 m4 mz ml HM3 KC
 generalize w3.setCell ⟨g,0,none⟩ (.int .i64 (ck+1))=w4 at HK4 HB4 HM4 ⊢
 refine (KI.out _ HB4.out).mono ?_
 rintro e w5 ⟨a4,c4,rfl,o4,hb⟩
 have HK5:=LH (HK4.out.keep hb)
 have HM5:=LH (HM4.out.step hb)
 have HB5:=LH (Below.step HB4.out hb HB4.out.size)
 have O5:Hid (OwnI w5 w0.heap.size (.slice a4 gn c4) gl):=LH (OwnI.le o4 HB4.out.size)
 obtain ⟨m0,m1,m2,m3,m4,mz⟩:=cells5 HM5.out
 have ml:=HM5.out.lt
 clear hb o4 HK4 HM4 HB4 KI
 go_wp2_with fail
 have HK6:=LH (HK5.out.far (o:=1) (u:=.slice a4 gn c4) HM5.out (by decide) (by decide) (by decide) (by decide))
 have HM6:Hid (Blk (w5.setCell ⟨w.heap.size,1,none⟩ (.slice a4 gn c4)) w.heap.size 56 [.int .i64 i1,.slice a4 gn c4,.int .i64 t1,.string k1,.string bo]):=LH (HM5.out.set_ 1 _)
 have HB6:Hid (Below w0.heap.size w0 (w5.setCell ⟨w.heap.size,1,none⟩ (.slice a4 gn c4))):=LH (HB5.out.setCell HB.out.size _)
 have O6:Hid (OwnI (w5.setCell ⟨w.heap.size,1,none⟩ (.slice a4 gn c4)) w0.heap.size (.slice a4 gn c4) gl):=LH (row_far O5.out (heap_set _ _ _ _) (row_blk O5.out HM5.out (by decide)))
 clear m0 m1 m2 m3 m4 mz ml HK5 HM5 HB5 O5
 generalize w5.setCell ⟨w.heap.size,1,none⟩ (.slice a4 gn c4)=w6 at HK6 HM6 HB6 O6 ⊢
 obtain ⟨m0,m1,m2,m3,m4,mz⟩:=cells5 HM6.out
 have ml:=HM6.out.lt
 have hq6:Blk w6 g 130 [.int .i64 (ck+1),.slice a1 n c1,.slice b1 dl.length d1]:=by rw [HN.out];exact HK6.out.2.1
 have ho6:w6.ownsRow w0.heap.size 65 7 (.slice a1 n c1) n (pl.flatMap wtCs):=by rw [HN.out];exact HK6.out.2.2.1
 have hb6:=HB6.out.size
 obtain ⟨x,hx⟩:∃ x:Wt,x=⟨⟨i1,gl,t1,k1,bo⟩,ck+1,false⟩:=⟨_,rfl⟩
 have hxc:wtCs (.slice a4 gn c4,x)=[.int .i64 i1,.slice a4 gn c4,.int .i64 t1,.string k1,.string bo,.int .i64 (ck+1),.bool false]:=by rw [hx];rfl
 have KS:Hid (∀ W vb,Below w6.heap.size w6 W→w6.heap.size≤vb→Blk W vb 65 [.int .i64 i1,.slice a4 gn c4,.int .i64 t1,.string k1,.string bo,.int .i64 (ck+1),.bool false] →
   Calls Tryz.prog 87 #[.slice a1 n c1,.int .i64 (P:Int),.slice (some ⟨vb,0,none⟩) 1 1] W (InsEnd w0.heap.size n (.slice a1 n c1) ((insW pl P (.slice a4 gn c4,x)).flatMap wtCs) W)):=fun W vb hW hv hbk =>
  ins_any (ownsRow_keep ho6 hW) (wtCs_one fun p hp=>isSl_own (HK6.out.2.2.2.1 p hp)) hbk rfl (by rw [← hxc];intro v hv;exact wtCs_one (pl:=[(.slice a4 gn c4,x)]) (by intro p hp;rw [List.mem_singleton.1 hp];exact ⟨_,_,_,rfl⟩) v (by simpa using hv)) (fun e=>by have:=(ho6.lt _ e).2;omega) HPn hl (by have:=hW.size;omega) (by rw [← hxc];exact (putIn_flat wtCs_len pl P _).symm)
 have HW6:Hid (∀ W w7 a7 c7,Below w6.heap.size w6 W→w7.ownsRow w0.heap.size 65 7 (.slice a7 (n+1) c7) (n+1) ((insW pl P (.slice a4 gn c4,x)).flatMap wtCs)→W.grownBy w7 (Value.ownBlock (.slice a1 n c1))→Blk w7 g 130 [.int .i64 (ck+1),.slice a1 n c1,.slice b1 dl.length d1]∧Below w0.heap.size w0 w7∧CkR (w7.setCell ⟨g,1,none⟩ (.slice a7 (n+1) c7)) w0.heap.size g ⟨ck+1,insW wl P x,dl⟩ (insW pl P (.slice a4 gn c4,x)) a7 c7 b1 d1):=fun W w7 a7 c7 hW o7 g7=>by
  have hoW:=ownsRow_keep ho6 hW
  refine ⟨(hq6.step hW).grown g7 (row_blk hoW (hq6.step hW) (by decide)),grown_below (Below.step HB6.out hW hb6) g7 (by have:=hW.size;omega) (fun k hk=>(hoW.lt k hk).1),?_⟩
  rw [HN.out] at g7
  refine CkR.waits (HK6.out.keep hW) g7 (by rw [insW_map,HPL.out]) (by rw [insW_len (by rw [← HN.out];exact HPn),HN.out]) o7 (fun p hp=>?_)
  rcases insW_mem hp with rfl|hp
  ·rw [hx]
   exact O6.out.keep' hW
  ·exact OwnI.keep' (HK6.out.2.2.2.1 p hp) hW
 obtain ⟨q0,q1,q2,qz⟩:=cells3 hq6
 have ql6:=hq6.lt
 rw [← hx] at HE
 clear hxc hx hq6 ho6 O6 HB6 HM6
 go_region_with (go_at_call 87;refine (KS.out _ _ (by repeat (first|with_reducible (first|exact Below.refl _ _|apply Below.drew|apply below_alloc)|((first|with_reducible refine Below.alloc ?_ ?_ _|with_reducible refine Below.setCell ?_ ?_ _);rotate_left;focus (first|(simp <;> omega)|omega)))) (by simp) (by repeat (first|with_reducible exact Blk.new rfl|((with_reducible apply Blk.new);focus (first|rfl|(simp <;> omega)))|with_reducible (first|apply Blk.drew|apply Blk.alloc|apply Blk.set_)|((with_reducible apply Blk.far);rotate_left;focus (first|(simp <;> omega)|omega))))).mono ?_;rintro e w7 ⟨v7,rfl,o7,g7⟩;obtain ⟨a7,c7,rfl⟩:=row_shape o7;obtain ⟨hq7,hb7,hk7⟩:=HW6.out _ _ _ _ (by repeat (first|with_reducible (first|exact Below.refl _ _|apply Below.drew|apply below_alloc)|((first|with_reducible refine Below.alloc ?_ ?_ _|with_reducible refine Below.setCell ?_ ?_ _);rotate_left;focus (first|(simp <;> omega)|omega)))) o7 g7;obtain ⟨u0,u1,u2,uz⟩:=cells3 hq7;have HB7:=LH hb7;have HK7:=LH hk7;clear hq7 hb7 hk7 o7 g7)
 all_goals
  go_wp2_with fail
  go_ret
  exact ⟨by rw [HE.out];rfl,by rw [HE.out];exact ⟨_,_,_,_,_,HK7.out⟩,HB7.out.setCell hg _⟩
end Go.Proofs.YtkkohllhebdlcaaGreatDoor
namespace Go.Proofs.YtkkohllhebdlcaaGreatDoor
open Go.RowKit
def finalS (id time:Int) (s:Sk):Sk :=
 if hasW s.waits id=false∨(s.waits.getD (posW s.waits id) default).fin=true∨time < (s.waits.getD (posW s.waits id) default).time then s
 else ⟨max s.clock time,s.waits.set (posW s.waits id) ⟨(s.waits.getD (posW s.waits id) default).msg,time,true⟩,s.done⟩
theorem takeWhile_lt {α:Type} (p:α→Bool):∀ (l:List α) (x:α),x∈l→p x=false→(l.takeWhile p).length < l.length
 |[],x,h,_=>by cases h
 |y :: l,x,h,hp=>by
  by_cases hy:p y=true
  ·rw [List.takeWhile_cons_of_pos hy]
   rcases List.mem_cons.1 h with rfl|h
   ·rw [hp] at hy;cases hy
   ·simp only [List.length_cons]
    have:=takeWhile_lt p l x h hp
    omega
  ·rw [List.takeWhile_cons_of_neg hy]
   simp
theorem posW_lt {l:List Wt} {id:Int} (h:hasW l id=true):posW l id < l.length:=by
 rw [hasW,List.any_eq_true] at h
 obtain ⟨x,hx,he⟩:=h
 have he':x.msg.id=id:=by simpa using he
 exact takeWhile_lt _ l x hx (by simp [he'])
theorem CkR.fin {W:World} {B g k gw:Nat} {s:Sk} {pl:List (Value × Wt)} {b1:Option Addr} {c1 d1:Nat} (t:Int) (h:CkR W B g s pl (some ⟨gw,0,none⟩) c1 b1 d1) (hk:k < pl.length) :
  CkR ((W.setCell ⟨gw,k * 7+5,none⟩ (.int .i64 t)).setCell ⟨gw,k * 7+6,none⟩ (.bool true)) B g ⟨s.clock,s.waits.set k ⟨(s.waits.getD k default).msg,t,true⟩,s.done⟩ (pl.set k (pl[k].1,⟨(pl[k]).2.msg,t,true⟩)) (some ⟨gw,0,none⟩) c1 b1 d1:=by
 obtain ⟨e1,e2,e3,e4,e5⟩:=h
 have hks:k < s.waits.length:=by rw [← e1,List.length_map];exact hk
 have hd:s.waits.getD k default=(pl[k]).2:=by
  rw [List.getD_eq_getElem?_getD,← e1,List.getElem?_map,List.getElem?_eq_getElem hk];rfl
 have s1:=e3.stored (k * 7+5) (.int .i64 t)
 have s2:=s1.1.stored (k * 7+6) (.bool true)
 have r1:=s2.1
 rw [flat7_set pl k 5 (.int .i64 t) (pl[k].1,⟨pl[k].2.msg,t,pl[k].2.fin⟩) hk (by omega) rfl] at r1
 rw [flat7_set (pl.set k (pl[k].1,⟨pl[k].2.msg,t,pl[k].2.fin⟩)) k 6 (.bool true) (pl[k].1,⟨pl[k].2.msg,t,true⟩) (by simpa using hk) (by omega) (by rw [List.getElem_set_self];rfl),List.set_set] at r1
 have hh:∀ b,b≠gw→((W.setCell ⟨gw,k * 7+5,none⟩ (.int .i64 t)).setCell ⟨gw,k * 7+6,none⟩ (.bool true)).heap[b]?=W.heap[b]?:=fun b hb=>(heap_set _ _ _ _ b hb).trans (heap_set _ _ _ _ b hb)
 have hgw:g≠gw:=fun e=>row_blk e3 e2 (by decide) (by rw [e];rfl)
 refine ⟨?_,?_,?_,fun p hp=>?_,?_⟩
 ·rw [List.map_set,e1,hd]
 ·show Blk _ g _ [.int .i64 s.clock,.slice _ (s.waits.set k _).length c1,_]
  rw [List.length_set]
  exact (hh g hgw).trans e2
 ·show World.ownsRow _ B _ 7 (.slice _ (s.waits.set k _).length c1) (s.waits.set k _).length _
  rw [List.length_set]
  exact r1
 ·have:∃ q∈pl,q.1=p.1∧q.2.msg.groups=p.2.msg.groups:=by
   rcases List.mem_or_eq_of_mem_set hp with hp|rfl
   ·exact ⟨p,hp,rfl,rfl⟩
   ·exact ⟨pl[k],List.getElem_mem hk,rfl,rfl⟩
  obtain ⟨q,hq,h1,h2⟩:=this
  rw [← h1,← h2]
  exact row_far (e4 q hq) hh (rows_ne (e4 q hq) e3 (by decide) rfl)
 ·exact row_far e5 hh (rows_ne e5 e3 (by decide) rfl)
def FinEnd (w0:World) (g:Nat) (s:Sk) (e:Ending) (w':World):Prop:=e=.returned (.tuple #[])∧Ck w' w0.heap.size g s∧Below w0.heap.size w0 w'
set_option maxHeartbeats 8000000 in
set_option maxRecDepth 100000 in
theorem final_any {w0 w:World} {g:Nat} {id time:Int} {s r:Sk} (h:Ck w w0.heap.size g s) (h0:Below w0.heap.size w0 w) (hg:w0.heap.size≤g) (hu:idsUp s.waits) (hid:smallI id) (hl:s.waits.length≤1000000) (hr:r=finalS id time s) :
  Calls Tryz.prog 54 #[.pointer (some ⟨g,0,none⟩),.int .i64 id,.int .i64 time] w (FinEnd w0 g r):=by
 obtain ⟨pl,a1,c1,b1,d1,hck⟩:=h
 have HK:=LH hck
 have HB:=LH h0
 obtain ⟨ck,wl,dl⟩:=s
 simp only at hu hid hl
 obtain ⟨n,hn⟩:∃ n,n=wl.length:=⟨_,rfl⟩
 obtain ⟨dn,hdn⟩:∃ dn,dn=dl.length:=⟨_,rfl⟩
 obtain ⟨P,hP⟩:∃ P,P=posW wl id:=⟨_,rfl⟩
 obtain ⟨F,hF⟩:∃ F,F=hasW wl id:=⟨_,rfl⟩
 have HPF:Hid (F=true→P < n):=fun hh=>by rw [hP,hn];exact posW_lt (by rw [← hF];exact hh)
 have hpl:pl.map (·.2)=wl:=hck.1
 have hll:pl.length=n:=by rw [hn,← hpl,List.length_map]
 have KF:Hid (∀ W,Below w.heap.size w W→Calls Tryz.prog 84 #[.pointer (some ⟨g,0,none⟩),.int .i64 id] W fun e W'=>e=.returned (.tuple #[.int .i64 (P:Nat),.bool F])∧Below W.heap.size W W'):=fun W hW=>by
  have:=find_any (w:=W) id ((hck.keep hW).2.1.cell 1) (hck.keep hW).wts (by rw [hpl];exact hu) hid (by omega)
  rw [hpl,← hP,← hF] at this
  exact this
 obtain ⟨x,hx⟩:∃ x,x=wl.getD P default:=⟨_,rfl⟩
 have HX:=LH hx
 have HR:Hid (r=if F=false∨x.fin=true∨time < x.time then ⟨ck,wl,dl⟩ else ⟨max ck time,wl.set P ⟨x.msg,time,true⟩,dl⟩):=by
  rw [hr,finalS,hF,hx,hP]
  exact LH rfl
 have HPL:=LH hpl
 have HN:=LH hn
 have HDN:=LH hdn
 have HLL:=LH hll
 have hq:=hck.2.1
 simp only at hq
 rw [← hn,← hdn] at hq
 have HQ:=LH hq
 have gw:=hq.lt
 clear hr hdn hu hid hck h0 hpl hll hP hF hq hx
 rw [← hn] at hl
 clear hn
 go_enter Tryz.func54,Tryz.ntmps54
 go_wp2_with fail
 refine (KF.out _ (by repeat (first|with_reducible (first|exact Below.refl _ _|apply Below.drew|apply below_alloc)|((first|with_reducible refine Below.alloc ?_ ?_ _|with_reducible refine Below.setCell ?_ ?_ _);rotate_left;focus (first|(simp <;> omega)|omega))))).mono ?_
 rintro e w1 ⟨rfl,hb⟩
 have HX1:Hid (Below w.heap.size w _):=below_step (by repeat (first|with_reducible (first|exact Below.refl _ _|apply Below.drew|apply below_alloc)|((first|with_reducible refine Below.alloc ?_ ?_ _|with_reducible refine Below.setCell ?_ ?_ _);rotate_left;focus (first|(simp <;> omega)|omega)))) hb
 clear hb KF
 cases F
 case false =>
  go_wp2_with fail
  have e:r=⟨ck,wl,dl⟩:=by rw [HR.out];rfl
  refine bodyPost_ret (v:=.tuple #[]) (by simp [results,Tryz.results54,go_sem]) rfl ?_
  exact ⟨rfl,by rw [e];exact ⟨pl,a1,c1,b1,d1,HK.out.keep HX1.out⟩,Below.step HB.out HX1.out HB.out.size⟩
 have hPn:P < n:=HPF.out rfl
 have hk1:=HK.out.keep HX1.out
 have HK1:=LH hk1
 have hrow:=hk1.2.2.1
 simp only [← HN.out] at hrow
 obtain ⟨g1,cp,hv⟩:=row_form hrow (by omega)
 obtain ⟨rfl,rfl⟩:a1=some ⟨g1,0,none⟩∧c1=cp:=by simpa using hv
 have hkp:P < pl.length:=by rw [HLL.out];exact hPn
 have hxp:pl[P].2=x:=by
  rw [HX.out,List.getD_eq_getElem?_getD,← HPL.out,List.getElem?_map,List.getElem?_eq_getElem hkp];rfl
 have e5:w1.cell? ⟨g1,P * 7+5,none⟩=some (.int .i64 x.time):=by
  rw [hrow.cellAt _ (by omega),flat_get wtCs_len pl P hkp 5 (by omega),← hxp];rfl
 have e6:w1.cell? ⟨g1,P * 7+6,none⟩=some (.bool x.fin):=by
  rw [hrow.cellAt _ (by omega),flat_get wtCs_len pl P hkp 6 (by omega),← hxp];rfl
 have f5:=hrow.frozenAt (P * 7+5)
 have f6:=hrow.frozenAt (P * 7+6)
 have hq1:=HQ.out.step HX1.out
 have hne:g≠g1:=fun e=>row_blk hrow hq1 (by decide) (by rw [e];rfl)
 have hb1:w0.heap.size≤g1:=(hrow.lt _ rfl).1
 obtain ⟨q0,q1,q2,qz⟩:=cells3 hq1
 have p0:(0:Int)≤(P:Int):=by omega
 have p1:(P:Int) < (n:Int):=by omega
 obtain ⟨⟨xi,xg,xt,xk,xb⟩,tm,fn⟩:=x
 simp only at e5 e6 HR
 have HXP:Hid (∃ h:P < pl.length,(pl[P]'h).2=_):=LH ⟨hkp,hxp⟩
 clear hv hrow hk1 hq1 hkp hxp HPF
 cases fn
 case true =>
  go_wp2_with fail
  have e:r=⟨ck,wl,dl⟩:=by rw [HR.out];simp
  refine bodyPost_ret (v:=.tuple #[]) (by simp [results,Tryz.results54,go_sem]) rfl ?_
  exact ⟨rfl,by rw [e];exact ⟨_,_,_,_,_,HK1.out⟩,Below.step HB.out HX1.out HB.out.size⟩
 by_cases ht:time < tm
 ·have htb:decide (time < tm)=true:=by simpa using ht
  have e:r=⟨ck,wl,dl⟩:=by rw [HR.out];simp [ht]
  have HE:=LH e
  clear e HR
  go_wp2_with fail
  refine bodyPost_ret (v:=.tuple #[]) (by simp [results,Tryz.results54,go_sem]) rfl ?_
  exact ⟨rfl,by rw [HE.out];exact ⟨_,_,_,_,_,HK1.out⟩,Below.step HB.out HX1.out HB.out.size⟩
 have htb:decide (time < tm)=false:=by simpa using ht
 have HE:Hid (r=⟨max ck time,wl.set P ⟨⟨xi,xg,xt,xk,xb⟩,time,true⟩,dl⟩):=by rw [HR.out];simp [ht,LH]
 clear HR ht
 go_wp2_with fail
 go_region
 go_wp2_with fail
 obtain ⟨hkp,_⟩:=HXP.out
 have hk2:=CkR.tick (max ck time) (CkR.fin time HK1.out hkp)
 simp only [← HX.out] at hk2
 refine bodyPost_end (v:=.tuple #[]) (by simp [results,Tryz.results54,go_sem]) rfl ⟨rfl,?_,?_⟩
 ·rw [HE.out]
  exact ⟨_,_,_,_,_,hk2⟩
 ·have h3:Below w0.heap.size w0 (((w1.setCell ⟨g1,P * 7+5,none⟩ (.int .i64 time)).setCell ⟨g1,P * 7+6,none⟩ (.bool true)).setCell ⟨g,0,none⟩ (.int .i64 (max ck time))):=(((Below.step HB.out HX1.out HB.out.size).setCell hb1 _).setCell hb1 _).setCell hg _
  exact h3.drew
end Go.Proofs.YtkkohllhebdlcaaGreatDoor
namespace Go.Proofs.YtkkohllhebdlcaaGreatDoor
open Go.RowKit
def minW:Wt→List Wt→Wt
 |m,[]=>m
 |m,x :: l=>minW (if cmpW x m < 0 then x else m) l
theorem minP_snd:∀ (p:Value × Wt) (pl:List (Value × Wt)),(minP p pl).2=minW p.2 (pl.map (·.2))
 |p,[]=>rfl
 |p,x :: l=>by
  rw [minP,minP_snd,List.map_cons,minW]
  split <;> rfl
theorem minP_mem:∀ (p:Value × Wt) (pl:List (Value × Wt)),minP p pl∈p :: pl
 |p,[]=>by simp [minP]
 |p,x :: l=>by
  rw [minP]
  have:=minP_mem (if cmpW x.2 p.2 < 0 then x else p) l
  rcases List.mem_cons.1 this with h|h
  ·rw [h]
   split <;> simp
  ·exact List.mem_cons_of_mem _ (List.mem_cons_of_mem _ h)
def delW {α:Type} (l:List α) (k:Nat):List α:=l.take k++l.drop (k+1)
theorem delW_len {α:Type} {l:List α} {k:Nat} (h:k < l.length):(delW l k).length=l.length - 1:=by
 simp [delW];omega
theorem delW_map {α β:Type} (f:α→β) (l:List α) (k:Nat):(delW l k).map f=delW (l.map f) k:=by
 simp [delW,List.map_take,List.map_drop]
theorem delW_sub {α:Type} (l:List α) (k:Nat):(delW l k).Sublist l:=by
 have h:=(List.Sublist.refl (l.take k)).append (List.drop_sublist_drop_left l (Nat.le_succ k))
 rw [List.take_append_drop] at h
 exact h
theorem delW_mem {α:Type} {l:List α} {k:Nat} {y:α} (h:y∈delW l k):y∈l:=(delW_sub l k).subset h
theorem idsUp_del {l:List Wt} {k:Nat} (h:idsUp l):idsUp (delW l k):=⟨h.1.sublist (delW_sub l k),fun x hx=>h.2 x (delW_mem hx)⟩
theorem del_flat {α:Type} {f:α→List Value} {s:Nat} (hf:∀ x,(f x).length=s) (l:List α) (k:Nat):(delW l k).flatMap f=(l.flatMap f).take (k * s)++(l.flatMap f).drop ((k+1) * s):=by
 rw [flat_take hf,flat_drop hf,delW,List.flatMap_append]
def delS:Nat→Sk→List PM→Sk × List PM
 |0,s,out=>(s,out)
 |f+1,s,out =>
  match s.waits with
  |[]=>(s,out)
  |x :: l=>if (minW x l).fin=true then delS f ⟨s.clock,delW s.waits (posW s.waits (minW x l).msg.id),s.done++[ofW (minW x l)]⟩ (out++[(minW x l).msg]) else (s,out)
def msgC (p:Value × PM):List Value:=msgCs p.1 p.2
theorem msgC_len (p:Value × PM):(msgC p).length=5:=rfl
def OwnMs (w:World) (B:Nat) (v:Value) (l:List PM):Prop:=∃ pl:List (Value × PM),pl.map (·.2)=l∧w.ownsRow B 56 5 v l.length (pl.flatMap msgC)∧∀ p∈pl,OwnI w B p.1 p.2.groups
theorem OwnMs.nil (w:World) (B:Nat):OwnMs w B (.slice none 0 0) []:=⟨[],rfl,World.ownsRow_nil _ _ _ _,fun _ h=>by cases h⟩
theorem OwnMs.keep {w w':World} {B:Nat} {v:Value} {l:List PM} (h:OwnMs w B v l) (hb:Below w.heap.size w w'):OwnMs w' B v l:=by
 obtain ⟨pl,h1,h2,h3⟩:=h
 exact ⟨pl,h1,ownsRow_keep h2 hb,fun p hp=>ownsRow_keep (h3 p hp) hb⟩
theorem OwnMs.row {w w':World} {B B2 s n:Nat} {v u:Value} {l:List PM} {e:TypeId} {xs:List Value} (h:OwnMs w B v l) (h2:w.ownsRow B2 e s u n xs) (hg:w.grownBy w' u.ownBlock) (he:56≠e) (he2:3≠e):OwnMs w' B v l:=by
 obtain ⟨pl,a1,a2,a3⟩:=h
 exact ⟨pl,a1,ownsRow_grown' a2 hg (fun _ hk=>rows_ne a2 h2 he hk),fun p hp=>ownsRow_grown' (a3 p hp) hg (fun _ hk=>rows_ne (a3 p hp) h2 he2 hk)⟩
theorem OwnMs.blk {w w':World} {B g:Nat} {v:Value} {l:List PM} {t:TypeId} {cs:List Value} (h:OwnMs w B v l) (hb:Blk w g t cs) (hh:∀ b,b≠g→w'.heap[b]?=w.heap[b]?) (he:56≠t) (he2:3≠t):OwnMs w' B v l:=by
 obtain ⟨pl,a1,a2,a3⟩:=h
 exact ⟨pl,a1,row_far a2 hh (row_blk a2 hb he),fun p hp=>row_far (a3 p hp) hh (row_blk (a3 p hp) hb he2)⟩
theorem OwnMs.snoc {w w':World} {B n:Nat} {v v' u:Value} {l:List PM} {m:PM} {pl:List (Value × PM)} (h1:pl.map (·.2)=l) (h2:w.ownsRow B 56 5 v n (pl.flatMap msgC)) (h3:∀ p∈pl,OwnI w B p.1 p.2.groups)
  (hu:OwnI w B u m.groups) (hg:w.grownBy w' v.ownBlock) (hv:w'.ownsRow B 56 5 v' (n+1) (pl.flatMap msgC++msgC (u,m))) (hn:n=l.length):OwnMs w' B v' (l++[m]):=by
 have hne:∀ q:Value × PM,OwnI w B q.1 q.2.groups→OwnI w' B q.1 q.2.groups:=fun q hq=>ownsRow_grown' hq hg (fun _ hk=>rows_ne hq h2 (by decide) hk)
 refine ⟨pl++[(u,m)],by simp [h1],?_,fun p hp=>?_⟩
 ·rw [List.length_append,← hn]
  simpa [List.flatMap_append] using hv
 ·rcases List.mem_append.1 hp with hp|hp
  ·exact hne p (h3 p hp)
  ·rw [List.mem_singleton.1 hp]
   exact hne (u,m) hu
theorem CkR.dones {W W1:World} {B g n:Nat} {s:Sk} {pl:List (Value × Wt)} {a1 b1 b2:Option Addr} {c1 d1 d2:Nat} {l:List (Int × Int)} (h:CkR W B g s pl a1 c1 b1 d1) (hg:W.grownBy W1 (Value.ownBlock (.slice b1 s.done.length d1)))
  (hn:n=l.length) (h2:W1.ownsRow B 104 2 (.slice b2 n d2) n (l.flatMap stCells)):CkR (W1.setCell ⟨g,2,none⟩ (.slice b2 n d2)) B g ⟨s.clock,s.waits,l⟩ pl a1 c1 b2 d2:=by
 subst hn
 obtain ⟨e1,e2,e3,e4,e5⟩:=h
 have q1:Blk W1 g 130 [.int .i64 s.clock,.slice a1 s.waits.length c1,.slice b1 s.done.length d1]:=e2.grown hg (row_blk e5 e2 (by decide))
 have w1:W1.ownsRow B 65 7 (.slice a1 s.waits.length c1) s.waits.length (pl.flatMap wtCs):=ownsRow_grown' e3 hg (fun _ hk=>rows_ne e3 e5 (by decide) hk)
 have i1:∀ p∈pl,OwnI W1 B p.1 p.2.msg.groups:=fun p hp=>ownsRow_grown' (e4 p hp) hg (fun _ hk=>rows_ne (e4 p hp) e5 (by decide) hk)
 exact ⟨e1,q1.set_ 2 _,row_far w1 (heap_set _ _ _ _) (row_blk w1 q1 (by decide)),fun p hp=>row_far (i1 p hp) (heap_set _ _ _ _) (row_blk (i1 p hp) q1 (by decide)),row_far h2 (heap_set _ _ _ _) (row_blk h2 q1 (by decide))⟩
theorem CkR.row {W W1:World} {B B2 g sz n:Nat} {s:Sk} {pl:List (Value × Wt)} {a1 b1:Option Addr} {c1 d1:Nat} {u:Value} {e:TypeId} {xs:List Value} (h:CkR W B g s pl a1 c1 b1 d1) (h2:W.ownsRow B2 e sz u n xs) (hg:W.grownBy W1 u.ownBlock)
  (he1:65≠e) (he2:3≠e) (he3:104≠e) (he4:e≠130):CkR W1 B g s pl a1 c1 b1 d1:=by
 obtain ⟨e1,q,e3,e4,e5⟩:=h
 exact ⟨e1,q.grown hg (row_blk h2 q he4),ownsRow_grown' e3 hg (fun _ hk=>rows_ne e3 h2 he1 hk),fun p hp=>ownsRow_grown' (e4 p hp) hg (fun _ hk=>rows_ne (e4 p hp) h2 he2 hk),ownsRow_grown' e5 hg (fun _ hk=>rows_ne e5 h2 he3 hk)⟩
theorem info_msg:(Tryz.prog.info? 56).map (fun i=>(i.zero,i.size,i.bytes))=some (some (.agg #[.int .i64 0,.slice none 0 0,.int .i64 0,.string ByteArray.empty,.string ByteArray.empty]),5,72):=by kernel_rfl
end Go.Proofs.YtkkohllhebdlcaaGreatDoor
namespace Go.Proofs.YtkkohllhebdlcaaGreatDoor
open Go.RowKit Go.Maps Go.WideMaps
section
def SeenI (P:Program) (tk ti:TypeId) (w:World) (b n:Nat) (seen:List Int):Prop :=
 ∃ D:DataW Unit,w.ownsMap P tk (plainElem P ti) b n D∧IsMap D∧∀ s:Int,(s∈seen→D.atKey (.int .i64 s) (.lit (.int .i64 0))=.lit (.int .i64 1))∧(s ∉ seen→D.atKey (.int .i64 s) (.lit (.int .i64 0))=.lit (.int .i64 0))
variable {P:Program} {tk ti tm:TypeId} {w w':World} {b n:Nat} {seen:List Int}
theorem SeenI.made (P:Program) (tk ti:TypeId) (w:World):SeenI P tk ti (w.alloc (.map #[] 0)) w.heap.size 0 [] :=
 ⟨.map [],World.ownsMap_made _ _ _ _,⟨_,rfl⟩,fun _=>⟨fun h=>absurd h (by simp),fun _=>by simp [DataW.atKey]⟩⟩
theorem SeenI.lt (h:SeenI P tk ti w b n seen):b < w.heap.size:=h.choose_spec.1.lt
theorem SeenI.same (h:SeenI P tk ti w b n seen) (hb:w'.heap[b]?=w.heap[b]?):SeenI P tk ti w' b n seen:=by
 obtain ⟨D,⟨es,clock,e1,e2⟩,h2,h3⟩:=h
 exact ⟨D,⟨es,clock,by rw [hb];exact e1,e2⟩,h2,h3⟩
theorem SeenI.below (h:SeenI P tk ti w b n seen) (hb:Below w.heap.size w w'):SeenI P tk ti w' b n seen:=h.same (hb.block b h.lt)
theorem SeenI.look (h:SeenI P tk ti w b n seen) (hk:P.underlying tk=some (.int .i64)) (hm:P.underlying tm=some (.map tk ti)) (hti:P.underlying ti=some (.int .i64)) (hz:(zeroValue ti).run P w=.ok (.int .i64 0) w) {s:Int} (hs:(Lit.int .i64 s).wf=true) (c:Int)
  (hc:(s∈seen∧c=1)∨(s ∉ seen∧c=0)):(Instr.lookup tm (.map (some b)) (.int .i64 s) false).run P w=.ok (.int .i64 c) w:=by
 obtain ⟨D,h1,h2,h3⟩:=h
 obtain ⟨c',hrun,hat,_⟩:=h1.lookup_int (int_keyed hk) hm hti hz (keyOf_int_mk hk hs)
 rcases hc with ⟨hi,rfl⟩|⟨hi,rfl⟩
 ·rw [(h3 s).1 hi] at hat
  cases hat
  exact hrun
 ·rw [(h3 s).2 hi] at hat
  cases hat
  exact hrun
theorem SeenI.store (h:SeenI P tk ti w b n seen) (hk:P.underlying tk=some (.int .i64)) (hm:P.underlying tm=some (.map tk ti)) (hti:P.underlying ti=some (.int .i64)) (hn:n < maxLen) {s:Int} (hs:(Lit.int .i64 s).wf=true) :
  ∃ w',(Instr.mapUpdate tm (.map (some b)) (.int .i64 s) (.int .i64 1)).run P w=.ok () w'∧SeenI P tk ti w' b (n+1) (s :: seen)∧w.grownBy w' (some b):=by
 obtain ⟨D,h1,h2,h3⟩:=h
 obtain ⟨w',hrun,hown,hg⟩:=h1.update (int_keyed hk) hm hn (keyOf_int_mk hk hs) (plainElem_int hti (a:=1) (by decide))
 refine ⟨w',hrun,⟨_,hown,?_,fun u=>?_⟩,hg⟩
 ·obtain ⟨l,rfl⟩:=h2
  exact ⟨_,rfl⟩
 ·by_cases hu:u=s
  ·rw [hu]
   have e:=atKey_put_same (H:=Unit) h2 (k:=.int .i64 s) trivial (.lit (.int .i64 1)) (.lit (.int .i64 0))
   exact ⟨fun _=>e,fun h=>absurd (List.mem_cons_self) h⟩
  ·have hne:Lit.int .i64 u≠Lit.int .i64 s:=fun e=>hu (by injection e)
   have e:=atKey_put_other (H:=Unit) (D:=D) hne (.lit (.int .i64 1)) (.lit (.int .i64 0))
   refine ⟨fun h=>?_,fun h=>?_⟩
   ·rw [e]
    exact (h3 u).1 ((List.mem_cons.1 h).resolve_left hu)
   ·rw [e]
    exact (h3 u).2 (fun h'=>h (List.mem_cons_of_mem _ h'))
theorem wf_small {s:Int} (h:smallI s):(Lit.int .i64 s).wf=true:=by
 unfold smallI at h
 simp only [Lit.wf,IntKind.min,IntKind.max,IntKind.signed,IntKind.bits,Bool.and_eq_true,decide_eq_true_eq,if_true]
 omega
end
def chkD (ck:Int):Option (Int × Int)→List Int→List (Int × Int)→Bool
 |_,_,[]=>true
 |last,seen,x :: l=>okSt x && !decide (x.1 < 1) && !decide (ck < x.1) && (match last with|none=>true|some y=>lessB y.1 y.2 x.1 x.2) && !decide (x.2∈seen) && chkD ck (some x) (x.2 :: seen) l
def chkW (ck:Int) (ids:List Int) (d:Option (Int × Int)):Option Int→List Wt→Bool
 |_,[]=>true
 |prev,y :: l=>msgB y.msg && !decide (y.time < 1) && !decide (ck < y.time) && (match prev with|none=>true|some p=>!decide (y.msg.id≤p)) && !decide (y.msg.id∈ids) && (match d with|none=>true|some x=>lessB x.1 x.2 y.time y.msg.id) && chkW ck ids d (some y.msg.id) l
def headS (s:Sk):Bool:=!decide (s.clock < 0) && !decide (1073741824 < s.clock) && !decide (200 < s.waits.length) && !decide (200 < s.done.length)
def minS (l:List Wt):Bool:=match l with|[]=>false|x :: l=>(minW x l).fin
def chkS (s:Sk):Bool:=headS s && chkD s.clock none [] s.done && chkW s.clock (s.done.map (·.2)) s.done.getLast? none s.waits && !minS s.waits
end Go.Proofs.YtkkohllhebdlcaaGreatDoor
namespace Go.Proofs.YtkkohllhebdlcaaGreatDoor
open Go.RowKit
theorem zero_intC (w:World):(zeroValue 3).run Tryz.prog w=.ok (.int .i64 0) w:=by kernel_rfl
set_option maxHeartbeats 4000000 in
theorem skChk_head {ck:Int} {a b:Option Addr} {n c dn d:Nat} {w:World}
  (h:ck < 0∨(0≤ck∧(1073741824 < ck∨(ck≤1073741824∧((200:Int) < (n:Int)∨((n:Int)≤200∧(200:Int) < (dn:Int))))))) :
  Calls Tryz.prog 52 #[.agg #[.int .i64 ck,.slice a n c,.slice b dn d]] w fun e w'=>e=.returned (.int .i64 8)∧Below w.heap.size w w':=by
 rcases h with h1|⟨h1,h2|⟨h2,h3|⟨h3,h4⟩⟩⟩
 all_goals
  go_enter Tryz.func52,Tryz.ntmps52
  go_wp2_with fail
  go_ret
  exact ⟨rfl,(Below.refl _ _).alloc (Nat.le_refl _) _⟩
end Go.Proofs.YtkkohllhebdlcaaGreatDoor
