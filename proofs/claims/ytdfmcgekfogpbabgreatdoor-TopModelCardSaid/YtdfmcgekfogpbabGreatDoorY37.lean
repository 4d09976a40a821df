/-
  Proved here: command.text, command.Write at the two commands of the statements' exa
-/
import Derived.Test.YtdfmcgekfogpbabGreatDoorY36
set_option maxRecDepth 100000
namespace Go.Proofs.YtdfmcgekfogpbabGreatDoor
open Go.RowKit
theorem conv_own {w:World} {B:Nat} {a:Option Addr} {n cap:Nat} {l:List Int} (h:OwnB w B (.slice a n cap) l) (hn:n=l.length) (h0:0 < n):(convert 132 9 (.slice a n cap)).run Tryz.prog w=.ok (.string (strOfNums l)) w:=by
 have h2:=h.2
 rcases h2 with ⟨hv,hz⟩|⟨g,cp,cur,hv,_⟩
 ·omega
 ·cases hv
  refine run_convert_bytes_arg w 132 5 Tryz.underlying132 Tryz.underlying5 g 0 _ _ _ rfl (fun i hi=>?_) _ Tryz.underlying9
  have:=World.ownsRow.cells (g:=g) h rfl i (.int .u8 (l.getD i 0)) (by simp [byteVs,List.getD,hi])
  rw [Addr.add_lit] at this
  simpa using this
theorem BoxB.keep {w w':World} {B g:Nat} {l:List Int} (h:BoxB w B g l) (hb:Below w.heap.size w w'):BoxB w' B g l:=by
 obtain ⟨a,n,cap,h1,h2,h3⟩:=h
 exact ⟨a,n,cap,h1,h2.step hb,ownsRow_keep h3 hb⟩
def textA:ByteArray:=strOfNums [1,7,1,0,1,0,0]
def textB:ByteArray:=strOfNums [2,7,1]
def comA:PC:=⟨1,⟨7,[0],1,⟨#[]⟩,⟨#[]⟩⟩,0,0,[],0,0,0⟩
def comB:PC:=⟨2,⟨0,[],0,⟨#[]⟩,⟨#[]⟩⟩,7,1,[],0,0,0⟩
theorem ok_comA:okCom comA=true:=by decide +kernel
theorem ok_comB:okCom comB=true:=by decide +kernel
set_option maxHeartbeats 4000000 in
set_option maxRecDepth 100000 in
theorem text_a {w:World} {ga:Option Addr} {gc:Nat} (hg0:IntsR w (.slice ga 1 gc) [0]):Calls Tryz.prog 80 #[.agg #[.int .u8 1,.int .i64 7,.slice ga 1 gc,.int .i64 1,.string ⟨#[]⟩,.string ⟨#[]⟩,.int .i64 0,.int .i64 0,.slice none 0 0,.int .i64 0,.int .i64 0,.int .i64 0]] w fun e w'=>e=.returned (.string textA)∧Below w.heap.size w w':=by
 have HI:=LH hg0
 clear hg0
 go_enter Tryz.func80,Tryz.ntmps80
 go_upto_region 2 with fail
 obtain ⟨w0,hw0⟩:∃ w0,w0=w.alloc (.cells #[.int .u8 1,.int .i64 7,.slice ga 1 gc,.int .i64 1,.string ⟨#[]⟩,.string ⟨#[]⟩,.int .i64 0,.int .i64 0,.slice none 0 0,.int .i64 0,.int .i64 0,.int .i64 0] 79):=⟨_,rfl⟩
 have HC0:Hid (Blk w0 w.heap.size 79 [.int .u8 1,.int .i64 7,.slice ga 1 gc,.int .i64 1,.string ⟨#[]⟩,.string ⟨#[]⟩,.int .i64 0,.int .i64 0,.slice none 0 0,.int .i64 0,.int .i64 0,.int .i64 0]):=LH (by rw [hw0];exact Blk.new rfl)
 have HW:Hid (Below w.heap.size w w0):=LH (by rw [hw0];exact (Below.refl _ _).alloc (Nat.le_refl _) _)
 have hz:w0.heap.size=w.heap.size+1:=by rw [hw0];simp
 rw [← hw0]
 have HB0:Hid (Below w0.heap.size w0 ((w0.alloc (.cells #[.int .u8 1] 5)).alloc (.cells #[.slice (some ⟨w0.heap.size,0,none⟩) 1 1] 132))):=LH (((Below.refl _ _).alloc (Nat.le_refl _) _).alloc (by simp) _)
 have HX0:Hid (BoxB ((w0.alloc (.cells #[.int .u8 1] 5)).alloc (.cells #[.slice (some ⟨w0.heap.size,0,none⟩) 1 1] 132)) w0.heap.size (w.heap.size+2) [1]):=LH ⟨_,1,1,rfl,Blk.new (by simp;omega),ownsRow_keep (World.ownsRow_lit (base:=w0.heap.size) (e:=5) (size:=1) w0 #[.int .u8 1] 1 (Nat.le_refl _) (by unfold maxLen;omega) rfl) ((Below.refl _ _).alloc (Nat.le_refl _) _)⟩
 clear hw0
 have e1:w.heap.size+1=w0.heap.size:=hz.symm
 try rw [e1]
 generalize ((w0.alloc (.cells #[.int .u8 1] 5)).alloc (.cells #[.slice (some ⟨w0.heap.size,0,none⟩) 1 1] 132))=u0 at HB0 HX0 ⊢
 clear e1
 have hg:w0.heap.size≤w.heap.size+2:=by omega
 obtain ⟨⟨⟨p0,p1,p2,p3⟩,⟨p4,p5,p6,p7⟩,p8,p9,p10,p11⟩,pz⟩:=cells12 (HC0.out.step HB0.out)
 have cl:=(HC0.out.step HB0.out).lt
 go_wp2_with fail
 refine (add_one (w0:=w0) (g:=w.heap.size+2) (bs:=[1]) (x:=7) (HB0.out.alloc HB0.out.size _) hg (HX0.out.keep ((Below.refl _ _).alloc (Nat.le_refl _) _)) (Blk.new (cs:=[.int .i64 7]) rfl) (by omega) (by simp)).mono ?_
 rintro e u1 ⟨rfl,hx,hb⟩
 have HX1:Hid (BoxB u1 w0.heap.size (w.heap.size+2) ([1]++[7])):=LH hx
 have HB1:=LH hb
 clear hx hb p0 p1 p2 p3 p4 p5 p6 p7 p8 p9 p10 p11 pz cl
 obtain ⟨⟨⟨p0,p1,p2,p3⟩,⟨p4,p5,p6,p7⟩,p8,p9,p10,p11⟩,pz⟩:=cells12 (HC0.out.step HB1.out)
 have cl:=(HC0.out.step HB1.out).lt
 go_wp2_with fail
 refine (ints_box (w0:=w0) (g:=w.heap.size+2) (bs:=[1]++[7]) (x:=0) HB1.out hg HX1.out (HI.out.below (below_step HW.out HB1.out)) (by omega) (by omega) (by simp)).mono ?_
 rintro e u2 ⟨rfl,hx,hb⟩
 have HX2:Hid (BoxB u2 w0.heap.size (w.heap.size+2) ([1]++[7]++[1,0])):=LH hx
 have HB2:=LH hb
 clear hx hb p0 p1 p2 p3 p4 p5 p6 p7 p8 p9 p10 p11 pz cl
 obtain ⟨⟨⟨p0,p1,p2,p3⟩,⟨p4,p5,p6,p7⟩,p8,p9,p10,p11⟩,pz⟩:=cells12 (HC0.out.step HB2.out)
 have cl:=(HC0.out.step HB2.out).lt
 go_wp2_with fail
 refine (add_one (w0:=w0) (g:=w.heap.size+2) (bs:=[1]++[7]++[1,0]) (x:=1) (HB2.out.alloc HB2.out.size _) hg (HX2.out.keep ((Below.refl _ _).alloc (Nat.le_refl _) _)) (Blk.new (cs:=[.int .i64 1]) rfl) (by omega) (by simp)).mono ?_
 rintro e u3 ⟨rfl,hx,hb⟩
 have HX3:Hid (BoxB u3 w0.heap.size (w.heap.size+2) ([1]++[7]++[1,0]++[1])):=LH hx
 have HB3:=LH hb
 clear hx hb p0 p1 p2 p3 p4 p5 p6 p7 p8 p9 p10 p11 pz cl
 obtain ⟨⟨⟨p0,p1,p2,p3⟩,⟨p4,p5,p6,p7⟩,p8,p9,p10,p11⟩,pz⟩:=cells12 (HC0.out.step HB3.out)
 have cl:=(HC0.out.step HB3.out).lt
 go_wp2_with fail
 refine (put_box (w0:=w0) (g:=w.heap.size+2) (s:=⟨#[]⟩) (bs:=[1]++[7]++[1,0]++[1]) HB3.out hg HX3.out (by decide) (by simp)).mono ?_
 rintro e u4 ⟨rfl,hx,hb⟩
 have HX4:Hid (BoxB u4 w0.heap.size (w.heap.size+2) ([1]++[7]++[1,0]++[1]++[0])):=LH hx
 have HB4:=LH hb
 clear hx hb p0 p1 p2 p3 p4 p5 p6 p7 p8 p9 p10 p11 pz cl
 obtain ⟨⟨⟨p0,p1,p2,p3⟩,⟨p4,p5,p6,p7⟩,p8,p9,p10,p11⟩,pz⟩:=cells12 (HC0.out.step HB4.out)
 have cl:=(HC0.out.step HB4.out).lt
 go_wp2_with fail
 refine (put_box (w0:=w0) (g:=w.heap.size+2) (s:=⟨#[]⟩) (bs:=[1]++[7]++[1,0]++[1]++[0]) HB4.out hg HX4.out (by decide) (by simp)).mono ?_
 rintro e u5 ⟨rfl,hx,hb⟩
 have HX5:Hid (BoxB u5 w0.heap.size (w.heap.size+2) ([1]++[7]++[1,0]++[1]++[0]++[0])):=LH hx
 have HB5:=LH hb
 clear hx hb p0 p1 p2 p3 p4 p5 p6 p7 p8 p9 p10 p11 pz cl
 obtain ⟨⟨⟨p0,p1,p2,p3⟩,⟨p4,p5,p6,p7⟩,p8,p9,p10,p11⟩,pz⟩:=cells12 (HC0.out.step HB5.out)
 have cl:=(HC0.out.step HB5.out).lt
 obtain ⟨a,n,cap,hn,hq,ho⟩:=HX5.out
 have q:=hq.cell 0
 have hcv:=conv_own ho hn (by rw [hn];simp)
 have hl:strOfNums ([1]++[7]++[1,0]++[1]++[0]++[0])=textA:=rfl
 rw [hl] at hcv
 clear hn hq ho hl
 go_wp2_with fail
 go_ret
 exact ⟨rfl,below_step HW.out HB5.out⟩
set_option maxHeartbeats 4000000 in
set_option maxRecDepth 100000 in
theorem text_b {w:World}:Calls Tryz.prog 80 #[.agg #[.int .u8 2,.int .i64 0,.slice none 0 0,.int .i64 0,.string ⟨#[]⟩,.string ⟨#[]⟩,.int .i64 7,.int .i64 1,.slice none 0 0,.int .i64 0,.int .i64 0,.int .i64 0]] w fun e w'=>e=.returned (.string textB)∧Below w.heap.size w w':=by
 go_enter Tryz.func80,Tryz.ntmps80
 go_upto_region 2 with fail
 obtain ⟨w0,hw0⟩:∃ w0,w0=w.alloc (.cells #[.int .u8 2,.int .i64 0,.slice none 0 0,.int .i64 0,.string ⟨#[]⟩,.string ⟨#[]⟩,.int .i64 7,.int .i64 1,.slice none 0 0,.int .i64 0,.int .i64 0,.int .i64 0] 79):=⟨_,rfl⟩
 have HC0:Hid (Blk w0 w.heap.size 79 [.int .u8 2,.int .i64 0,.slice none 0 0,.int .i64 0,.string ⟨#[]⟩,.string ⟨#[]⟩,.int .i64 7,.int .i64 1,.slice none 0 0,.int .i64 0,.int .i64 0,.int .i64 0]):=LH (by rw [hw0];exact Blk.new rfl)
 have HW:Hid (Below w.heap.size w w0):=LH (by rw [hw0];exact (Below.refl _ _).alloc (Nat.le_refl _) _)
 have hz:w0.heap.size=w.heap.size+1:=by rw [hw0];simp
 rw [← hw0]
 have HB0:Hid (Below w0.heap.size w0 ((w0.alloc (.cells #[.int .u8 2] 5)).alloc (.cells #[.slice (some ⟨w0.heap.size,0,none⟩) 1 1] 132))):=LH (((Below.refl _ _).alloc (Nat.le_refl _) _).alloc (by simp) _)
 have HX0:Hid (BoxB ((w0.alloc (.cells #[.int .u8 2] 5)).alloc (.cells #[.slice (some ⟨w0.heap.size,0,none⟩) 1 1] 132)) w0.heap.size (w.heap.size+2) [2]):=LH ⟨_,1,1,rfl,Blk.new (by simp;omega),ownsRow_keep (World.ownsRow_lit (base:=w0.heap.size) (e:=5) (size:=1) w0 #[.int .u8 2] 1 (Nat.le_refl _) (by unfold maxLen;omega) rfl) ((Below.refl _ _).alloc (Nat.le_refl _) _)⟩
 clear hw0
 have e1:w.heap.size+1=w0.heap.size:=hz.symm
 try rw [e1]
 generalize ((w0.alloc (.cells #[.int .u8 2] 5)).alloc (.cells #[.slice (some ⟨w0.heap.size,0,none⟩) 1 1] 132))=u0 at HB0 HX0 ⊢
 clear e1
 have hg:w0.heap.size≤w.heap.size+2:=by omega
 obtain ⟨⟨⟨p0,p1,p2,p3⟩,⟨p4,p5,p6,p7⟩,p8,p9,p10,p11⟩,pz⟩:=cells12 (HC0.out.step HB0.out)
 have cl:=(HC0.out.step HB0.out).lt
 go_wp2_with fail
 refine (add_two (w0:=w0) (g:=w.heap.size+2) (bs:=[2]) (x:=7) (y:=1) (HB0.out.alloc HB0.out.size _) hg (HX0.out.keep ((Below.refl _ _).alloc (Nat.le_refl _) _)) (Blk.new (cs:=[.int .i64 7,.int .i64 1]) rfl) (by omega) (by simp)).mono ?_
 rintro e u1 ⟨rfl,hx,hb⟩
 have HX1:Hid (BoxB u1 w0.heap.size (w.heap.size+2) ([2]++[7,1])):=LH hx
 have HB1:=LH hb
 clear hx hb p0 p1 p2 p3 p4 p5 p6 p7 p8 p9 p10 p11 pz cl
 obtain ⟨⟨⟨p0,p1,p2,p3⟩,⟨p4,p5,p6,p7⟩,p8,p9,p10,p11⟩,pz⟩:=cells12 (HC0.out.step HB1.out)
 have cl:=(HC0.out.step HB1.out).lt
 obtain ⟨a,n,cap,hn,hq,ho⟩:=HX1.out
 have q:=hq.cell 0
 have hcv:=conv_own ho hn (by rw [hn];simp)
 have hl:strOfNums ([2]++[7,1])=textB:=rfl
 rw [hl] at hcv
 clear hn hq ho hl
 go_wp2_with fail
 go_ret
 exact ⟨rfl,below_step HW.out HB1.out⟩
set_option maxHeartbeats 2000000 in
set_option maxRecDepth 100000 in
theorem write_a {w:World} {ga:Option Addr} {gc:Nat} (hg0:IntsR w (.slice ga 1 gc) [0]):Calls Tryz.prog 42 #[.agg #[.int .u8 1,.int .i64 7,.slice ga 1 gc,.int .i64 1,.string ⟨#[]⟩,.string ⟨#[]⟩,.int .i64 0,.int .i64 0,.slice none 0 0,.int .i64 0,.int .i64 0,.int .i64 0]] w fun e w'=>e=.returned (.tuple #[.string textA,.int .i64 0])∧Below w.heap.size w w':=by
 have KC:Hid (∀ W,Below w.heap.size w W→Calls Tryz.prog 54 #[.agg #[.int .u8 1,.int .i64 7,.slice ga 1 gc,.int .i64 1,.string ⟨#[]⟩,.string ⟨#[]⟩,.int .i64 0,.int .i64 0,.slice none 0 0,.int .i64 0,.int .i64 0,.int .i64 0]] W fun e w'=>e=.returned (.int .i64 0)∧Below W.heap.size W w'):=fun W hW=>by
  have h:=chkCom_any (w:=W) (c:=comA) (v:=.agg #[.int .u8 1,.int .i64 7,.slice ga 1 gc,.int .i64 1,.string ⟨#[]⟩,.string ⟨#[]⟩,.int .i64 0,.int .i64 0,.slice none 0 0,.int .i64 0,.int .i64 0,.int .i64 0]) (x:=0) ⟨ga,gc,none,0,rfl,hg0.below hW,ints_nil _⟩ (by rw [ok_comA];rfl)
  exact h
 have KT:Hid (∀ W,Below w.heap.size w W→Calls Tryz.prog 80 #[.agg #[.int .u8 1,.int .i64 7,.slice ga 1 gc,.int .i64 1,.string ⟨#[]⟩,.string ⟨#[]⟩,.int .i64 0,.int .i64 0,.slice none 0 0,.int .i64 0,.int .i64 0,.int .i64 0]] W fun e w'=>e=.returned (.string textA)∧Below W.heap.size W w'):=fun W hW=>text_a (hg0.below hW)
 clear hg0
 go_enter Tryz.func42,Tryz.ntmps42
 go_wp2_with fail
 refine (KC.out _ (by repeat (first|with_reducible (first|exact Below.refl _ _|apply Below.drew|apply below_alloc)|((first|with_reducible refine Below.alloc ?_ ?_ _|with_reducible refine Below.setCell ?_ ?_ _);rotate_left;focus (first|(simp <;> omega)|omega))))).mono ?_
 rintro e w1 ⟨rfl,hb⟩
 have HB1:Hid (Below w.heap.size w w1):=below_step (by repeat (first|with_reducible (first|exact Below.refl _ _|apply Below.drew|apply below_alloc)|((first|with_reducible refine Below.alloc ?_ ?_ _|with_reducible refine Below.setCell ?_ ?_ _);rotate_left;focus (first|(simp <;> omega)|omega)))) hb
 have HC1:Hid (Blk w1 w.heap.size 79 [.int .u8 1,.int .i64 7,.slice ga 1 gc,.int .i64 1,.string ⟨#[]⟩,.string ⟨#[]⟩,.int .i64 0,.int .i64 0,.slice none 0 0,.int .i64 0,.int .i64 0,.int .i64 0]):=LH (Blk.step (by repeat (first|with_reducible exact Blk.new rfl|((with_reducible apply Blk.new);focus (first|rfl|(simp <;> omega)))|with_reducible (first|apply Blk.drew|apply Blk.alloc|apply Blk.set_)|((with_reducible apply Blk.far);rotate_left;focus (first|(simp <;> omega)|omega)))) hb)
 clear hb
 obtain ⟨⟨⟨p0,p1,p2,p3⟩,⟨p4,p5,p6,p7⟩,p8,p9,p10,p11⟩,pz⟩:=cells12 HC1.out
 go_wp2_with fail
 refine (KT.out _ HB1.out).mono ?_
 rintro e w2 ⟨rfl,hb⟩
 have HB2:Hid (Below w.heap.size w w2):=below_step HB1.out hb
 clear hb p0 p1 p2 p3 p4 p5 p6 p7 p8 p9 p10 p11 pz
 go_wp2_with fail
 exact bodyPost_ret (v:=.tuple #[.string textA,.int .i64 0]) (by simp [results,Tryz.results42,go_sem]) rfl ⟨rfl,HB2.out⟩
set_option maxHeartbeats 2000000 in
set_option maxRecDepth 100000 in
theorem write_b {w:World}:Calls Tryz.prog 42 #[.agg #[.int .u8 2,.int .i64 0,.slice none 0 0,.int .i64 0,.string ⟨#[]⟩,.string ⟨#[]⟩,.int .i64 7,.int .i64 1,.slice none 0 0,.int .i64 0,.int .i64 0,.int .i64 0]] w fun e w'=>e=.returned (.tuple #[.string textB,.int .i64 0])∧Below w.heap.size w w':=by
 have KC:Hid (∀ W,Below w.heap.size w W→Calls Tryz.prog 54 #[.agg #[.int .u8 2,.int .i64 0,.slice none 0 0,.int .i64 0,.string ⟨#[]⟩,.string ⟨#[]⟩,.int .i64 7,.int .i64 1,.slice none 0 0,.int .i64 0,.int .i64 0,.int .i64 0]] W fun e w'=>e=.returned (.int .i64 0)∧Below W.heap.size W w'):=fun W hW=>by
  have h:=chkCom_any (w:=W) (c:=comB) (v:=.agg #[.int .u8 2,.int .i64 0,.slice none 0 0,.int .i64 0,.string ⟨#[]⟩,.string ⟨#[]⟩,.int .i64 7,.int .i64 1,.slice none 0 0,.int .i64 0,.int .i64 0,.int .i64 0]) (x:=0) ⟨none,0,none,0,rfl,ints_nil _,ints_nil _⟩ (by rw [ok_comB];rfl)
  exact h
 have KT:Hid (∀ W,Below w.heap.size w W→Calls Tryz.prog 80 #[.agg #[.int .u8 2,.int .i64 0,.slice none 0 0,.int .i64 0,.string ⟨#[]⟩,.string ⟨#[]⟩,.int .i64 7,.int .i64 1,.slice none 0 0,.int .i64 0,.int .i64 0,.int .i64 0]] W fun e w'=>e=.returned (.string textB)∧Below W.heap.size W w'):=fun W hW=>text_b
 go_enter Tryz.func42,Tryz.ntmps42
 go_wp2_with fail
 refine (KC.out _ (by repeat (first|with_reducible (first|exact Below.refl _ _|apply Below.drew|apply below_alloc)|((first|with_reducible refine Below.alloc ?_ ?_ _|with_reducible refine Below.setCell ?_ ?_ _);rotate_left;focus (first|(simp <;> omega)|omega))))).mono ?_
 rintro e w1 ⟨rfl,hb⟩
 have HB1:Hid (Below w.heap.size w w1):=below_step (by repeat (first|with_reducible (first|exact Below.refl _ _|apply Below.drew|apply below_alloc)|((first|with_reducible refine Below.alloc ?_ ?_ _|with_reducible refine Below.setCell ?_ ?_ _);rotate_left;focus (first|(simp <;> omega)|omega)))) hb
 have HC1:Hid (Blk w1 w.heap.size 79 [.int .u8 2,.int .i64 0,.slice none 0 0,.int .i64 0,.string ⟨#[]⟩,.string ⟨#[]⟩,.int .i64 7,.int .i64 1,.slice none 0 0,.int .i64 0,.int .i64 0,.int .i64 0]):=LH (Blk.step (by repeat (first|with_reducible exact Blk.new rfl|((with_reducible apply Blk.new);focus (first|rfl|(simp <;> omega)))|with_reducible (first|apply Blk.drew|apply Blk.alloc|apply Blk.set_)|((with_reducible apply Blk.far);rotate_left;focus (first|(simp <;> omega)|omega)))) hb)
 clear hb
 obtain ⟨⟨⟨p0,p1,p2,p3⟩,⟨p4,p5,p6,p7⟩,p8,p9,p10,p11⟩,pz⟩:=cells12 HC1.out
 go_wp2_with fail
 refine (KT.out _ HB1.out).mono ?_
 rintro e w2 ⟨rfl,hb⟩
 have HB2:Hid (Below w.heap.size w w2):=below_step HB1.out hb
 clear hb p0 p1 p2 p3 p4 p5 p6 p7 p8 p9 p10 p11 pz
 go_wp2_with fail
 exact bodyPost_ret (v:=.tuple #[.string textB,.int .i64 0]) (by simp [results,Tryz.results42,go_sem]) rfl ⟨rfl,HB2.out⟩
end Go.Proofs.YtdfmcgekfogpbabGreatDoor
