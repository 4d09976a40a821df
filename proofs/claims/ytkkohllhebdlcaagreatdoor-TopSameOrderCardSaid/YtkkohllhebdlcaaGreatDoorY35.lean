/-
  Proved here: command.text, command.Write at the two commands of the statements' exa Rows of given times in memory. slices.IndexFunc at them, order.table's order.table.final. Condition: a message's groups are not below 0. Messages by their ids, as a map that a call keeps to itself. No progra A list of lists of texts as an argument. No program in sight.
-/
import Derived.Test.YtkkohllhebdlcaaGreatDoorY34
import Derived.Maps.Own
set_option maxRecDepth 100000
namespace Go.Proofs.YtkkohllhebdlcaaGreatDoor
open Go.RowKit
theorem conv_own {w:World} {B:Nat} {a:Option Addr} {n cap:Nat} {l:List Int} (h:OwnB w B (.slice a n cap) l) (hn:n=l.length) (h0:0 < n):(convert 149 9 (.slice a n cap)).run Tryz.prog w=.ok (.string (strOfNums l)) w:=by
 have h2:=h.2
 rcases h2 with ⟨hv,hz⟩|⟨g,cp,cur,hv,_⟩
 ·omega
 ·cases hv
  refine run_convert_bytes_arg w 149 5 Tryz.underlying149 Tryz.underlying5 g 0 _ _ _ rfl (fun i hi=>?_) _ Tryz.underlying9
  have:=World.ownsRow.cells (g:=g) h rfl i (.int .u8 (l.getD i 0)) (by simp [byteVs,List.getD,hi])
  rw [Addr.add_lit] at this
  simpa using this
theorem BoxB.keep {w w':World} {B g:Nat} {l:List Int} (h:BoxB w B g l) (hb:Below w.heap.size w w'):BoxB w' B g l:=by
 obtain ⟨a,n,cap,h1,h2,h3⟩:=h
 exact ⟨a,n,cap,h1,h2.step hb,ownsRow_keep h3 hb⟩
def textA:ByteArray:=strOfNums [1,7,1,0,1,0,0]
def textB:ByteArray:=strOfNums [2,7,1]
def comA:PC:=⟨1,⟨7,[0],1,⟨#[]⟩,⟨#[]⟩⟩,0,0,[],0,0,0⟩
def comB:PC:=⟨2,⟨0,[],0,⟨#[]⟩,⟨#[]⟩⟩,7,1,[],0,0,0⟩
theorem ok_comA:okCom comA=true:=by decide +kernel
theorem ok_comB:okCom comB=true:=by decide +kernel
set_option maxHeartbeats 4000000 in
set_option maxRecDepth 100000 in
theorem text_a {w:World} {ga:Option Addr} {gc:Nat} (hg0:IntsR w (.slice ga 1 gc) [0]):Calls Tryz.prog 48 #[.agg #[.int .u8 1,.int .i64 7,.slice ga 1 gc,.int .i64 1,.string ⟨#[]⟩,.string ⟨#[]⟩,.int .i64 0,.int .i64 0,.slice none 0 0,.int .i64 0,.int .i64 0,.int .i64 0]] w fun e w'=>e=.returned (.string textA)∧Below w.heap.size w w':=by
 have HI:=LH hg0
 clear hg0
 go_enter Tryz.func48,Tryz.ntmps48
 go_upto_region 2 with fail
 obtain ⟨w0,hw0⟩:∃ w0,w0=w.alloc (.cells #[.int .u8 1,.int .i64 7,.slice ga 1 gc,.int .i64 1,.string ⟨#[]⟩,.string ⟨#[]⟩,.int .i64 0,.int .i64 0,.slice none 0 0,.int .i64 0,.int .i64 0,.int .i64 0] 58):=⟨_,rfl⟩
 have HC0:Hid (Blk w0 w.heap.size 58 [.int .u8 1,.int .i64 7,.slice ga 1 gc,.int .i64 1,.string ⟨#[]⟩,.string ⟨#[]⟩,.int .i64 0,.int .i64 0,.slice none 0 0,.int .i64 0,.int .i64 0,.int .i64 0]):=LH (by rw [hw0];exact Blk.new rfl)
 have HW:Hid (Below w.heap.size w w0):=LH (by rw [hw0];exact (Below.refl _ _).alloc (Nat.le_refl _) _)
 have hz:w0.heap.size=w.heap.size+1:=by rw [hw0];simp
 rw [← hw0]
 have HB0:Hid (Below w0.heap.size w0 ((w0.alloc (.cells #[.int .u8 1] 5)).alloc (.cells #[.slice (some ⟨w0.heap.size,0,none⟩) 1 1] 149))):=LH (((Below.refl _ _).alloc (Nat.le_refl _) _).alloc (by simp) _)
 have HX0:Hid (BoxB ((w0.alloc (.cells #[.int .u8 1] 5)).alloc (.cells #[.slice (some ⟨w0.heap.size,0,none⟩) 1 1] 149)) w0.heap.size (w.heap.size+2) [1]):=LH ⟨_,1,1,rfl,Blk.new (by simp;omega),ownsRow_keep (World.ownsRow_lit (base:=w0.heap.size) (e:=5) (size:=1) w0 #[.int .u8 1] 1 (Nat.le_refl _) (by unfold maxLen;omega) rfl) ((Below.refl _ _).alloc (Nat.le_refl _) _)⟩
 clear hw0
 have e1:w.heap.size+1=w0.heap.size:=hz.symm
 try rw [e1]
 generalize ((w0.alloc (.cells #[.int .u8 1] 5)).alloc (.cells #[.slice (some ⟨w0.heap.size,0,none⟩) 1 1] 149))=u0 at HB0 HX0 ⊢
 clear e1
 have hg:w0.heap.size≤w.heap.size+2:=by omega
 obtain ⟨⟨⟨p0,p1,p2,p3⟩,⟨p4,p5,p6,p7⟩,p8,p9,p10,p11⟩,pz⟩:=cells12 (HC0.out.step HB0.out)
 have cl:=(HC0.out.step HB0.out).lt
 go_wp2_with fail
 refine (add_one (w0:=w0) (g:=w.heap.size+2) (bs:=[1]) (x:=7) (HB0.out.alloc HB0.out.size _) hg (HX0.out.keep ((Below.refl _ _).alloc (Nat.le_refl _) _)) (Blk.new (cs:=[.int .i64 7]) rfl) (by omega) (by simp)).mono ?_
 rintro e u1 ⟨rfl,hx,hb⟩
 have HX1:Hid (BoxB u1 w0.heap.size (w.heap.size+2) ([1]++[7])):=LH hx
 have HB1:=LH hb
 clear hx hb p0 p1 p2 p3 p4 p5 p6 p7 p8 p9 p10 p11 pz cl
 obtain ⟨⟨⟨p0,p1,p2,p3⟩,⟨p4,p5,p6,p7⟩,p8,p9,p10,p11⟩,pz⟩:=cells12 (HC0.out.step HB1.out)
 have cl:=(HC0.out.step HB1.out).lt
 go_wp2_with fail
 refine (ints_box (w0:=w0) (g:=w.heap.size+2) (bs:=[1]++[7]) (x:=0) HB1.out hg HX1.out (HI.out.below (below_step HW.out HB1.out)) (by omega) (by omega) (by simp)).mono ?_
 rintro e u2 ⟨rfl,hx,hb⟩
 have HX2:Hid (BoxB u2 w0.heap.size (w.heap.size+2) ([1]++[7]++[1,0])):=LH hx
 have HB2:=LH hb
 clear hx hb p0 p1 p2 p3 p4 p5 p6 p7 p8 p9 p10 p11 pz cl
 obtain ⟨⟨⟨p0,p1,p2,p3⟩,⟨p4,p5,p6,p7⟩,p8,p9,p10,p11⟩,pz⟩:=cells12 (HC0.out.step HB2.out)
 have cl:=(HC0.out.step HB2.out).lt
 go_wp2_with fail
 refine (add_one (w0:=w0) (g:=w.heap.size+2) (bs:=[1]++[7]++[1,0]) (x:=1) (HB2.out.alloc HB2.out.size _) hg (HX2.out.keep ((Below.refl _ _).alloc (Nat.le_refl _) _)) (Blk.new (cs:=[.int .i64 1]) rfl) (by omega) (by simp)).mono ?_
 rintro e u3 ⟨rfl,hx,hb⟩
 have HX3:Hid (BoxB u3 w0.heap.size (w.heap.size+2) ([1]++[7]++[1,0]++[1])):=LH hx
 have HB3:=LH hb
 clear hx hb p0 p1 p2 p3 p4 p5 p6 p7 p8 p9 p10 p11 pz cl
 obtain ⟨⟨⟨p0,p1,p2,p3⟩,⟨p4,p5,p6,p7⟩,p8,p9,p10,p11⟩,pz⟩:=cells12 (HC0.out.step HB3.out)
 have cl:=(HC0.out.step HB3.out).lt
 go_wp2_with fail
 refine (put_box (w0:=w0) (g:=w.heap.size+2) (s:=⟨#[]⟩) (bs:=[1]++[7]++[1,0]++[1]) HB3.out hg HX3.out (by decide) (by simp)).mono ?_
 rintro e u4 ⟨rfl,hx,hb⟩
 have HX4:Hid (BoxB u4 w0.heap.size (w.heap.size+2) ([1]++[7]++[1,0]++[1]++[0])):=LH hx
 have HB4:=LH hb
 clear hx hb p0 p1 p2 p3 p4 p5 p6 p7 p8 p9 p10 p11 pz cl
 obtain ⟨⟨⟨p0,p1,p2,p3⟩,⟨p4,p5,p6,p7⟩,p8,p9,p10,p11⟩,pz⟩:=cells12 (HC0.out.step HB4.out)
 have cl:=(HC0.out.step HB4.out).lt
 go_wp2_with fail
 refine (put_box (w0:=w0) (g:=w.heap.size+2) (s:=⟨#[]⟩) (bs:=[1]++[7]++[1,0]++[1]++[0]) HB4.out hg HX4.out (by decide) (by simp)).mono ?_
 rintro e u5 ⟨rfl,hx,hb⟩
 have HX5:Hid (BoxB u5 w0.heap.size (w.heap.size+2) ([1]++[7]++[1,0]++[1]++[0]++[0])):=LH hx
 have HB5:=LH hb
 clear hx hb p0 p1 p2 p3 p4 p5 p6 p7 p8 p9 p10 p11 pz cl
 obtain ⟨⟨⟨p0,p1,p2,p3⟩,⟨p4,p5,p6,p7⟩,p8,p9,p10,p11⟩,pz⟩:=cells12 (HC0.out.step HB5.out)
 have cl:=(HC0.out.step HB5.out).lt
 obtain ⟨a,n,cap,hn,hq,ho⟩:=HX5.out
 have q:=hq.cell 0
 have hcv:=conv_own ho hn (by rw [hn];simp)
 have hl:strOfNums ([1]++[7]++[1,0]++[1]++[0]++[0])=textA:=rfl
 rw [hl] at hcv
 clear hn hq ho hl
 go_wp2_with fail
 go_ret
 exact ⟨rfl,below_step HW.out HB5.out⟩
set_option maxHeartbeats 4000000 in
set_option maxRecDepth 100000 in
theorem text_b {w:World}:Calls Tryz.prog 48 #[.agg #[.int .u8 2,.int .i64 0,.slice none 0 0,.int .i64 0,.string ⟨#[]⟩,.string ⟨#[]⟩,.int .i64 7,.int .i64 1,.slice none 0 0,.int .i64 0,.int .i64 0,.int .i64 0]] w fun e w'=>e=.returned (.string textB)∧Below w.heap.size w w':=by
 go_enter Tryz.func48,Tryz.ntmps48
 go_upto_region 2 with fail
 obtain ⟨w0,hw0⟩:∃ w0,w0=w.alloc (.cells #[.int .u8 2,.int .i64 0,.slice none 0 0,.int .i64 0,.string ⟨#[]⟩,.string ⟨#[]⟩,.int .i64 7,.int .i64 1,.slice none 0 0,.int .i64 0,.int .i64 0,.int .i64 0] 58):=⟨_,rfl⟩
 have HC0:Hid (Blk w0 w.heap.size 58 [.int .u8 2,.int .i64 0,.slice none 0 0,.int .i64 0,.string ⟨#[]⟩,.string ⟨#[]⟩,.int .i64 7,.int .i64 1,.slice none 0 0,.int .i64 0,.int .i64 0,.int .i64 0]):=LH (by rw [hw0];exact Blk.new rfl)
 have HW:Hid (Below w.heap.size w w0):=LH (by rw [hw0];exact (Below.refl _ _).alloc (Nat.le_refl _) _)
 have hz:w0.heap.size=w.heap.size+1:=by rw [hw0];simp
 rw [← hw0]
 have HB0:Hid (Below w0.heap.size w0 ((w0.alloc (.cells #[.int .u8 2] 5)).alloc (.cells #[.slice (some ⟨w0.heap.size,0,none⟩) 1 1] 149))):=LH (((Below.refl _ _).alloc (Nat.le_refl _) _).alloc (by simp) _)
 have HX0:Hid (BoxB ((w0.alloc (.cells #[.int .u8 2] 5)).alloc (.cells #[.slice (some ⟨w0.heap.size,0,none⟩) 1 1] 149)) w0.heap.size (w.heap.size+2) [2]):=LH ⟨_,1,1,rfl,Blk.new (by simp;omega),ownsRow_keep (World.ownsRow_lit (base:=w0.heap.size) (e:=5) (size:=1) w0 #[.int .u8 2] 1 (Nat.le_refl _) (by unfold maxLen;omega) rfl) ((Below.refl _ _).alloc (Nat.le_refl _) _)⟩
 clear hw0
 have e1:w.heap.size+1=w0.heap.size:=hz.symm
 try rw [e1]
 generalize ((w0.alloc (.cells #[.int .u8 2] 5)).alloc (.cells #[.slice (some ⟨w0.heap.size,0,none⟩) 1 1] 149))=u0 at HB0 HX0 ⊢
 clear e1
 have hg:w0.heap.size≤w.heap.size+2:=by omega
 obtain ⟨⟨⟨p0,p1,p2,p3⟩,⟨p4,p5,p6,p7⟩,p8,p9,p10,p11⟩,pz⟩:=cells12 (HC0.out.step HB0.out)
 have cl:=(HC0.out.step HB0.out).lt
 go_wp2_with fail
 refine (add_two (w0:=w0) (g:=w.heap.size+2) (bs:=[2]) (x:=7) (y:=1) (HB0.out.alloc HB0.out.size _) hg (HX0.out.keep ((Below.refl _ _).alloc (Nat.le_refl _) _)) (Blk.new (cs:=[.int .i64 7,.int .i64 1]) rfl) (by omega) (by simp)).mono ?_
 rintro e u1 ⟨rfl,hx,hb⟩
 have HX1:Hid (BoxB u1 w0.heap.size (w.heap.size+2) ([2]++[7,1])):=LH hx
 have HB1:=LH hb
 clear hx hb p0 p1 p2 p3 p4 p5 p6 p7 p8 p9 p10 p11 pz cl
 obtain ⟨⟨⟨p0,p1,p2,p3⟩,⟨p4,p5,p6,p7⟩,p8,p9,p10,p11⟩,pz⟩:=cells12 (HC0.out.step HB1.out)
 have cl:=(HC0.out.step HB1.out).lt
 obtain ⟨a,n,cap,hn,hq,ho⟩:=HX1.out
 have q:=hq.cell 0
 have hcv:=conv_own ho hn (by rw [hn];simp)
 have hl:strOfNums ([2]++[7,1])=textB:=rfl
 rw [hl] at hcv
 clear hn hq ho hl
 go_wp2_with fail
 go_ret
 exact ⟨rfl,below_step HW.out HB1.out⟩
set_option maxHeartbeats 2000000 in
set_option maxRecDepth 100000 in
theorem write_a {w:World} {ga:Option Addr} {gc:Nat} (hg0:IntsR w (.slice ga 1 gc) [0]):Calls Tryz.prog 25 #[.agg #[.int .u8 1,.int .i64 7,.slice ga 1 gc,.int .i64 1,.string ⟨#[]⟩,.string ⟨#[]⟩,.int .i64 0,.int .i64 0,.slice none 0 0,.int .i64 0,.int .i64 0,.int .i64 0]] w fun e w'=>e=.returned (.tuple #[.string textA,.int .i64 0])∧Below w.heap.size w w':=by
 have KC:Hid (∀ W,Below w.heap.size w W→Calls Tryz.prog 47 #[.agg #[.int .u8 1,.int .i64 7,.slice ga 1 gc,.int .i64 1,.string ⟨#[]⟩,.string ⟨#[]⟩,.int .i64 0,.int .i64 0,.slice none 0 0,.int .i64 0,.int .i64 0,.int .i64 0]] W fun e w'=>e=.returned (.int .i64 0)∧Below W.heap.size W w'):=fun W hW=>by
  have h:=chkCom_any (w:=W) (c:=comA) (v:=.agg #[.int .u8 1,.int .i64 7,.slice ga 1 gc,.int .i64 1,.string ⟨#[]⟩,.string ⟨#[]⟩,.int .i64 0,.int .i64 0,.slice none 0 0,.int .i64 0,.int .i64 0,.int .i64 0]) (x:=0) ⟨ga,gc,none,0,rfl,hg0.below hW,ints_nil _⟩ (by rw [ok_comA];rfl)
  exact h
 have KT:Hid (∀ W,Below w.heap.size w W→Calls Tryz.prog 48 #[.agg #[.int .u8 1,.int .i64 7,.slice ga 1 gc,.int .i64 1,.string ⟨#[]⟩,.string ⟨#[]⟩,.int .i64 0,.int .i64 0,.slice none 0 0,.int .i64 0,.int .i64 0,.int .i64 0]] W fun e w'=>e=.returned (.string textA)∧Below W.heap.size W w'):=fun W hW=>text_a (hg0.below hW)
 clear hg0
 go_enter Tryz.func25,Tryz.ntmps25
 go_wp2_with fail
 refine (KC.out _ (by repeat (first|with_reducible (first|exact Below.refl _ _|apply Below.drew|apply below_alloc)|((first|with_reducible refine Below.alloc ?_ ?_ _|with_reducible refine Below.setCell ?_ ?_ _);rotate_left;focus (first|(simp <;> omega)|omega))))).mono ?_
 rintro e w1 ⟨rfl,hb⟩
 have HB1:Hid (Below w.heap.size w w1):=below_step (by repeat (first|with_reducible (first|exact Below.refl _ _|apply Below.drew|apply below_alloc)|((first|with_reducible refine Below.alloc ?_ ?_ _|with_reducible refine Below.setCell ?_ ?_ _);rotate_left;focus (first|(simp <;> omega)|omega)))) hb
 have HC1:Hid (Blk w1 w.heap.size 58 [.int .u8 1,.int .i64 7,.slice ga 1 gc,.int .i64 1,.string ⟨#[]⟩,.string ⟨#[]⟩,.int .i64 0,.int .i64 0,.slice none 0 0,.int .i64 0,.int .i64 0,.int .i64 0]):=LH (Blk.step (by repeat (first|with_reducible exact Blk.new rfl|((with_reducible apply Blk.new);focus (first|rfl|(simp <;> omega)))|with_reducible (first|apply Blk.drew|apply Blk.alloc|apply Blk.set_)|((with_reducible apply Blk.far);rotate_left;focus (first|(simp <;> omega)|omega)))) hb)
 clear hb
 obtain ⟨⟨⟨p0,p1,p2,p3⟩,⟨p4,p5,p6,p7⟩,p8,p9,p10,p11⟩,pz⟩:=cells12 HC1.out
 go_wp2_with fail
 refine (KT.out _ HB1.out).mono ?_
 rintro e w2 ⟨rfl,hb⟩
 have HB2:Hid (Below w.heap.size w w2):=below_step HB1.out hb
 clear hb p0 p1 p2 p3 p4 p5 p6 p7 p8 p9 p10 p11 pz
 go_wp2_with fail
 exact bodyPost_ret (v:=.tuple #[.string textA,.int .i64 0]) (by simp [results,Tryz.results25,go_sem]) rfl ⟨rfl,HB2.out⟩
set_option maxHeartbeats 2000000 in
set_option maxRecDepth 100000 in
theorem write_b {w:World}:Calls Tryz.prog 25 #[.agg #[.int .u8 2,.int .i64 0,.slice none 0 0,.int .i64 0,.string ⟨#[]⟩,.string ⟨#[]⟩,.int .i64 7,.int .i64 1,.slice none 0 0,.int .i64 0,.int .i64 0,.int .i64 0]] w fun e w'=>e=.returned (.tuple #[.string textB,.int .i64 0])∧Below w.heap.size w w':=by
 have KC:Hid (∀ W,Below w.heap.size w W→Calls Tryz.prog 47 #[.agg #[.int .u8 2,.int .i64 0,.slice none 0 0,.int .i64 0,.string ⟨#[]⟩,.string ⟨#[]⟩,.int .i64 7,.int .i64 1,.slice none 0 0,.int .i64 0,.int .i64 0,.int .i64 0]] W fun e w'=>e=.returned (.int .i64 0)∧Below W.heap.size W w'):=fun W hW=>by
  have h:=chkCom_any (w:=W) (c:=comB) (v:=.agg #[.int .u8 2,.int .i64 0,.slice none 0 0,.int .i64 0,.string ⟨#[]⟩,.string ⟨#[]⟩,.int .i64 7,.int .i64 1,.slice none 0 0,.int .i64 0,.int .i64 0,.int .i64 0]) (x:=0) ⟨none,0,none,0,rfl,ints_nil _,ints_nil _⟩ (by rw [ok_comB];rfl)
  exact h
 have KT:Hid (∀ W,Below w.heap.size w W→Calls Tryz.prog 48 #[.agg #[.int .u8 2,.int .i64 0,.slice none 0 0,.int .i64 0,.string ⟨#[]⟩,.string ⟨#[]⟩,.int .i64 7,.int .i64 1,.slice none 0 0,.int .i64 0,.int .i64 0,.int .i64 0]] W fun e w'=>e=.returned (.string textB)∧Below W.heap.size W w'):=fun W hW=>text_b
 go_enter Tryz.func25,Tryz.ntmps25
 go_wp2_with fail
 refine (KC.out _ (by repeat (first|with_reducible (first|exact Below.refl _ _|apply Below.drew|apply below_alloc)|((first|with_reducible refine Below.alloc ?_ ?_ _|with_reducible refine Below.setCell ?_ ?_ _);rotate_left;focus (first|(simp <;> omega)|omega))))).mono ?_
 rintro e w1 ⟨rfl,hb⟩
 have HB1:Hid (Below w.heap.size w w1):=below_step (by repeat (first|with_reducible (first|exact Below.refl _ _|apply Below.drew|apply below_alloc)|((first|with_reducible refine Below.alloc ?_ ?_ _|with_reducible refine Below.setCell ?_ ?_ _);rotate_left;focus (first|(simp <;> omega)|omega)))) hb
 have HC1:Hid (Blk w1 w.heap.size 58 [.int .u8 2,.int .i64 0,.slice none 0 0,.int .i64 0,.string ⟨#[]⟩,.string ⟨#[]⟩,.int .i64 7,.int .i64 1,.slice none 0 0,.int .i64 0,.int .i64 0,.int .i64 0]):=LH (Blk.step (by repeat (first|with_reducible exact Blk.new rfl|((with_reducible apply Blk.new);focus (first|rfl|(simp <;> omega)))|with_reducible (first|apply Blk.drew|apply Blk.alloc|apply Blk.set_)|((with_reducible apply Blk.far);rotate_left;focus (first|(simp <;> omega)|omega)))) hb)
 clear hb
 obtain ⟨⟨⟨p0,p1,p2,p3⟩,⟨p4,p5,p6,p7⟩,p8,p9,p10,p11⟩,pz⟩:=cells12 HC1.out
 go_wp2_with fail
 refine (KT.out _ HB1.out).mono ?_
 rintro e w2 ⟨rfl,hb⟩
 have HB2:Hid (Below w.heap.size w w2):=below_step HB1.out hb
 clear hb p0 p1 p2 p3 p4 p5 p6 p7 p8 p9 p10 p11 pz
 go_wp2_with fail
 exact bodyPost_ret (v:=.tuple #[.string textB,.int .i64 0]) (by simp [results,Tryz.results25,go_sem]) rfl ⟨rfl,HB2.out⟩
end Go.Proofs.YtkkohllhebdlcaaGreatDoor
namespace Go.Proofs.YtkkohllhebdlcaaGreatDoor
open Go.RowKit
def gvCs (p:Value × Gv):List Value:=[.int .i64 p.2.1,.int .i64 p.2.2.id,p.1,.int .i64 p.2.2.topic,.string p.2.2.key,.string p.2.2.body]
theorem gvCs_len (p:Value × Gv):(gvCs p).length=6:=rfl
def OwnG (w:World) (B:Nat) (v:Value) (l:List Gv):Prop:=∃ pl:List (Value × Gv),pl.map (·.2)=l∧w.ownsRow B 95 6 v l.length (pl.flatMap gvCs)∧∀ p∈pl,OwnI w B p.1 p.2.2.groups
def GivR (w:World) (v:Value) (l:List Gv):Prop:=∃ pl:List (Value × Gv),pl.map (·.2)=l∧SliceR w v 6 gvCs pl∧∀ p∈pl,IntsR w p.1 p.2.2.groups
theorem OwnG.reads {w:World} {B:Nat} {v:Value} {l:List Gv} (h:OwnG w B v l):GivR w v l:=by
 obtain ⟨pl,rfl,h2,h3⟩:=h
 rw [List.length_map] at h2
 exact ⟨pl,rfl,sliceR_of_owns gvCs_len h2,fun p hp=>(h3 p hp).reads⟩
theorem OwnG.nil (w:World) (B:Nat):OwnG w B (.slice none 0 0) []:=⟨[],rfl,World.ownsRow_nil _ _ _ _,fun _ h=>by cases h⟩
theorem OwnG.keep {w w':World} {B:Nat} {v:Value} {l:List Gv} (h:OwnG w B v l) (hb:Below w.heap.size w w'):OwnG w' B v l:=by
 obtain ⟨pl,h1,h2,h3⟩:=h
 exact ⟨pl,h1,ownsRow_keep h2 hb,fun p hp=>ownsRow_keep (h3 p hp) hb⟩
theorem OwnG.le {w:World} {B B':Nat} {v:Value} {l:List Gv} (h:OwnG w B v l) (hB:B'≤B):OwnG w B' v l:=by
 obtain ⟨pl,h1,h2,h3⟩:=h
 exact ⟨pl,h1,ownsRow_le h2 hB,fun p hp=>ownsRow_le (h3 p hp) hB⟩
theorem OwnG.shape {w:World} {B:Nat} {v:Value} {l:List Gv} (h:OwnG w B v l):∃ a cap,v=.slice a l.length cap:=by
 obtain ⟨pl,_,h2,_⟩:=h
 exact row_shape h2
theorem GivR.below {w w':World} {v:Value} {l:List Gv} (h:GivR w v l) (hb:Below w.heap.size w w'):GivR w' v l:=by
 obtain ⟨pl,h1,h2,h3⟩:=h
 exact ⟨pl,h1,h2.below gvCs_len hb,fun p hp=>(h3 p hp).below hb⟩
def mBox (a:Option Addr) (cap:Nat) (m:PM):List Value:=[.int .i64 m.id,.slice a m.groups.length cap,.int .i64 m.topic,.string m.key,.string m.body]
set_option maxHeartbeats 4000000 in
set_option maxRecDepth 100000 in
theorem fin1_any {x:Gv} {a:Option Addr} {cap:Nat} {m:PM} {mb:Nat} {ma:Option Addr} {mc:Nat} (W:World) (hx:IntsR W (.slice a x.2.groups.length cap) x.2.groups) (hb:Blk W mb 56 (mBox ma mc m)) (hm:IntsR W (.slice ma m.groups.length mc) m.groups) :
  Calls Tryz.prog 36 #[.agg #[.int .i64 x.1,.int .i64 x.2.id,.slice a x.2.groups.length cap,.int .i64 x.2.topic,.string x.2.key,.string x.2.body],.pointer (some ⟨mb,0,none⟩)] W
   fun e W'=>e=.returned (.bool (decide (x.2=m)))∧Below W.heap.size W W':=by
 obtain ⟨q,hq⟩:∃ q,q=decide (x.2=m):=⟨_,rfl⟩
 have KS:Hid (∀ W',Below W.heap.size W W'→Calls Tryz.prog 28 #[.agg #[.int .i64 x.2.id,.slice a x.2.groups.length cap,.int .i64 x.2.topic,.string x.2.key,.string x.2.body],.agg #[.int .i64 m.id,.slice ma m.groups.length mc,.int .i64 m.topic,.string m.key,.string m.body]] W' fun e w'=>e=.returned (.bool q)∧Below W'.heap.size W' w'):=fun W' hW=>sameMsg_any ⟨a,cap,rfl,hx.below hW⟩ ⟨ma,mc,rfl,hm.below hW⟩ (by rw [hq];simp)
 rw [← hq]
 have HB:=LH hb
 obtain ⟨xn,hxn⟩:∃ n,n=x.2.groups.length:=⟨_,rfl⟩
 obtain ⟨mn,hmn⟩:∃ n,n=m.groups.length:=⟨_,rfl⟩
 obtain ⟨t,i1,g1,t1,k1,b1⟩:=x
 obtain ⟨i2,g2,t2,k2,b2⟩:=m
 simp only [mBox] at HB KS hxn hmn ⊢
 rw [← hxn] at KS ⊢
 rw [← hmn] at KS HB
 have c0:=HB.out.cell 0
 have c1:=HB.out.cell 1
 have c2:=HB.out.cell 2
 have c3:=HB.out.cell 3
 have c4:=HB.out.cell 4
 simp at c0 c1 c2 c3 c4
 have hlt:=HB.out.lt
 clear hx hb hm hq hxn hmn
 go_enter Tryz.func36,Tryz.ntmps36
 go_wp2_with fail
 refine (KS.out _ (by repeat (first|with_reducible (first|exact Below.refl _ _|apply Below.drew|apply below_alloc)|((first|with_reducible refine Below.alloc ?_ ?_ _|with_reducible refine Below.setCell ?_ ?_ _);rotate_left;focus (first|(simp <;> omega)|omega))))).mono ?_
 rintro e w1 ⟨rfl,hb1⟩
 go_wp2_with fail
 go_ret
 exact ⟨rfl,below_step (by repeat (first|with_reducible (first|exact Below.refl _ _|apply Below.drew|apply below_alloc)|((first|with_reducible refine Below.alloc ?_ ?_ _|with_reducible refine Below.setCell ?_ ?_ _);rotate_left;focus (first|(simp <;> omega)|omega)))) hb1⟩
def IdxG (l:List Gv) (m:PM) (i:Int):Prop:=(i=-1∧l.find? (fun x=>decide (x.2=m))=none)∨∃ k:Nat,i=k∧∃ h:k < l.length,l.find? (fun x=>decide (x.2=m))=some l[k]
theorem find_first {α:Type} {p:α→Bool} {l:List α} {k:Nat} (h:k < l.length) (hk:p l[k]=true) (hb:∀ j (hj:j < l.length),j < k→p l[j]=false):l.find? p=some l[k]:=by
 induction l generalizing k with
 |nil=>cases h
 |cons x l ih =>
  cases k with
  |zero=>simp only [List.getElem_cons_zero] at hk ⊢;rw [List.find?_cons,hk]
  |succ k =>
   have h0:=hb 0 (Nat.zero_lt_succ _) (Nat.zero_lt_succ _)
   simp only [List.getElem_cons_zero] at h0
   simp only [List.getElem_cons_succ] at hk ⊢
   rw [List.find?_cons,h0]
   exact ih (Nat.lt_of_succ_lt_succ h) hk fun j hj hjk=>by simpa using hb (j+1) (Nat.succ_lt_succ hj) (Nat.succ_lt_succ hjk)
set_option maxHeartbeats 4000000 in
set_option maxRecDepth 100000 in
theorem idxG_any {v:Value} {l:List Gv} {w:World} {m:PM} {mb:Nat} {ma:Option Addr} {mc:Nat} (h:GivR w v l) (hb:Blk w mb 56 (mBox ma mc m)) (hm:IntsR w (.slice ma m.groups.length mc) m.groups) :
  Calls Tryz.prog 35 #[v,.func (.func 36) #[] #[.pointer (some ⟨mb,0,none⟩)]] w fun e w'=>(∃ i:Int,e=.returned (.int .i64 i)∧IdxG l m i)∧Below w.heap.size w w':=by
 obtain ⟨pl,rfl,⟨a,cap,rfl,hcap,hmax,-,hd⟩,hin⟩:=h
 unfold maxLen at hmax
 have KL:Hid (∀ (p:Value × Gv) W,p∈pl→Below w.heap.size w W→Calls Tryz.prog 36 #[.agg #[.int .i64 p.2.1,.int .i64 p.2.2.id,p.1,.int .i64 p.2.2.topic,.string p.2.2.key,.string p.2.2.body],.pointer (some ⟨mb,0,none⟩)] W fun e W'=>e=.returned (.bool (decide (p.2.2=m)))∧Below W.heap.size W W'):=fun p W hp hW=>by
  obtain ⟨ga,gc,e1,-⟩:=(hin p hp).shape
  have h1:=(hin p hp).below hW
  rw [e1] at h1 ⊢
  exact fin1_any W h1 (hb.step hW) (hm.below hW)
 have HSL:=LH (fun p hp=>(hin p hp).shape)
 have HD:=LH hd
 obtain ⟨n,hn⟩:∃ n,n=pl.length:=⟨_,rfl⟩
 rw [← hn] at hcap ⊢
 have HN:=LH hn
 clear hn hd hb hm hin
 have hn':(n:Int)≤9223372036854775807:=by omega
 go_enter Tryz.func35,Tryz.ntmps35
 go_wp2_with fail
 go_loopg [5,8] n (fun g _ i wr=>∃ k:Nat,k≤n∧g=n - k∧i=.int .i64 (k:Int)∧Hid (∀ j (h:j < pl.length),j < k→decide (pl[j].2.2=m)=false)∧Hid (Below w.heap.size w wr))
 case atStart=>exact ⟨0,Nat.zero_le _,rfl,rfl,(fun j _ hj=>absurd hj (Nat.not_lt_zero _)),Below.refl _ _⟩
 case round =>
  obtain ⟨k,hk,rfl,rfl,hall,hb⟩:=hrel
  by_cases hlt:k < n
  ·have hk0:(0:Int)≤(k:Int):=by omega
   have hk1:(k:Int) < (n:Int):=by omega
   have hkl:k < pl.length:=by rw [← HN.out];exact hlt
   obtain ⟨bb,off,ha,h1⟩:=HD.out (by omega)
   subst ha
   have e0:=h1 k hkl 0 (by omega)
   have e1:=h1 k hkl 1 (by omega)
   have e2:=h1 k hkl 2 (by omega)
   have e3:=h1 k hkl 3 (by omega)
   have e4:=h1 k hkl 4 (by omega)
   have e5:=h1 k hkl 5 (by omega)
   clear h1
   have L:=KL.out pl[k] wr (List.getElem_mem hkl) hb.out
   obtain ⟨ga,gc,esl,-⟩:=HSL.out pl[k] (List.getElem_mem hkl)
   obtain ⟨x,hx⟩:∃ x,x=pl[k]:=⟨_,rfl⟩
   rw [← hx] at e0 e1 e2 e3 e4 e5 L esl
   have HX:=LH hx
   simp only [gvCs,← Nat.add_assoc,Nat.add_zero] at e0 e1 e2 e3 e4 e5
   obtain ⟨x1,t,i1,g1,t1,k1,b1⟩:=x
   simp only at e0 e1 e2 e3 e4 e5 L esl
   subst esl
   have c0:wr.cell? ⟨bb,off+k * 6,none⟩=some (.int .i64 t):=keep hb.out e0
   have c1:wr.cell? ⟨bb,off+k * 6+1,none⟩=some (.int .i64 i1):=keep hb.out e1
   have c2:wr.cell? ⟨bb,off+k * 6+2,none⟩=some (.slice ga g1.length gc):=keep hb.out e2
   have c3:wr.cell? ⟨bb,off+k * 6+3,none⟩=some (.int .i64 t1):=keep hb.out e3
   have c4:wr.cell? ⟨bb,off+k * 6+4,none⟩=some (.string k1):=keep hb.out e4
   have c5:wr.cell? ⟨bb,off+k * 6+5,none⟩=some (.string b1):=keep hb.out e5
   clear hx e0 e1 e2 e3 e4 e5
   obtain ⟨q,hq⟩:∃ q,q=decide ((⟨i1,g1,t1,k1,b1⟩:PM)=m):=⟨_,rfl⟩
   rw [← hq] at L
   have HL:=LH L
   have HQ:=LH hq
   clear L hq
   cases q
   all_goals
    go_wp2_with fail
    refine HL.out.mono ?_
    rintro e w1 ⟨rfl,hb1⟩
    have HB2:=LH (hb.out.trans (hb1.mono hb.out.size))
    clear hb hb1 c0 c1 c2 c3 c4 c5
    go_wp2_with fail
   ·go_roundg (n - (k+1))
    case measure=>omega
    case rel =>
     refine ⟨k+1,by omega,rfl,by go_num,fun j hj hjk=>?_,HB2⟩
     by_cases hjk:j < k
     ·exact hall.out j hj hjk
     ·obtain rfl:j=k:=by omega
      rw [← HX.out];exact HQ.out.symm
   ·go_ret
    refine ⟨⟨k,rfl,Or.inr ⟨k,rfl,by rw [List.length_map];exact hkl,?_⟩⟩,HB2.out⟩
    refine find_first (by rw [List.length_map];exact hkl) ?_ fun j hj hjk=>?_
    ·rw [List.getElem_map,← HX.out];exact HQ.out.symm
    ·rw [List.getElem_map];exact hall.out j (by simpa using hj) hjk
  ·obtain rfl:k=n:=by omega
   have hlt':¬ (k:Int) < (k:Int):=by omega
   go_wp2_with fail
   go_ret
   refine ⟨⟨-1,rfl,Or.inl ⟨rfl,List.find?_eq_none.2 fun x hx=>?_⟩⟩,hb.out⟩
   obtain ⟨y,hy,rfl⟩:=List.mem_map.1 hx
   obtain ⟨j,hj,rfl⟩:=List.getElem_of_mem hy
   rw [hall.out j hj (by rw [HN.out];exact hj)]
   decide
end Go.Proofs.YtkkohllhebdlcaaGreatDoor
namespace Go.Proofs.YtkkohllhebdlcaaGreatDoor
open Go.RowKit
def TabR (w:World) (v:Value) (t:List (List Gv)):Prop:=∃ vs:List (Value × List Gv),vs.map (·.2)=t∧SliceR w v 1 (fun p=>[p.1]) vs∧∀ p∈vs,GivR w p.1 p.2
theorem TabR.below {w w':World} {v:Value} {t:List (List Gv)} (h:TabR w v t) (hb:Below w.heap.size w w'):TabR w' v t:=by
 obtain ⟨vs,h1,h2,h3⟩:=h
 exact ⟨vs,h1,h2.below (fun _=>rfl) hb,fun p hp=>(h3 p hp).below hb⟩
set_option maxHeartbeats 8000000 in
set_option maxRecDepth 100000 in
theorem final_tab {v:Value} {t:List (List Gv)} {w:World} {m:PM} {ma:Option Addr} {mc:Nat} (h:TabR w v t) (hm:IntsR w (.slice ma m.groups.length mc) m.groups) (hg:∀ g∈m.groups,0≤g) :
  Calls Tryz.prog 17 #[v,.agg #[.int .i64 m.id,.slice ma m.groups.length mc,.int .i64 m.topic,.string m.key,.string m.body]] w
   fun e w'=>e=.returned (.tuple #[.int .i64 (finT t m).1,.bool (finT t m).2])∧Below w.heap.size w w':=by
 obtain ⟨R,hR⟩:∃ R,R=finT t m:=⟨_,rfl⟩
 rw [← hR]
 obtain ⟨vs,rfl,⟨ta,tc,rfl,htc,htm,-,htd⟩,hin⟩:=h
 unfold maxLen at htm
 have KI:Hid (∀ (p:Value × List Gv) mb W,p∈vs→Below w.heap.size w W→Blk W mb 56 (mBox ma mc m)→Calls Tryz.prog 35 #[p.1,.func (.func 36) #[] #[.pointer (some ⟨mb,0,none⟩)]] W fun e w'=>(∃ i:Int,e=.returned (.int .i64 i)∧IdxG p.2 m i)∧Below W.heap.size W w'):=fun p mb W hp hW hb=>idxG_any ((hin p hp).below hW) hb (hm.below hW)
 have HV:=LH (fun p hp=>hin p hp)
 have HTD:=LH htd
 have HG:=LH hg
 have HR0:=LH (show finF (vs.map (·.2)) m (m.groups.drop 0) 0=R from hR.symm)
 obtain ⟨a',mcap,ev,hmc,hmm,-,hmd⟩:=hm
 simp at ev
 obtain ⟨rfl,rfl⟩:=ev
 have HMD:=LH hmd
 unfold maxLen at hmm
 obtain ⟨n,hn⟩:∃ n,n=m.groups.length:=⟨_,rfl⟩
 obtain ⟨tn,htn⟩:∃ n,n=vs.length:=⟨_,rfl⟩
 have HMB:=LH (show mBox ma mc m=[.int .i64 m.id,.slice ma n mc,.int .i64 m.topic,.string m.key,.string m.body] by rw [hn];rfl)
 rw [← hn] at hmc ⊢
 rw [← htn] at htc ⊢
 have HN:=LH hn
 have HTN:=LH htn
 have nn0:(n:Int)≤9223372036854775807:=by omega
 have nn1:(tn:Int)≤9223372036854775807:=by omega
 obtain ⟨mi,mt,mk,mbd,e1,e2,e3,e4⟩:∃ mi mt mk mbd,mi=m.id∧mt=m.topic∧mk=m.key∧mbd=m.body:=⟨_,_,_,_,rfl,rfl,rfl,rfl⟩
 rw [← e1,← e2,← e3,← e4] at HMB ⊢
 clear hR hin htd hg hmd hn htn e1 e2 e3 e4
 go_enter Tryz.func17,Tryz.ntmps17
 go_upto_region 1 with fail
 have HB:Hid (Below w.heap.size w (w.alloc (.cells #[.int .i64 mi,.slice ma n mc,.int .i64 mt,.string mk,.string mbd] 56))):=LH ((Below.refl _ _).alloc (Nat.le_refl _) _)
 have HX:Hid (Blk (w.alloc (.cells #[.int .i64 mi,.slice ma n mc,.int .i64 mt,.string mk,.string mbd] 56)) w.heap.size 56 [.int .i64 mi,.slice ma n mc,.int .i64 mt,.string mk,.string mbd]):=LH (Blk.new rfl)
 generalize (w.alloc (.cells #[.int .i64 mi,.slice ma n mc,.int .i64 mt,.string mk,.string mbd] 56))=w1 at HB HX ⊢
 obtain ⟨p0,p1,p2,p3,p4,pz⟩:=cells5 HX.out
 have pl:=HX.out.lt
 go_wp2_with fail
 clear p0 p1 p2 p3 p4 pz pl
 go_loopg [4,7,8,12] n (fun g mo _ _ i wr=>∃ (k:Nat) (most:Int),k≤n∧g=n - k∧i=.int .i64 (k:Int)∧mo=.int .i64 most∧Hid (finF (vs.map (·.2)) m (m.groups.drop k) most=R)∧Hid (Below w.heap.size w wr)∧Hid (Blk wr w.heap.size 56 [.int .i64 mi,.slice ma n mc,.int .i64 mt,.string mk,.string mbd]))
 case atStart=>exact ⟨0,0,Nat.zero_le _,rfl,rfl,rfl,HR0,HB,HX⟩
 case round =>
  clear HB HX HR0
  obtain ⟨k,most,hk,rfl,rfl,rfl,HR,HB,HX⟩:=hrel
  by_cases hlt:k < n
  ·have hk0:(0:Int)≤(k:Int):=by omega
   have hk1:(k:Int) < (n:Int):=by omega
   have hkl:k < m.groups.length:=by rw [← HN.out];exact hlt
   obtain ⟨b0,off,rfl,hat⟩:=HMD.out (by omega)
   have c0:wr.cell? ⟨b0,off+(k * 1+0),none⟩=some (.int .i64 m.groups[k]):=keep HB.out (hat k hkl 0 (by omega))
   simp only [Nat.mul_one,Nat.add_zero] at c0
   have hr:=HR.out
   rw [List.drop_eq_getElem_cons hkl,finF] at hr
   have hg0:=HG.out _ (List.getElem_mem hkl)
   obtain ⟨g,hgd⟩:∃ g,g=m.groups[k]:=⟨_,rfl⟩
   rw [← hgd] at c0 hr hg0
   rw [List.length_map,← HTN.out] at hr
   clear hat hgd hkl HR
   by_cases htg:(tn:Int)≤g
   ·have htg':g ≥ (tn:Int):=htg
    rw [if_pos htg] at hr
    subst hr
    clear htg
    go_wp2_with fail
    go_ret2
    exact ⟨rfl,HB.out⟩
   ·have htg':¬ g ≥ (tn:Int):=htg
    have htl:g < (tn:Int):=by omega
    rw [if_neg htg] at hr
    obtain ⟨gn,rfl⟩:∃ q:Nat,g=(q:Int):=⟨g.toNat,by omega⟩
    have hgl:gn < vs.length:=by rw [← HTN.out];omega
    obtain ⟨tb,toff,rfl,htat⟩:=HTD.out (by omega)
    have d0:wr.cell? ⟨tb,toff+(gn * 1+0),none⟩=some vs[gn].1:=keep HB.out (htat gn hgl 0 (by omega))
    simp only [Nat.mul_one,Nat.add_zero] at d0
    have KIg:=fun W hW hb=>KI.out vs[gn] w.heap.size W (List.getElem_mem hgl) hW hb
    obtain ⟨pl,hpl,⟨ga,gc,gv,hgc,hgm,-,hgd⟩,-⟩:=HV.out vs[gn] (List.getElem_mem hgl)
    have hget:(vs.map (·.2)).getD ((gn:Int).toNat) []=vs[gn].2:=by simp [List.getD,hgl]
    rw [hget] at hr
    obtain ⟨y,hy⟩:∃ y,y=vs[gn]:=⟨_,rfl⟩
    rw [← hy] at d0 KIg gv hpl hr
    obtain ⟨y1,y2⟩:=y
    simp only at d0 KIg gv hpl hr
    subst gv hpl
    clear htat hget hy
    have KIH:=LH KIg
    have HGD:=LH hgd
    have HR:=LH hr
    have HBX:Hid (Below w.heap.size w wr→Blk wr w.heap.size 56 (mBox (some ⟨b0,off,none⟩) mc m)):=LH (fun _=>by rw [HMB.out];exact HX.out)
    clear hr hgd KIg
    unfold maxLen at hgm
    go_wp2_with fail
    refine (KIH.out _ HB.out (HBX.out HB.out)).mono ?_
    rintro e w2 ⟨⟨i,rfl,hi⟩,hb⟩
    have HB2:Hid (Below w.heap.size w w2):=below_step HB.out hb
    have HX2:=LH (HX.out.step hb)
    have d2:=keep hb d0
    have HI:=LH hi
    clear hb d0 c0 hi HBX KIH
    rcases HI.out with ⟨rfl,hnone⟩|⟨at_,rfl,hal,hsome⟩
    ·have hr:=HR.out
     rw [hnone] at hr
     simp only at hr
     subst hr
     clear HI hnone
     go_wp2_with fail
     go_ret2
     exact ⟨rfl,HB2.out⟩
    ·have hr:=HR.out
     rw [hsome] at hr
     simp only at hr
     have hal':at_ < pl.length:=by simpa using hal
     obtain ⟨gb,goff,rfl,hgat⟩:=HGD.out (by omega)
     have f0:w2.cell? ⟨gb,goff+(at_ * 6+0),none⟩=some (.int .i64 pl[at_].2.1):=keep HB2.out (hgat at_ hal' 0 (by omega))
     simp only [Nat.add_zero] at f0
     rw [List.getElem_map] at hr
     obtain ⟨tm,htm2⟩:∃ tm,tm=pl[at_].2.1:=⟨_,rfl⟩
     rw [← htm2] at f0 hr
     have HR2:=LH hr
     obtain ⟨gl,hgl2⟩:∃ q,q=pl.length:=⟨_,rfl⟩
     have hi0:(0:Int)≤(at_:Int):=by omega
     have hi1:(at_:Int) < (gl:Int):=by omega
     have hi2:¬ (at_:Int) < 0:=by omega
     rw [← hgl2] at d2 ⊢
     clear hgat htm2 hr hsome hal HI HR
     go_wp2_with fail
     go_roundg (n - (k+1))
     case measure=>omega
     case rel=>exact ⟨k+1,max most tm,by omega,rfl,by go_num,rfl,HR2,HB2,HX2⟩
  ·obtain rfl:k=n:=by omega
   have hlt':¬ (k:Int) < (k:Int):=by omega
   have hr:=HR.out
   rw [List.drop_eq_nil_of_le (by rw [← HN.out];exact Nat.le_refl _),finF] at hr
   subst hr
   clear HR
   go_wp2_with fail
   go_ret2
   exact ⟨rfl,HB.out⟩
end Go.Proofs.YtkkohllhebdlcaaGreatDoor
namespace Go.Proofs.YtkkohllhebdlcaaGreatDoor
open Go.RowKit Go.Maps Go.WideMaps Go.MapKept Go.ChangeMaps
open Go.WideElems (Fit rg)
section
def Rm (_:Value):Option (DataW Unit × List MemPlace):=some (.lit (.bool true),[])
def msgV (p:Value × Gv):Value:=.agg #[.int .i64 p.2.2.id,p.1,.int .i64 p.2.2.topic,.string p.2.2.key,.string p.2.2.body]
def SeenM (P:Program) (tk:TypeId) (w:World) (b n:Nat) (us:List (Value × Gv)):Prop :=
 ∃ es clock,w.heap[b]?=some (.map es clock)∧Fit P tk Rm es clock∧es.size≤n∧(∀ x∈es.toList,∃ p∈us,x.key=.int .i64 p.2.2.id∧x.val=msgV p) ∧
  ∀ p∈us,(DataW.map ((es.toList.map (rg P tk Rm)).foldr DataW.insert [])).atKey (.int .i64 p.2.2.id) (.lit (.bool false))=.lit (.bool true)
variable {P:Program} {tk tm te:TypeId} {w w':World} {b n:Nat} {us:List (Value × Gv)}
theorem SeenM.made (P:Program) (tk:TypeId) (w:World):SeenM P tk (w.alloc (.map #[] 0)) w.heap.size 0 [] :=
 ⟨#[],0,(MapKept.heap_alloc w _).1,⟨by simp,stamped_empty 0,by simp⟩,Nat.le_refl _,(fun x h=>by simp at h),fun _ h=>by cases h⟩
theorem SeenM.lt (h:SeenM P tk w b n us):b < w.heap.size:=by
 obtain ⟨es,clock,hb,_⟩:=h
 exact (Array.getElem?_eq_some_iff.1 hb).1
theorem SeenM.same (h:SeenM P tk w b n us) (hb:w'.heap[b]?=w.heap[b]?):SeenM P tk w' b n us:=by
 obtain ⟨es,clock,e1,e2⟩:=h
 exact ⟨es,clock,hb.trans e1,e2⟩
theorem SeenM.below (h:SeenM P tk w b n us) (hb:Below w.heap.size w w'):SeenM P tk w' b n us:=h.same (hb.block b h.lt)
theorem SeenM.look (h:SeenM P tk w b n us) (hk:P.underlying tk=some (.int .i64)) (hm:P.underlying tm=some (.map tk te)) {z:Value} (hz:(zeroValue te).run P w=.ok z w) {s:Int} (hs:(Lit.int .i64 s).wf=true) :
  ((Instr.lookup tm (.map (some b)) (.int .i64 s) true).run P w=.ok (.tuple #[z,.bool false]) w∧∀ p∈us,p.2.2.id≠s)∨∃ p∈us,p.2.2.id=s∧(Instr.lookup tm (.map (some b)) (.int .i64 s) true).run P w=.ok (.tuple #[msgV p,.bool true]) w:=by
 obtain ⟨es,clock,hb,F,_,hes,hus⟩:=h
 rcases Maps.fit_look true (int_keyed hk) hm hz hb F (keyOf_int_mk hk hs) with ⟨hrun,_,hat⟩|⟨e0,y,hm0,hk0,hrun,_⟩
 ·refine Or.inl ⟨hrun,fun p hp e=>?_⟩
  have:=hus p hp
  rw [e,hat] at this
  cases this
 ·obtain ⟨p,hp,h1,h2⟩:=hes e0 hm0
  refine Or.inr ⟨p,hp,?_,?_⟩
  ·rw [hk0] at h1
   injection h1 with _ h1
   exact h1.symm
  ·rw [h2] at hrun
   exact hrun
theorem SeenM.store (h:SeenM P tk w b n us) (hk:P.underlying tk=some (.int .i64)) (hm:P.underlying tm=some (.map tk te)) (hn:n < maxLen) {q:Value × Gv} (hs:(Lit.int .i64 q.2.2.id).wf=true) :
  ∃ w',(Instr.mapUpdate tm (.map (some b)) (.int .i64 q.2.2.id) (msgV q)).run P w=.ok () w'∧SeenM P tk w' b (n+1) (us++[q])∧w.grownBy w' (some b):=by
 obtain ⟨es,clock,hb,F,hs2,hes,hus⟩:=h
 obtain ⟨es',clock',hrun,F',hput,_,_,hmem⟩:=Maps.fit_store (R':=Rm) (yv:=(.lit (.bool true),[])) (int_keyed hk) hm hb F (Nat.lt_of_le_of_lt hs2 hn) (fun _ _ _ _ hz=>hz) (keyOf_int_mk hk hs) (show Rm (msgV q)=some (.lit (.bool true),[]) from rfl)
 refine ⟨_,hrun,⟨es',clock',heap_setBlock_same hb _,F',?_,?_,?_⟩,⟨rfl,rfl,rfl,by simp [setBlock],fun i _ hi=>heap_setBlock_other hb _ (fun e=>hi (by rw [e]))⟩⟩
 ·have e1:es'.size=((es'.toList.map (rg P tk Rm)).foldr DataW.insert []).length:=by rw [length_sorted];simp
  rw [e1,hput]
  unfold putKey
  rw [length_insert]
  have e2:=List.length_filter_le (notKey (.int .i64 q.2.2.id)) ((es.toList.map (rg P tk Rm)).foldr DataW.insert [])
  rw [length_sorted] at e2
  simp at e2
  omega
 ·intro x hx
  rcases hmem x hx with ⟨hx,_⟩|⟨h1,h2⟩
  ·obtain ⟨p,hp,h3⟩:=hes x hx
   exact ⟨p,List.mem_append.2 (Or.inl hp),h3⟩
  ·exact ⟨q,List.mem_append.2 (Or.inr (List.mem_singleton.2 rfl)),h1,h2⟩
 ·intro p hp
  rw [hput,← DataW.put_eq]
  by_cases e:p.2.2.id=q.2.2.id
  ·rw [e]
   exact atKey_put_same (H:=Unit) ⟨_,rfl⟩ (k:=.int .i64 q.2.2.id) trivial (.lit (.bool true)) (.lit (.bool false))
  ·have hne:Lit.int .i64 p.2.2.id≠Lit.int .i64 q.2.2.id:=fun h=>e (by injection h)
   rw [atKey_put_other (H:=Unit) hne]
   rcases List.mem_append.1 hp with hp|hp
   ·exact hus p hp
   ·rw [List.mem_singleton.1 hp] at e
    exact absurd rfl e
end
def OneP (l:List Gv):Prop:=∀ x∈l,∀ y∈l,x.2.id=y.2.id→x.2=y.2
theorem OneP.snoc {l:List Gv} {x:Gv} (h:OneP l) (hx:∀ y∈l,y.2.id=x.2.id→y.2=x.2):OneP (l++[x]):=by
 intro y hy z hz e
 rcases List.mem_append.1 hy with hy|hy
 ·rcases List.mem_append.1 hz with hz|hz
  ·exact h y hy z hz e
  ·rw [List.mem_singleton.1 hz] at e ⊢
   exact hx y hy e
 ·rw [List.mem_singleton.1 hy] at e ⊢
  rcases List.mem_append.1 hz with hz|hz
  ·exact (hx z hz e.symm).symm
  ·rw [List.mem_singleton.1 hz]
end Go.Proofs.YtkkohllhebdlcaaGreatDoor
namespace Go.Proofs.YtkkohllhebdlcaaGreatDoor
open Go.RowKit Go.Deep Go.WideShapes Go.ChangeShapes
theorem open_logs {P:Program} {w:World} {r:Reach} {base:Nat} {t e ti:TypeId} {v:Value} {H:Type} {enc:TypeId × Value→H} {sp:Nat→Bool} {d:DataW H} {ps:List MemPlace}
  (hv:Value.okWide P w r base t v) (h:DataW.Trod enc P w 0 sp true t v d ps) (hw:∀ n∈d.weights P t,n≤reachBytes) (hs:P.underlying t=some (.slice e)) (he:P.underlying e=some (.slice ti)) (hi:P.underlying ti=some .string) (hce:P.cellsOf e=1) (hci:P.cellsOf ti=1) :
  ∃ m,LogsR w v m∧∀ l∈m,∀ s∈l,s.size≤reachBytes:=by
 obtain ⟨a,n,c,rfl⟩:=okWide_slice hs hv
 obtain ⟨v',ml,h1,h2,_,h3⟩:=(reads_of_trod h hw).list (α:=Value × List ByteArray) 1 (fun y=>oneCell y.1) (fun y=>SliceR w y.1 1 strCell' y.2∧∀ s∈y.2,s.size≤reachBytes) hs hce (by omega) (fun ds hd=>by
  obtain ⟨u,l,e1,e2,_,e3⟩:=hd.list 1 strCell' (fun s=>s.size≤reachBytes) he hci (by omega) (fun ds hd=>hd.string hi)
  exact ⟨(u,l),e1,e2,e3⟩)
 have h4:(Value.slice a n c).cells.toList=[Value.slice a n c]:=rfl
 rw [h4] at h1
 simp at h1
 subst h1
 obtain ⟨a',cap,e1,e2,e3,e4,e5⟩:=h2
 refine ⟨ml.map (·.2),⟨ml.map (·.1),⟨a',cap,by simpa using e1,by simpa using e2,e3,e4,fun hl=>?_⟩,by simp,fun i hi=>?_⟩,fun l hl=>?_⟩
 ·obtain ⟨b,off,ha,hd⟩:=e5 (by simpa using hl)
  exact ⟨b,off,ha,fun i hi j hj=>by simpa using hd i (by simpa using hi) j hj⟩
 ·have hi':i < ml.length:=by simpa using hi
  have:SliceR w (ml[i]).1 1 strCell (ml[i]).2:=(h3 _ (List.getElem_mem hi')).1
  simpa [List.getD,hi'] using this
 ·obtain ⟨y,hy,rfl⟩:=List.mem_map.1 hl
  exact (h3 y hy).2
end Go.Proofs.YtkkohllhebdlcaaGreatDoor
