/-
  Proved here: command.text's own three functions, at small numbers. Conditions: the  towncriertop.great: it comes back, and turns nothing. Condition: the l Plain: one command turns a clock in three ways; the invariant behind i Plain: honest logs: what two groups put of the same messages they put 
-/
import Derived.Test.YtkkohllhebdlcaaGreatDoorY33
set_option maxRecDepth 100000
namespace Go.Proofs.YtkkohllhebdlcaaGreatDoor
open Go.RowKit
def BoxB (w:World) (B g:Nat) (l:List Int):Prop:=∃ a n cap,n=l.length∧Blk w g 149 [.slice a n cap]∧OwnB w B (.slice a n cap) l
def BoxEnd (w0:World) (g:Nat) (l:List Int) (e:Ending) (w':World):Prop:=e=.returned (.tuple #[])∧BoxB w' w0.heap.size g l∧Below w0.heap.size w0 w'
theorem bytes_flat {w:World} {B:Nat} {a:Option Addr} {n cap:Nat} {l:List Int} (h:OwnB w B (.slice a n cap) l) (ad:Addr) (ha:a=some ad):∀ j u,(byteVs l)[j]?=some u→w.cell? (ad.add j)=some u:=by
 have h2:=h.2
 rcases h2 with ⟨hv,_⟩|⟨g,cp,cur,hv,_⟩
 ·cases hv;cases ha
 ·cases hv
  cases ha
  exact fun j u hu=>World.ownsRow.cells (g:=g) h rfl j u hu
theorem bytes_none {w:World} {B:Nat} {a:Option Addr} {n cap:Nat} {l:List Int} (h:OwnB w B (.slice a n cap) l) (ha:a=none):n=0∧cap=0:=by
 obtain ⟨h1,h2⟩:=h
 rcases h2 with ⟨hv,hn⟩|⟨g,cp,cur,hv,_⟩
 ·cases hv;exact ⟨rfl,rfl⟩
 ·cases hv;cases ha
theorem byteVs_len (l:List Int):(byteVs l).length=l.length:=by simp [byteVs]
set_option maxHeartbeats 2000000 in
set_option maxRecDepth 100000 in
theorem ints_box {w0 w:World} {g:Nat} {v:Value} {bs:List Int} {x:Int} (h0:Below w0.heap.size w0 w) (hg:w0.heap.size≤g) (hb:BoxB w w0.heap.size g bs) (hv:IntsR w v [x]) (x0:0≤x) (x1:x≤127) (hl:bs.length≤500) :
  Calls Tryz.prog 74 #[v,.pointer (some ⟨g,0,none⟩)] w (BoxEnd w0 g (bs++[1,x])):=by
 obtain ⟨va,vc,rfl,-⟩:=id hv.shape
 obtain ⟨i0,hi,hz0,hz1,hz2⟩:=info_parts info_u8
 obtain ⟨a,n,c,hn,hq,ho⟩:=hb
 have HB:=LH h0
 have HQ:=LH hq
 have HO:Hid (w.ownsRow w0.heap.size 5 1 (.slice a n c) n (byteVs bs)):=LH (by rw [hn] at ho ⊢;exact ho)
 have HNL:=LH hn
 have HN:Hid (n≤500):=LH (by omega)
 have q:=hq.cell 0
 have qz:=hq.free
 have gl:=hq.lt
 have KP:Hid (Calls Tryz.prog 75 #[.slice va [x].length vc] w (PutEnd2 w [1,x])):=numInts_one hv x0 x1
 simp only [List.length_cons,List.length_nil,Nat.zero_add] at KP ⊢
 clear h0 hq ho hn hv x0 x1 hl
 go_enter Tryz.func74,Tryz.ntmps74
 go_wp2_with fail
 refine (KP.out).mono ?_
 rintro e u1 ⟨b1,m1,d1,rfl,hm,ho,hb⟩
 have HP1:Hid (OwnB u1 w.heap.size (.slice b1 m1 d1) ([1,x])):=LH ho
 have HM1:Hid (m1=([1,x]).length):=LH hm
 have HBu1:Hid (Below w0.heap.size w0 u1):=LH (Below.step HB.out hb HB.out.size)
 have HQu1:=LH (HQ.out.step hb)
 have HOu1:Hid (u1.ownsRow w0.heap.size 5 1 (.slice a n c) n (byteVs (bs))):=LH (ownsRow_keep HO.out hb)
 have HL1:Hid (n+m1≤1000):=LH (by have:=HN.out;have:=HM1.out;simp at *;omega)
 clear hm ho hb q qz HQ HO
 have q1:=HQu1.out.cell 0
 have qz1:=HQu1.out.free
 have HNW1:=LH (fun ad ha=>bytes_flat HP1.out ad ha)
 have HNN1:=LH (fun ha=>bytes_none HP1.out ha)
 go_wp2_with (at_builtin;refine wpList_append_own_any u1 rfl _ _ 149 rfl w0.heap.size 5 i0 _ 1 1 Tryz.underlying149 hi hz0 hz1 hz2 rfl (by decide) _ n _ rfl HOu1.out b1 m1 d1 (byteVs ([1,x])) rfl (by rw [byteVs_len,HM1.out,Nat.mul_one]) HNN1.out HNW1.out (byteVs_one _) (by have:=HL1.out;unfold maxLen;omega) (by have:=HL1.out;omega) HBu1.out.size ?_)
 intro v1 x1 hown hgrow
 obtain ⟨a1,c1,rfl⟩:=row_shape hown
 have HO1':Hid (x1.ownsRow w0.heap.size 5 1 (.slice a1 (n+m1) c1) (n+m1) (byteVs ((bs)++([1,x])))):=by
  unfold byteVs at hown ⊢
  rw [List.map_append]
  exact LH hown
 have HQ1':=LH (HQu1.out.grown hgrow (row_blk HOu1.out HQu1.out (by decide)))
 have HB1':Hid (Below w0.heap.size w0 x1):=LH (HBu1.out.grown hgrow HBu1.out.size (fun j hj=>(HOu1.out.lt j hj).1))
 clear hown hgrow q1 qz1
 have q1:=HQ1'.out.cell 0
 have qz1:=HQ1'.out.free
 go_wp2_with fail
 refine bodyPost_end (v:=.tuple #[]) (by simp [results,Tryz.results74,go_sem]) rfl ⟨rfl,⟨a1,n+m1,c1,?_,HQ1'.out.set_ 0 _,?_⟩,HB1'.out.setCell hg _⟩
 ·rw [List.length_append,← HNL.out,HM1.out]
 ·have h:=row_far (g:=g) HO1'.out (fun k hk=>heap_set x1 g 0 (.slice a1 (n+m1) c1) k hk) (row_blk HO1'.out HQ1'.out (by decide))
  unfold OwnB
  rw [List.length_append,← HNL.out,← HM1.out]
  exact h
set_option maxHeartbeats 2000000 in
set_option maxRecDepth 100000 in
theorem put_box {w0 w:World} {g:Nat} {s:ByteArray} {bs:List Int} (h0:Below w0.heap.size w0 w) (hg:w0.heap.size≤g) (hb:BoxB w w0.heap.size g bs) (hs:s.size≤127) (hl:bs.length≤500) :
  Calls Tryz.prog 76 #[.string s,.pointer (some ⟨g,0,none⟩)] w (BoxEnd w0 g (bs++((s.size:Int) :: s.data.toList.map fun b=>(b.toNat:Int)))):=by
 obtain ⟨i0,hi,hz0,hz1,hz2⟩:=info_parts info_u8
 obtain ⟨a,n,c,hn,hq,ho⟩:=hb
 have HB:=LH h0
 have HQ:=LH hq
 have HO:Hid (w.ownsRow w0.heap.size 5 1 (.slice a n c) n (byteVs bs)):=LH (by rw [hn] at ho ⊢;exact ho)
 have HNL:=LH hn
 have HN:Hid (n≤500):=LH (by omega)
 have q:=hq.cell 0
 have qz:=hq.free
 have gl:=hq.lt
 have KP:Hid (Calls Tryz.prog 77 #[.string s] w (PutEnd2 w ((s.size:Int) :: s.data.toList.map fun b=>(b.toNat:Int)))):=numText_any hs
 obtain ⟨nb,hnb⟩:∃ nb,nb=((s.size:Int) :: s.data.toList.map fun b=>(b.toNat:Int)):=⟨_,rfl⟩
 have HNB:Hid (nb.length≤128):=LH (by rw [hnb];simp;omega)
 rw [← hnb] at KP ⊢
 clear h0 hq ho hn hs hl hnb
 go_enter Tryz.func76,Tryz.ntmps76
 go_wp2_with fail
 refine (KP.out).mono ?_
 rintro e u1 ⟨b1,m1,d1,rfl,hm,ho,hb⟩
 have HP1:Hid (OwnB u1 w.heap.size (.slice b1 m1 d1) (nb)):=LH ho
 have HM1:Hid (m1=(nb).length):=LH hm
 have HBu1:Hid (Below w0.heap.size w0 u1):=LH (Below.step HB.out hb HB.out.size)
 have HQu1:=LH (HQ.out.step hb)
 have HOu1:Hid (u1.ownsRow w0.heap.size 5 1 (.slice a n c) n (byteVs (bs))):=LH (ownsRow_keep HO.out hb)
 have HL1:Hid (n+m1≤1000):=LH (by have:=HN.out;have:=HM1.out;have:=HNB.out;omega)
 clear hm ho hb q qz HQ HO
 have q1:=HQu1.out.cell 0
 have qz1:=HQu1.out.free
 have HNW1:=LH (fun ad ha=>bytes_flat HP1.out ad ha)
 have HNN1:=LH (fun ha=>bytes_none HP1.out ha)
 go_wp2_with (at_builtin;refine wpList_append_own_any u1 rfl _ _ 149 rfl w0.heap.size 5 i0 _ 1 1 Tryz.underlying149 hi hz0 hz1 hz2 rfl (by decide) _ n _ rfl HOu1.out b1 m1 d1 (byteVs (nb)) rfl (by rw [byteVs_len,HM1.out,Nat.mul_one]) HNN1.out HNW1.out (byteVs_one _) (by have:=HL1.out;unfold maxLen;omega) (by have:=HL1.out;omega) HBu1.out.size ?_)
 intro v1 x1 hown hgrow
 obtain ⟨a1,c1,rfl⟩:=row_shape hown
 have HO1':Hid (x1.ownsRow w0.heap.size 5 1 (.slice a1 (n+m1) c1) (n+m1) (byteVs ((bs)++(nb)))):=by
  unfold byteVs at hown ⊢
  rw [List.map_append]
  exact LH hown
 have HQ1':=LH (HQu1.out.grown hgrow (row_blk HOu1.out HQu1.out (by decide)))
 have HB1':Hid (Below w0.heap.size w0 x1):=LH (HBu1.out.grown hgrow HBu1.out.size (fun j hj=>(HOu1.out.lt j hj).1))
 clear hown hgrow q1 qz1
 have q1:=HQ1'.out.cell 0
 have qz1:=HQ1'.out.free
 go_wp2_with fail
 refine bodyPost_end (v:=.tuple #[]) (by simp [results,Tryz.results76,go_sem]) rfl ⟨rfl,⟨a1,n+m1,c1,?_,HQ1'.out.set_ 0 _,?_⟩,HB1'.out.setCell hg _⟩
 ·rw [List.length_append,← HNL.out,HM1.out]
 ·have h:=row_far (g:=g) HO1'.out (fun k hk=>heap_set x1 g 0 (.slice a1 (n+m1) c1) k hk) (row_blk HO1'.out HQ1'.out (by decide))
  unfold OwnB
  rw [List.length_append,← HNL.out,← HM1.out]
  exact h
set_option maxHeartbeats 2000000 in
set_option maxRecDepth 100000 in
theorem add_one {w0 w:World} {g j:Nat} {bs:List Int} {x:Int} (h0:Below w0.heap.size w0 w) (hg:w0.heap.size≤g) (hb:BoxB w w0.heap.size g bs) (hj:Blk w j 3 [.int .i64 x]) (hx:(0≤x∧x≤127)) (hl:bs.length≤400) :
  Calls Tryz.prog 72 #[.slice (some ⟨j,0,none⟩) 1 1,.pointer (some ⟨g,0,none⟩)] w (BoxEnd w0 g (bs++[x])):=by
 obtain ⟨i0,hi,hz0,hz1,hz2⟩:=info_parts info_u8
 obtain ⟨a,n,c,hn,hq,ho⟩:=hb
 have HB:=LH h0
 have HQ:=LH hq
 have HO:Hid (w.ownsRow w0.heap.size 5 1 (.slice a n c) n (byteVs bs)):=LH (by rw [hn] at ho ⊢;exact ho)
 have HNL:=LH hn
 have HN:Hid (n≤400):=LH (by omega)
 have q:=hq.cell 0
 have qz:=hq.free
 have gl:=hq.lt
 have HJ:=LH hj
 have HX:=LH hx
 have jl:=hj.lt
 have hjg:j≠g:=fun e=>by
  subst e
  unfold Blk at hj hq
  rw [hj] at hq
  exact absurd hq (by simp)
 have j0:=hj.cell 0
 clear h0 hq ho hn hx hj hl
 go_enter Tryz.func72,Tryz.ntmps72
 go_wp2_with fail
 refine wp_loop_rounds 2 ?_
 rw [rounds_succ]
 go_wp2_with fail
 refine (numPut_any HX.out.1 HX.out.2).mono ?_
 rintro e u1 ⟨b1,m1,d1,rfl,hm,ho,hb⟩
 have HP1:Hid (OwnB u1 w.heap.size (.slice b1 m1 d1) ([x])):=LH ho
 have HM1:Hid (m1=([x]).length):=LH hm
 have HBu1:Hid (Below w0.heap.size w0 u1):=LH (Below.step HB.out hb HB.out.size)
 have HQu1:=LH (HQ.out.step hb)
 have HOu1:Hid (u1.ownsRow w0.heap.size 5 1 (.slice a n c) n (byteVs (bs))):=LH (ownsRow_keep HO.out hb)
 have HL1:Hid (n+m1≤1000):=LH (by have:=HN.out;have:=HM1.out;simp at *;omega)
 clear hm ho hb q qz HQ HO
 have q1:=HQu1.out.cell 0
 have qz1:=HQu1.out.free
 have HNW1:=LH (fun ad ha=>bytes_flat HP1.out ad ha)
 have HNN1:=LH (fun ha=>bytes_none HP1.out ha)
 go_wp2_with (at_builtin;refine wpList_append_own_any u1 rfl _ _ 149 rfl w0.heap.size 5 i0 _ 1 1 Tryz.underlying149 hi hz0 hz1 hz2 rfl (by decide) _ n _ rfl HOu1.out b1 m1 d1 (byteVs ([x])) rfl (by rw [byteVs_len,HM1.out,Nat.mul_one]) HNN1.out HNW1.out (byteVs_one _) (by have:=HL1.out;unfold maxLen;omega) (by have:=HL1.out;omega) HBu1.out.size ?_)
 intro v1 x1 hown hgrow
 obtain ⟨a1,c1,rfl⟩:=row_shape hown
 have HO1':Hid (x1.ownsRow w0.heap.size 5 1 (.slice a1 (n+m1) c1) (n+m1) (byteVs ((bs)++([x])))):=by
  unfold byteVs at hown ⊢
  rw [List.map_append]
  exact LH hown
 have HQ1':=LH (HQu1.out.grown hgrow (row_blk HOu1.out HQu1.out (by decide)))
 have HB1':Hid (Below w0.heap.size w0 x1):=LH (HBu1.out.grown hgrow HBu1.out.size (fun j hj=>(HOu1.out.lt j hj).1))
 clear hown hgrow q1 qz1
 have q1:=HQ1'.out.cell 0
 have qz1:=HQ1'.out.free
 go_wp2_with fail
 rw [rounds_succ]
 go_wp2_with fail
 refine bodyPost_end (v:=.tuple #[]) (by simp [results,Tryz.results72,go_sem]) rfl ⟨rfl,⟨a1,n+m1,c1,?_,HQ1'.out.set_ 0 _,?_⟩,HB1'.out.setCell hg _⟩
 ·rw [List.length_append,← HNL.out,HM1.out]
 ·have h:=row_far (g:=g) HO1'.out (fun k hk=>heap_set x1 g 0 (.slice a1 (n+m1) c1) k hk) (row_blk HO1'.out HQ1'.out (by decide))
  unfold OwnB
  rw [List.length_append,← HNL.out,← HM1.out]
  exact h
set_option maxHeartbeats 2000000 in
set_option maxRecDepth 100000 in
theorem add_two {w0 w:World} {g j:Nat} {bs:List Int} {x y:Int} (h0:Below w0.heap.size w0 w) (hg:w0.heap.size≤g) (hb:BoxB w w0.heap.size g bs) (hj:Blk w j 3 [.int .i64 x,.int .i64 y]) (hx:(0≤x∧x≤127)∧(0≤y∧y≤127)) (hl:bs.length≤400) :
  Calls Tryz.prog 72 #[.slice (some ⟨j,0,none⟩) 2 2,.pointer (some ⟨g,0,none⟩)] w (BoxEnd w0 g (bs++[x,y])):=by
 obtain ⟨i0,hi,hz0,hz1,hz2⟩:=info_parts info_u8
 obtain ⟨a,n,c,hn,hq,ho⟩:=hb
 have HB:=LH h0
 have HQ:=LH hq
 have HO:Hid (w.ownsRow w0.heap.size 5 1 (.slice a n c) n (byteVs bs)):=LH (by rw [hn] at ho ⊢;exact ho)
 have HNL:=LH hn
 have HN:Hid (n≤400):=LH (by omega)
 have q:=hq.cell 0
 have qz:=hq.free
 have gl:=hq.lt
 have HJ:=LH hj
 have HX:=LH hx
 have jl:=hj.lt
 have hjg:j≠g:=fun e=>by
  subst e
  unfold Blk at hj hq
  rw [hj] at hq
  exact absurd hq (by simp)
 have j0:=hj.cell 0
 have j1:=hj.cell 1
 clear h0 hq ho hn hx hj hl
 go_enter Tryz.func72,Tryz.ntmps72
 go_wp2_with fail
 refine wp_loop_rounds 3 ?_
 rw [rounds_succ]
 go_wp2_with fail
 refine (numPut_any HX.out.1.1 HX.out.1.2).mono ?_
 rintro e u1 ⟨b1,m1,d1,rfl,hm,ho,hb⟩
 have HP1:Hid (OwnB u1 w.heap.size (.slice b1 m1 d1) ([x])):=LH ho
 have HM1:Hid (m1=([x]).length):=LH hm
 have HBu1:Hid (Below w0.heap.size w0 u1):=LH (Below.step HB.out hb HB.out.size)
 have HQu1:=LH (HQ.out.step hb)
 have HOu1:Hid (u1.ownsRow w0.heap.size 5 1 (.slice a n c) n (byteVs (bs))):=LH (ownsRow_keep HO.out hb)
 have HL1:Hid (n+m1≤1000):=LH (by have:=HN.out;have:=HM1.out;simp at *;omega)
 have HJu1:=LH (HJ.out.step hb)
 clear hm ho hb q qz HQ HO
 have q1:=HQu1.out.cell 0
 have qz1:=HQu1.out.free
 have HNW1:=LH (fun ad ha=>bytes_flat HP1.out ad ha)
 have HNN1:=LH (fun ha=>bytes_none HP1.out ha)
 go_wp2_with (at_builtin;refine wpList_append_own_any u1 rfl _ _ 149 rfl w0.heap.size 5 i0 _ 1 1 Tryz.underlying149 hi hz0 hz1 hz2 rfl (by decide) _ n _ rfl HOu1.out b1 m1 d1 (byteVs ([x])) rfl (by rw [byteVs_len,HM1.out,Nat.mul_one]) HNN1.out HNW1.out (byteVs_one _) (by have:=HL1.out;unfold maxLen;omega) (by have:=HL1.out;omega) HBu1.out.size ?_)
 intro v1 x1 hown hgrow
 obtain ⟨a1,c1,rfl⟩:=row_shape hown
 have HO1':Hid (x1.ownsRow w0.heap.size 5 1 (.slice a1 (n+m1) c1) (n+m1) (byteVs ((bs)++([x])))):=by
  unfold byteVs at hown ⊢
  rw [List.map_append]
  exact LH hown
 have HQ1':=LH (HQu1.out.grown hgrow (row_blk HOu1.out HQu1.out (by decide)))
 have HB1':Hid (Below w0.heap.size w0 x1):=LH (HBu1.out.grown hgrow HBu1.out.size (fun j hj=>(HOu1.out.lt j hj).1))
 have HJ1':=LH (HJu1.out.grown hgrow (row_blk HOu1.out HJu1.out (by decide)))
 clear hown hgrow q1 qz1
 have q1:=HQ1'.out.cell 0
 have qz1:=HQ1'.out.free
 go_wp2_with fail
 rw [rounds_succ]
 obtain ⟨np,hnp⟩:∃ np,np=n+m1:=⟨_,rfl⟩
 have HBp:Hid (Below w0.heap.size w0 (x1.setCell ⟨g,0,none⟩ (.slice a1 (n+m1) c1))):=LH (HB1'.out.setCell hg _)
 have HQp:Hid (Blk (x1.setCell ⟨g,0,none⟩ (.slice a1 (n+m1) c1)) g 149 [.slice a1 (n+m1) c1]):=LH (HQ1'.out.set_ 0 _)
 have HOp:Hid ((x1.setCell ⟨g,0,none⟩ (.slice a1 (n+m1) c1)).ownsRow w0.heap.size 5 1 (.slice a1 (n+m1) c1) (n+m1) (byteVs (bs++[x]))):=LH (row_far (g:=g) HO1'.out (fun k hk=>heap_set x1 g 0 (.slice a1 (n+m1) c1) k hk) (row_blk HO1'.out HQ1'.out (by decide)))
 have HJp:Hid (Blk (x1.setCell ⟨g,0,none⟩ (.slice a1 (n+m1) c1)) j 3 [.int .i64 x,.int .i64 y]):=LH (HJ1'.out.far hjg _)
 have HNp:Hid (np≤500):=LH (by have:=HN.out;have:=HM1.out;simp at *;omega)
 have HNPL:Hid (np=(bs++[x]).length):=LH (by rw [hnp,HM1.out,HNL.out,List.length_append])
 clear q1 qz1 HJ1' HO1' HQ1' HB1'
 generalize (x1.setCell ⟨g,0,none⟩ (.slice a1 (n+m1) c1))=wp at HBp HQp HOp HJp ⊢
 rw [← hnp] at HQp HOp
 clear hnp
 have qp:=HQp.out.cell 0
 have qzp:=HQp.out.free
 have jp0:=HJp.out.cell 0
 have jp1:=HJp.out.cell 1
 have glp:=HQp.out.lt
 have jlp:=HJp.out.lt
 obtain ⟨ap,hap⟩:∃ ap,ap=a1:=⟨_,rfl⟩
 obtain ⟨cp,hcp⟩:∃ cp,cp=c1:=⟨_,rfl⟩
 rw [← hap,← hcp] at HQp HOp qp
 clear hap hcp
 go_wp2_with fail
 refine (numPut_any HX.out.2.1 HX.out.2.2).mono ?_
 rintro e u2 ⟨b2,m2,d2,rfl,hm,ho,hb⟩
 have HP2:Hid (OwnB u2 wp.heap.size (.slice b2 m2 d2) ([y])):=LH ho
 have HM2:Hid (m2=([y]).length):=LH hm
 have HBu2:Hid (Below w0.heap.size w0 u2):=LH (Below.step HBp.out hb HBp.out.size)
 have HQu2:=LH (HQp.out.step hb)
 have HOu2:Hid (u2.ownsRow w0.heap.size 5 1 (.slice ap np cp) np (byteVs (bs++[x]))):=LH (ownsRow_keep HOp.out hb)
 have HL2:Hid (np+m2≤1000):=LH (by have:=HNp.out;have:=HM2.out;simp at *;omega)
 clear hm ho hb qp qzp HQp HOp
 have q2:=HQu2.out.cell 0
 have qz2:=HQu2.out.free
 have HNW2:=LH (fun ad ha=>bytes_flat HP2.out ad ha)
 have HNN2:=LH (fun ha=>bytes_none HP2.out ha)
 go_wp2_with (at_builtin;refine wpList_append_own_any u2 rfl _ _ 149 rfl w0.heap.size 5 i0 _ 1 1 Tryz.underlying149 hi hz0 hz1 hz2 rfl (by decide) _ np _ rfl HOu2.out b2 m2 d2 (byteVs ([y])) rfl (by rw [byteVs_len,HM2.out,Nat.mul_one]) HNN2.out HNW2.out (byteVs_one _) (by have:=HL2.out;unfold maxLen;omega) (by have:=HL2.out;omega) HBu2.out.size ?_)
 intro v2 x2 hown hgrow
 obtain ⟨a2,c2,rfl⟩:=row_shape hown
 have HO2':Hid (x2.ownsRow w0.heap.size 5 1 (.slice a2 (np+m2) c2) (np+m2) (byteVs ((bs++[x])++([y])))):=by
  unfold byteVs at hown ⊢
  rw [List.map_append]
  exact LH hown
 have HQ2':=LH (HQu2.out.grown hgrow (row_blk HOu2.out HQu2.out (by decide)))
 have HB2':Hid (Below w0.heap.size w0 x2):=LH (HBu2.out.grown hgrow HBu2.out.size (fun j hj=>(HOu2.out.lt j hj).1))
 clear hown hgrow q2 qz2
 have q2:=HQ2'.out.cell 0
 have qz2:=HQ2'.out.free
 go_wp2_with fail
 rw [rounds_succ]
 go_wp2_with fail
 rw [show bs++[x,y]=bs++[x]++[y] by simp]
 refine bodyPost_end (v:=.tuple #[]) (by simp [results,Tryz.results72,go_sem]) rfl ⟨rfl,⟨a2,np+m2,c2,?_,HQ2'.out.set_ 0 _,?_⟩,HB2'.out.setCell hg _⟩
 ·rw [List.length_append,← HNPL.out,HM2.out]
 ·have h:=row_far (g:=g) HO2'.out (fun k hk=>heap_set x2 g 0 (.slice a2 (np+m2) c2) k hk) (row_blk HO2'.out HQ2'.out (by decide))
  unfold OwnB
  rw [List.length_append,← HNPL.out,← HM2.out]
  exact h
def LogsR (w:World) (v:Value) (m:List (List ByteArray)):Prop :=
 ∃ us:List Value,SliceR w v 1 oneCell us∧us.length=m.length∧∀ i,i < m.length→SliceR w (us.getD i .nilIface) 1 strCell (m.getD i [])
theorem LogsR.below {w w':World} {v:Value} {m:List (List ByteArray)} (h:LogsR w v m) (hb:Below w.heap.size w w'):LogsR w' v m:=by
 obtain ⟨us,h1,h2,h3⟩:=h
 exact ⟨us,h1.below (fun _=>rfl) hb,h2,fun i hi=>(h3 i hi).below (fun _=>rfl) hb⟩
theorem LogsR.shape {w:World} {v:Value} {m:List (List ByteArray)} (h:LogsR w v m):∃ a cap,v=.slice a m.length cap∧m.length≤maxLen:=by
 obtain ⟨us,⟨a,cap,h1,h2,h3,_,_⟩,h5,_⟩:=h
 exact ⟨a,cap,by rw [h1,h5],by omega⟩
theorem LogsR.at_ {w:World} {b off n cap i:Nat} {m:List (List ByteArray)} (h:LogsR w (.slice (some ⟨b,off,none⟩) n cap) m) (hi:i < m.length) :
  ∃ a c,w.cell? ⟨b,off+i,none⟩=some (.slice a (m.getD i []).length c)∧SliceR w (.slice a (m.getD i []).length c) 1 strCell (m.getD i []):=by
 obtain ⟨us,h1,h2,h3⟩:=h
 obtain ⟨a',cap',e,_,_,_,h5⟩:=h1.one (c:=fun u=>u) .nilIface
 obtain ⟨b',off',e2,hat⟩:=h5 (by omega)
 cases e
 cases e2
 have h6:=h3 i hi
 have h7:=hat i (by omega)
 obtain ⟨a,c,e3,_⟩:=id h6
 rw [e3] at h6 h7
 exact ⟨a,c,h7,h6⟩
def TopGreatEnd (w:World) (e:Ending) (w':World):Prop:=(∃ z,e=.returned (.bool z))∧w=w'
set_option maxHeartbeats 4000000 in
set_option maxRecDepth 100000 in
theorem topGreat_any {w:World} {v:Value} {m:List (List ByteArray)} (h:LogsR w v m) :
  Calls Tryz.prog 5 #[v] w (TopGreatEnd w):=by
 obtain ⟨a,cap,rfl,hmx⟩:=h.shape
 obtain ⟨n,hn⟩:∃ n,n=m.length:=⟨_,rfl⟩
 have HS:=LH h
 have HN:=LH hn
 have HA:Hid (0 < n→∃ b off,a=some ⟨b,off,none⟩):=fun hp=>by
  obtain ⟨us,h1,h2,_⟩:=h
  obtain ⟨a',cap',e,_,_,_,h5⟩:=h1
  obtain ⟨b,off,e2,_⟩:=h5 (by omega)
  injection e with e1 _ _
  exact ⟨b,off,e1.trans e2⟩
 rw [← hn] at hmx HS ⊢
 unfold maxLen at hmx
 clear h hn
 go_enter Tryz.func5,Tryz.ntmps5
 go_wp2_with fail
 go_loopg [3,4,5] n (fun gh nv iv _ wr=>∃ (i:Nat) (t:Int),i≤n∧gh=n - i∧iv=.int .i64 (i:Int)∧nv=.int .i64 t∧Hid (w=wr))
 case atStart=>exact ⟨0,0,Nat.zero_le _,rfl,rfl,rfl,rfl⟩
 case round =>
  obtain ⟨i,t,hi,rfl,rfl,rfl,hw⟩:=hrel
  obtain rfl:w=wr:=hw
  by_cases hlt:i < n
  ·have hi0:(0:Int)≤(i:Int):=by omega
   have hi1:(i:Int) < (n:Int):=by omega
   by_cases h10:i < 10
   ·have hi10:(i:Int) < 10:=by omega
    obtain ⟨b,off,rfl⟩:=HA.out (by omega)
    obtain ⟨ua,uc,c0,hr⟩:=LogsR.at_ HS.out (i:=i) (by rw [← HN.out];exact hlt)
    obtain ⟨r,hrr⟩:∃ r,r=m.getD i []:=⟨_,rfl⟩
    rw [← hrr] at c0 hr
    obtain ⟨ua',uc',e,hcap,hmx2,_,hd⟩:=hr.one (c:=fun s=>.string s) ByteArray.empty
    cases e
    obtain ⟨rn,hrn⟩:∃ rn,rn=r.length:=⟨_,rfl⟩
    rw [← hrn] at c0 hd hcap
    have HD:=LH hd
    unfold maxLen at hmx2
    clear hrr hr hrn hd
    go_wp2_with fail
    go_loopg [3,5] rn (fun gh nv kv wi=>∃ (k:Nat) (t':Int),k≤rn∧gh=rn - k∧kv=.int .i64 (k:Int)∧nv=.int .i64 t'∧Hid (w=wi))
    case atStart=>exact ⟨0,t,Nat.zero_le _,rfl,rfl,rfl,rfl⟩
    case round =>
     obtain ⟨k,t',hk,rfl,rfl,rfl,hw⟩:=hrel
     obtain rfl:=hw
     by_cases hkl:k < rn
     ·have hk0:(0:Int)≤(k:Int):=by omega
      have hk1:(k:Int) < (rn:Int):=by omega
      by_cases h1000:k < 1000
      ·have hk10:(k:Int) < 1000:=by omega
       obtain ⟨ub,uo,rfl,hat⟩:=HD.out (by omega)
       have x0:=hat k hkl
       obtain ⟨q,hq⟩:∃ q:Nat,q=(r.getD k ByteArray.empty).size:=⟨_,rfl⟩
       obtain ⟨sx,hsx⟩:∃ sx,sx=r.getD k ByteArray.empty:=⟨_,rfl⟩
       rw [← hsx] at x0 hq
       clear hat hsx hq q
       rcases Int.lt_or_le (sx.size:Int) 10000 with hs|hs
       ·go_wp2_with fail
        go_roundg (rn - (k+1))
        case measure=>omega
        case rel=>exact ⟨k+1,_,by omega,rfl,by go_num,rfl,rfl⟩
       ·have hs':¬ (sx.size:Int) < 10000:=by omega
        go_wp2_with fail
        all_goals
         go_roundg (rn - (k+1))
         case measure=>omega
         case rel=>exact ⟨k+1,_,by omega,rfl,by go_num,rfl,rfl⟩
      ·have hk10:¬ (k:Int) < 1000:=by omega
       go_wp2_with fail
       go_roundg (n - (i+1))
       case measure=>omega
       case rel=>exact ⟨i+1,_,by omega,rfl,by go_num,rfl,rfl⟩
     ·obtain rfl:k=rn:=by omega
      have hkl':¬ (k:Int) < (k:Int):=by omega
      go_wp2_with fail
      go_roundg (n - (i+1))
      case measure=>omega
      case rel=>exact ⟨i+1,_,by omega,rfl,by go_num,rfl,rfl⟩
   ·have hi10:¬ (i:Int) < 10:=by omega
    rcases Int.lt_or_le 6 (n:Int) with h6|h6
    ·go_wp2_with fail
     go_ret
     exact ⟨⟨_,rfl⟩,rfl⟩
    ·have h6':¬ (6:Int) < (n:Int):=by omega
     rcases Int.lt_or_le 30000 t with h3|h3
     ·go_wp2_with fail
      go_ret
      exact ⟨⟨_,rfl⟩,rfl⟩
     ·have h3':¬ (30000:Int) < t:=by omega
      go_wp2_with fail
      go_ret
      exact ⟨⟨_,rfl⟩,rfl⟩
  ·obtain rfl:i=n:=by omega
   have hlt':¬ (i:Int) < (i:Int):=by omega
   rcases Int.lt_or_le 6 (i:Int) with h6|h6
   ·go_wp2_with fail
    go_ret
    exact ⟨⟨_,rfl⟩,rfl⟩
   ·have h6':¬ (6:Int) < (i:Int):=by omega
    rcases Int.lt_or_le 30000 t with h3|h3
    ·go_wp2_with fail
     go_ret
     exact ⟨⟨_,rfl⟩,rfl⟩
    ·have h3':¬ (30000:Int) < t:=by omega
     go_wp2_with fail
     go_ret
     exact ⟨⟨_,rfl⟩,rfl⟩
theorem minS_char {l:List Wt} (hp:l.Pairwise fun x y=>x.msg.id < y.msg.id):minS l=false↔∀ y∈l,(∀ z∈l,¬ ltS (ofW z) (ofW y))→y.fin=false:=by
 cases l with
 |nil=>exact ⟨(fun _ y h=>by cases h),fun _=>rfl⟩
 |cons x l =>
  have hm:=minW_mem x l
  have hle:=minW_le x l
  constructor
  ·intro h y hy hmin
   have h1:=hmin _ hm
   have h2:=hle y hy
   have e:y.msg.id=(minW x l).msg.id:=by
    unfold ltS ofW at h1 h2
    simp only at h1 h2
    omega
   have g1:=posW_self hp y hy
   have g2:=posW_self hp _ hm
   rw [e,g2] at g1
   have e2:minW x l=y:=Option.some.inj g1
   rw [← e2]
   exact h
  ·intro h
   exact h _ hm hle
theorem mem_insW {α:Type} {l:List α} {k:Nat} {x y:α}:y∈insW l k x↔y=x∨y∈l:=by
 unfold insW
 rw [List.mem_append,List.mem_cons]
 constructor
 ·rintro (h|h|h)
  ·exact Or.inr (List.mem_of_mem_take h)
  ·exact Or.inl h
  ·exact Or.inr (List.mem_of_mem_drop h)
 ·rintro (h|h)
  ·exact Or.inr (Or.inl h)
  ·have h2:=h
   rw [← List.take_append_drop k l] at h2
   rcases List.mem_append.1 h2 with h2|h2
   ·exact Or.inl h2
   ·exact Or.inr (Or.inr h2)
def asK (m:PM) (s:Sk):Sk:=⟨s.clock+1,insW s.waits (posW s.waits m.id) ⟨m,s.clock+1,false⟩,s.done⟩
theorem asK_inv {m:PM} {s:Sk} (h:InvK s) (hw:hasW s.waits m.id=false) (hd:doneB s.done m.id=false) (hm:smallI m.id):InvK (asK m s):=by
 have hu:idsUp (insW s.waits (posW s.waits m.id) ⟨m,s.clock+1,false⟩):=insert_up (x:=⟨m,s.clock+1,false⟩) ⟨h.wi,h.sm⟩ hw hm
 refine ⟨by have:=h.c0;show 0≤s.clock+1;omega,h.up,fun d hd=>by have:=h.dc d hd;show d.1≤s.clock+1;omega,?_,hu.1,?_,h.di,?_,hu.2,?_⟩
 ·intro w hw d hdm
  rcases mem_insW.1 hw with rfl|hw
  ·have:=h.dc d hdm
   left
   show d.1 < s.clock+1
   omega
  ·exact h.dw w hw d hdm
 ·intro w hw d hdm
  rcases mem_insW.1 hw with rfl|hw
  ·intro e
   have:doneB s.done m.id=true:=List.any_eq_true.2 ⟨d,hdm,by simpa using e.symm⟩
   rw [hd] at this
   cases this
  ·exact h.wd w hw d hdm
 ·intro w hw
  rcases mem_insW.1 hw with rfl|hw
  ·exact Int.le_refl _
  ·have:=h.wc w hw
   show w.time≤s.clock+1
   omega
 ·refine (minS_char hu.1).2 fun y hy hmin=>?_
  rcases mem_insW.1 hy with rfl|hy
  ·rfl
  ·exact (minS_char h.wi).1 h.mn y hy fun z hz=>hmin z (mem_insW.2 (Or.inr hz))
theorem posW_id {l:List Wt} {id:Int} (hp:l.Pairwise fun x y=>x.msg.id < y.msg.id) (h:hasW l id=true):posW l id < l.length∧(l.getD (posW l id) default).msg.id=id∧l.getD (posW l id) default∈l:=by
 obtain ⟨x,hx,he⟩:=List.any_eq_true.1 h
 have e:x.msg.id=id:=by simpa using he
 have hg:=posW_self hp x hx
 rw [e] at hg
 obtain ⟨hlt,hget⟩:=List.getElem?_eq_some_iff.1 hg
 have e2:l.getD (posW l id) default=x:=by simp [List.getD,hlt,hget]
 exact ⟨hlt,by rw [e2];exact e,by rw [e2];exact hx⟩
def fiK (id time:Int) (s:Sk):Sk:=⟨max s.clock time,s.waits.set (posW s.waits id) ⟨(s.waits.getD (posW s.waits id) default).msg,time,true⟩,s.done⟩
theorem fiK_inv {id time:Int} {s:Sk} (h:InvK s) (hw:hasW s.waits id=true) (ht:(s.waits.getD (posW s.waits id) default).time≤time):InvD (fiK id time s):=by
 obtain ⟨hlt,hid,hmem⟩:=posW_id h.wi hw
 have hms:∀ w∈(fiK id time s).waits,w∈s.waits∨w=⟨(s.waits.getD (posW s.waits id) default).msg,time,true⟩:=fun w hw=>List.mem_or_eq_of_mem_set hw
 have hmap:(fiK id time s).waits.map (fun x=>x.msg.id)=s.waits.map (fun x=>x.msg.id):=by
  show (s.waits.set _ _).map _=_
  rw [List.map_set]
  apply List.ext_getElem?
  intro j
  rw [List.getElem?_set]
  split
  ·next hj =>
   subst hj
   simp [hlt,List.getD]
  ·rfl
 have hu:idsUp (fiK id time s).waits:=idsUp_ids (l:=s.waits) ⟨h.wi,h.sm⟩ hmap
 refine ⟨?_,h.up,fun d hd=>Int.le_trans (h.dc d hd) (Int.le_max_left _ _),?_,hu.1,?_,h.di,?_,hu.2⟩
 ·exact Int.le_trans h.c0 (Int.le_max_left _ _)
 ·intro w hw d hd
  rcases hms w hw with hw|rfl
  ·exact h.dw w hw d hd
  ·have:=h.dw _ hmem d hd
   unfold ltS ofW at *
   simp only at *
   omega
 ·intro w hw d hd
  rcases hms w hw with hw|rfl
  ·exact h.wd w hw d hd
  ·exact h.wd _ hmem d hd
 ·intro w hw
  rcases hms w hw with hw|rfl
  ·exact Int.le_trans (h.wc w hw) (Int.le_max_left _ _)
  ·exact Int.le_max_right _ _
def ordStep (g:Int) (c:PC) (s:Sk):Sk:=if (apS g c s).1=0 then (apS g c s).2.1 else s
def ordOut (g:Int) (c:PC) (s:Sk):List PM:=if (apS g c s).1=0 then (apS g c s).2.2 else []
inductive Way (g:Int) (c:PC) (s:Sk):Prop
 |same:ordStep g c s=s→ordOut g c s=[]→Way g c s
 |more:c.kind=1→hasW s.waits c.msg.id=false→doneB s.done c.msg.id=false→smallI c.msg.id→ordStep g c s=asK c.msg s→ordOut g c s=[]→Way g c s
 |fin:c.kind=2→hasW s.waits c.id=true→(s.waits.getD (posW s.waits c.id) default).fin=false→(s.waits.getD (posW s.waits c.id) default).time≤c.time →
   ordStep g c s=(delS (fiK c.id c.time s).waits.length (fiK c.id c.time s) []).1→ordOut g c s=(delS (fiK c.id c.time s).waits.length (fiK c.id c.time s) []).2→Way g c s
theorem apS_ok {g:Int} {c:PC} {s:Sk} (h:(apS g c s).1=0):(stepS g c s).1=0∧(apS g c s).2=delS (stepS g c s).2.waits.length (stepS g c s).2 []:=by
 unfold apS at h ⊢
 split at h
 ·cases h
 ·split at h
  ·cases h
  ·split at h
   ·cases h
   ·split at h
    ·next hx=>exact absurd h hx
    ·next h1 h2 h3 h4 =>
     rw [if_neg h1,if_neg h2,if_neg h3,if_neg h4]
     unfold endK at h ⊢
     split at h
     ·cases h
     ·next h5 =>
      rw [if_neg h5]
      exact ⟨Classical.not_not.1 h4,rfl⟩
theorem ordWay {g:Int} {c:PC} {s:Sk} (h:InvK s) (hc:okCom c=true):Way g c s:=by
 by_cases h0:(apS g c s).1=0
 rotate_left
 ·exact Way.same (if_neg h0) (if_neg h0)
 obtain ⟨h1,h2⟩:=apS_ok h0
 have e1:ordStep g c s=(delS (stepS g c s).2.waits.length (stepS g c s).2 []).1:=by rw [ordStep,if_pos h0,h2]
 have e2:ordOut g c s=(delS (stepS g c s).2.waits.length (stepS g c s).2 []).2:=by rw [ordOut,if_pos h0,h2]
 have hsame:(stepS g c s).2=s→Way g c s:=fun he=>by
  rw [he,delS_none h.mn] at e1 e2
  exact Way.same e1 e2
 by_cases hk1:c.kind=1
 ·have hs:stepS g c s=assignS g c.msg s:=by rw [stepS,if_pos hk1]
  rw [hs] at h1 hsame e1 e2
  unfold assignS at h1 hsame e1 e2
  split at h1
  ·next hx =>
   rw [if_pos hx] at hsame
   exact hsame rfl
  ·next hx =>
   rw [if_neg hx] at hsame e1 e2
   split at h1
   ·cases h1
   ·next hy =>
    rw [if_neg hy] at e1 e2
    have hw:hasW s.waits c.msg.id=false:=by
     cases hq:hasW s.waits c.msg.id with
     |false=>rfl
     |true=>exact absurd (Or.inl hq) hx
    have hd:doneB s.done c.msg.id=false:=by
     cases hq:doneB s.done c.msg.id with
     |false=>rfl
     |true=>exact absurd (Or.inr (Or.inl hq)) hx
    have hm:=msgB_id (okCom_assign hc hk1)
    have hmn:=(asK_inv h hw hd hm).mn
    refine Way.more hk1 hw hd hm ?_ ?_
    ·rw [e1]
     exact congrArg (·.1) (delS_none (s:=asK c.msg s) hmn _ _)
    ·rw [e2]
     exact congrArg (·.2) (delS_none (s:=asK c.msg s) hmn _ _)
 ·by_cases hk2:c.kind=2
  ·have hs:stepS g c s=(0,finalS c.id c.time s):=by rw [stepS,if_neg hk1,if_pos hk2]
   rw [hs] at hsame e1 e2
   simp only at hsame e1 e2
   by_cases hx:hasW s.waits c.id=false∨(s.waits.getD (posW s.waits c.id) default).fin=true∨c.time < (s.waits.getD (posW s.waits c.id) default).time
   ·exact hsame (if_pos hx)
   ·have hf:finalS c.id c.time s=fiK c.id c.time s:=if_neg hx
    rw [hf] at e1 e2
    refine Way.fin hk2 ?_ ?_ ?_ e1 e2
    ·cases hq:hasW s.waits c.id with
     |true=>rfl
     |false=>exact absurd (Or.inl hq) hx
    ·cases hq:(s.waits.getD (posW s.waits c.id) default).fin with
     |false=>rfl
     |true=>exact absurd (Or.inr (Or.inl hq)) hx
    ·exact Int.not_lt.1 (fun hl=>hx (Or.inr (Or.inr hl)))
  ·exact hsame (by rw [stepS,if_neg hk1,if_neg hk2])
theorem ordStep_inv {g:Int} {c:PC} {s:Sk} (h:InvK s) (hc:okCom c=true):InvK (ordStep g c s):=by
 rcases ordWay (g:=g) h hc with ⟨e,_⟩|⟨_,h1,h2,h3,e,_⟩|⟨_,h1,_,h3,e,_⟩
 ·rw [e];exact h
 ·rw [e];exact asK_inv h h1 h2 h3
 ·rw [e];exact delS_inv _ _ _ (fiK_inv h h1 h3) (Nat.le_refl _)
theorem ordStep_top {g:Int} {c:PC} {s:Sk} (h:InvK s) (hc:okCom c=true) (h4:4≤c.kind):ordStep g c s=s:=by
 rcases ordWay (g:=g) h hc with ⟨e,_⟩|⟨hk,_⟩|⟨hk,_⟩
 ·exact e
 ·omega
 ·omega
theorem runQ_sk {g:Int}:∀ (cs:List PC) (s:Gs) (o:List Tk),InvK s.sk→(∀ c∈cs,okCom c=true)→(runQ g cs s o).1.sk=cs.foldl (fun s c=>ordStep g c s) s.sk
 |[],_,_,_,_=>rfl
 |c :: cs,s,o,h,hc=>by
  have hc0:=hc c (List.mem_cons_self ..)
  have e:(stepQ g c s).1.sk=ordStep g c s.sk:=by
   by_cases h4:4≤c.kind
   ·rw [stepQ,if_pos h4,ordStep_top h hc0 h4]
   ·rw [stepQ,if_neg h4,ordStep]
    by_cases h0:(apS g c s.sk).1=0
    ·rw [if_neg (fun h=>h h0),if_pos h0]
    ·rw [if_pos h0,if_neg h0]
  rw [runQ,runQ_sk cs _ _ (by rw [e];exact ordStep_inv h hc0) (fun x hx=>hc x (List.mem_cons_of_mem _ hx)),List.foldl_cons,e]
abbrev Gv:=Int × PM
def timesF (g:Int):List PC→Sk→List Gv
 |[],_=>[]
 |c :: cs,s=>(if s.waits.length < (ordStep g c s).waits.length then [((ordStep g c s).clock,c.msg)] else [])++timesF g cs (ordStep g c s)
def finF (t:List (List Gv)) (m:PM):List Int→Int→Int × Bool
 |[],most=>(most,true)
 |g :: gs,most =>
  if (t.length:Int)≤g then (0,false)
  else match (t.getD g.toNat []).find? (fun x=>decide (x.2=m)) with
   |none=>(0,false)
   |some x=>finF t m gs (max most x.1)
def finT (t:List (List Gv)) (m:PM):Int × Bool:=finF t m m.groups 0
def HonF (t:List (List Gv)) (g:Int):List PC→Sk→Prop
 |[],_=>True
 |c :: cs,s=>(c.kind=2→s≠ordStep g c s→finT t (s.waits.getD (posW s.waits c.id) default).msg=(c.time,true))∧HonF t g cs (ordStep g c s)
structure HonI (t:List (List Gv)) (T:List Gv) (s:Sk):Prop where
 w:∀ w∈s.waits,(∃ τ,(τ,w.msg)∈T)∧(w.fin=true→finT t w.msg=(w.time,true))
 d:∀ d∈s.done,∃ m,(∃ τ,(τ,m)∈T)∧m.id=d.2∧finT t m=(d.1,true)
theorem honI_z (t:List (List Gv)) (T:List Gv):HonI t T skZ:=⟨(fun _ h=>by cases h),(fun _ h=>by cases h)⟩
theorem delS_hon {t:List (List Gv)} {T:List Gv}:∀ (f:Nat) (s:Sk) (out:List PM),HonI t T s→HonI t T (delS f s out).1
 |0,s,out,h=>by rw [delS];exact h
 |f+1,s,out,h=>by
  rw [delS]
  split
  ·exact h
  ·next x l he =>
   split
   ·next hf =>
    have hm:minW x l∈s.waits:=by rw [he];exact minW_mem x l
    refine delS_hon f _ _ ⟨fun w hw=>h.w w (delW_mem hw),fun d hd=>?_⟩
    rcases List.mem_append.1 hd with hd|hd
    ·exact h.d d hd
    ·rw [List.mem_singleton.1 hd]
     exact ⟨_,(h.w _ hm).1,rfl,(h.w _ hm).2 hf⟩
   ·exact h
theorem delS_sub:∀ (f:Nat) (s:Sk) (out:List PM),∀ w∈(delS f s out).1.waits,w∈s.waits
 |0,s,out,w,h=>by rw [delS] at h;exact h
 |f+1,s,out,w,h=>by
  rw [delS] at h
  split at h
  ·exact h
  ·split at h
   ·exact delW_mem (delS_sub f _ _ w h)
   ·exact h
theorem ordStep_hon {t:List (List Gv)} {T:List Gv} {g:Int} {c:PC} {s:Sk} (hi:InvK s) (hc:okCom c=true) (h:HonI t T s)
  (hf:c.kind=2→s≠ordStep g c s→finT t (s.waits.getD (posW s.waits c.id) default).msg=(c.time,true))
  (hg:s.waits.length < (ordStep g c s).waits.length→∃ τ,(τ,c.msg)∈T):HonI t T (ordStep g c s):=by
 rcases ordWay (g:=g) hi hc with ⟨e,_⟩|⟨_,_,_,_,e,_⟩|⟨hk,h1,h2,h3,e,_⟩
 ·rw [e];exact h
 ·rw [e] at hg ⊢
  refine ⟨fun w hw=>?_,h.d⟩
  rcases mem_insW.1 hw with rfl|hw
  ·refine ⟨hg ?_,fun hx=>by cases hx⟩
   show s.waits.length < (insW s.waits (posW s.waits c.msg.id) _).length
   rw [insW_len (posW_le _ _)]
   omega
  ·exact h.w w hw
 ·obtain ⟨hlt,hid,hmem⟩:=posW_id hi.wi h1
  have hd:=fiK_inv hi h1 h3
  have hne:s≠ordStep g c s:=fun he=>by
   have hw0:s.waits.getD (posW s.waits c.id) default∈(ordStep g c s).waits:=by rw [← he];exact hmem
   rw [e] at hw0
   have hw1:=delS_sub _ _ _ _ hw0
   have hnew:(⟨(s.waits.getD (posW s.waits c.id) default).msg,c.time,true⟩:Wt)∈(fiK c.id c.time s).waits:=List.mem_set hlt _
   have g1:=posW_self hd.wi _ hw1
   have g2:=posW_self hd.wi _ hnew
   rw [show (⟨(s.waits.getD (posW s.waits c.id) default).msg,c.time,true⟩:Wt).msg.id=(s.waits.getD (posW s.waits c.id) default).msg.id from rfl,g1] at g2
   have e3:=congrArg Wt.fin (Option.some.inj g2)
   rw [h2] at e3
   cases e3
  have hfin:=hf hk hne
  rw [e]
  refine delS_hon _ _ _ ⟨fun w hw=>?_,h.d⟩
  rcases List.mem_or_eq_of_mem_set hw with hw|rfl
  ·exact h.w w hw
  ·exact ⟨(h.w _ hmem).1,fun _=>hfin⟩
theorem hon_run {t:List (List Gv)} {T:List Gv} {g:Int}:∀ (cs:List PC) (s:Sk),InvK s→(∀ c∈cs,okCom c=true)→HonI t T s→HonF t g cs s→(∀ x∈timesF g cs s,x∈T) →
  InvK (cs.foldl (fun s c=>ordStep g c s) s)∧HonI t T (cs.foldl (fun s c=>ordStep g c s) s)
 |[],s,hi,_,h,_,_=>⟨hi,h⟩
 |c :: cs,s,hi,hc,h,hf,ht=>by
  have hc0:=hc c (List.mem_cons_self ..)
  rw [List.foldl_cons]
  refine hon_run cs _ (ordStep_inv hi hc0) (fun x hx=>hc x (List.mem_cons_of_mem _ hx)) (ordStep_hon hi hc0 h hf.1 (fun hl=>⟨(ordStep g c s).clock,ht ((ordStep g c s).clock,c.msg) ?_⟩)) hf.2 (fun x hx=>ht x ?_)
  ·rw [timesF,if_pos hl]
   exact List.mem_append.2 (Or.inl (List.mem_singleton.2 rfl))
  ·rw [timesF]
   exact List.mem_append.2 (Or.inr hx)
theorem delS_out:∀ (f:Nat) (s:Sk) (out:List PM),∃ new msgs,(delS f s out).1.done=s.done++new∧(delS f s out).2=out++msgs∧new.map (·.2)=msgs.map (·.id)
 |0,s,out=>⟨[],[],by rw [delS];simp,by rw [delS];simp,rfl⟩
 |f+1,s,out=>by
  rw [delS]
  split
  ·exact ⟨[],[],by simp,by simp,rfl⟩
  ·next x l he =>
   split
   ·obtain ⟨new,msgs,h1,h2,h3⟩:=delS_out f ⟨s.clock,delW s.waits (posW s.waits (minW x l).msg.id),s.done++[ofW (minW x l)]⟩ (out++[(minW x l).msg])
    refine ⟨ofW (minW x l) :: new,(minW x l).msg :: msgs,?_,?_,?_⟩
    ·rw [h1];simp
    ·rw [h2];simp
    ·rw [List.map_cons,List.map_cons,h3];rfl
   ·exact ⟨[],[],by simp,by simp,rfl⟩
theorem putsM_sub:∀ (l:List PM) (m:Mdl) (tk:List Tk),∃ ps,(putsM m tk l).2=tk++ps∧(ps.map (·.1)).Sublist (l.map (·.id))
 |[],m,tk=>⟨[],by simp [putsM],List.Sublist.refl _⟩
 |x :: l,m,tk=>by
  rw [putsM]
  split
  ·obtain ⟨ps,h1,h2⟩:=putsM_sub l (putM m x.id x.topic x.key x.body).1 (tk++[(x.id,x.topic,(putM m x.id x.topic x.key x.body).2.1)])
   exact ⟨_ :: ps,by rw [h1];simp;rfl,by rw [List.map_cons,List.map_cons];exact h2.cons_cons _⟩
  ·obtain ⟨ps,h1,h2⟩:=putsM_sub l m tk
   exact ⟨ps,h1,by rw [List.map_cons];exact h2.cons _⟩
def PutI (s:Sk) (o:List Tk):Prop:=∃ ds:List (Int × Int),ds.Sublist s.done∧ds.map (·.2)=o.map (·.1)
theorem stepQ_put {g:Int} {c:PC} {s:Gs} {o:List Tk} (h:PutI s.sk o):PutI (stepQ g c s).1.sk (o++(stepQ g c s).2.1):=by
 unfold stepQ
 split
 ·simpa using h
 ·split
  ·simpa using h
  ·next h4 h0 =>
   obtain ⟨_,h2⟩:=apS_ok (Classical.not_not.1 h0)
   obtain ⟨new,msgs,e1,e2,e3⟩:=delS_out (stepS g c s.sk).2.waits.length (stepS g c s.sk).2 []
   rw [← h2] at e1 e2
   rw [step_done] at e1
   rw [List.nil_append] at e2
   obtain ⟨ps,p1,p2⟩:=putsM_sub (apS g c s.sk).2.2 s.m []
   rw [List.nil_append] at p1
   rw [e2,← e3] at p2
   obtain ⟨ds2,q1,q2⟩:=List.sublist_map_iff.1 p2
   obtain ⟨ds,r1,r2⟩:=h
   refine ⟨ds++ds2,?_,?_⟩
   ·show (ds++ds2).Sublist (apS g c s.sk).2.1.done
    rw [e1]
    exact r1.append q1
   ·show (ds++ds2).map (·.2)=(o++(putsM s.m [] (apS g c s.sk).2.2).2).map (·.1)
    rw [List.map_append,List.map_append,r2,p1,q2]
theorem runQ_put {g:Int}:∀ (cs:List PC) (s:Gs) (o:List Tk),PutI s.sk o→PutI (runQ g cs s o).1.sk (runQ g cs s o).2
 |[],_,_,h=>h
 |c :: cs,s,o,h=>by
  rw [runQ]
  exact runQ_put cs _ _ (stepQ_put h)
theorem sorted_eq:∀ {l l':List (Int × Int)},l.Pairwise ltS→l'.Pairwise ltS→(∀ x,x∈l↔x∈l')→l=l'
 |[],[],_,_,_=>rfl
 |[],y :: _,_,_,h=>absurd ((h y).2 (List.mem_cons_self ..)) (by simp)
 |x :: _,[],_,_,h=>absurd ((h x).1 (List.mem_cons_self ..)) (by simp)
 |x :: l,y :: l',h1,h2,h=>by
  rw [List.pairwise_cons] at h1 h2
  have hxy:x=y:=by
   rcases List.mem_cons.1 ((h x).1 (List.mem_cons_self ..)) with e|hx
   ·exact e
   ·rcases List.mem_cons.1 ((h y).2 (List.mem_cons_self ..)) with e|hy
    ·exact e.symm
    ·exact absurd (ltS_trans (h1.1 y hy) (h2.1 x hx)) (ltS_irr _)
  subst hxy
  congr 1
  refine sorted_eq h1.2 h2.2 fun z=>?_
  constructor
  ·intro hz
   rcases List.mem_cons.1 ((h z).1 (List.mem_cons_of_mem _ hz)) with e|hz2
   ·rw [e] at hz
    exact absurd (h1.1 x hz) (ltS_irr _)
   ·exact hz2
  ·intro hz
   rcases List.mem_cons.1 ((h z).2 (List.mem_cons_of_mem _ hz)) with e|hz2
   ·rw [e] at hz
    exact absurd (h2.1 x hz) (ltS_irr _)
   ·exact hz2
def bothQ (a b:List Tk):List Int:=(a.map (·.1)).filter (fun id=>b.any (fun y=>y.1 == id))
theorem bothQ_mem {a b:List Tk}:bothQ a b=(a.map (·.1)).filter (fun id=>decide (id∈b.map (·.1))):=by
 unfold bothQ
 apply List.filter_congr
 intro x _
 by_cases h:x∈b.map (·.1)
 ·obtain ⟨y,hy,e⟩:=List.mem_map.1 h
  rw [decide_eq_true h]
  exact List.any_eq_true.2 ⟨y,hy,by simpa using e⟩
 ·rw [decide_eq_false h]
  rw [← Bool.not_eq_true]
  intro h2
  obtain ⟨y,hy,e⟩:=List.any_eq_true.1 h2
  exact h (List.mem_map.2 ⟨y,hy,by simpa using e⟩)
theorem both_same {t:List (List Gv)} {Ta Tb:List Gv} {sa sb:Sk} {oa ob:List Tk} (ia:InvK sa) (ib:InvK sb) (ha:HonI t Ta sa) (hb:HonI t Tb sb) (pa:PutI sa oa) (pb:PutI sb ob)
  (hone:∀ x∈Ta,∀ y∈Tb,x.2.id=y.2.id→x.2=y.2):bothQ oa ob=bothQ ob oa:=by
 obtain ⟨da,a1,a2⟩:=pa
 obtain ⟨db,b1,b2⟩:=pb
 rw [bothQ_mem,bothQ_mem,← a2,← b2]
 have key:∀ x∈da,∀ y∈db,x.2=y.2→x=y:=by
  intro x hx y hy e
  obtain ⟨m,⟨τ,hm⟩,e1,e2⟩:=ha.d x (a1.subset hx)
  obtain ⟨m',⟨τ',hm'⟩,e3,e4⟩:=hb.d y (b1.subset hy)
  have em:m=m':=hone _ hm _ hm' (by rw [e1,e3,e])
  rw [em,e4] at e2
  have:y.1=x.1:=congrArg (·.1) e2
  exact Prod.ext this.symm e
 have ea:(da.map (·.2)).filter (fun id=>decide (id∈db.map (·.2)))=(da.filter (fun x=>decide (x.2∈db.map (·.2)))).map (·.2):=by rw [List.filter_map];rfl
 have eb:(db.map (·.2)).filter (fun id=>decide (id∈da.map (·.2)))=(db.filter (fun x=>decide (x.2∈da.map (·.2)))).map (·.2):=by rw [List.filter_map];rfl
 rw [ea,eb]
 congr 1
 refine sorted_eq ((ia.up.sublist a1).sublist List.filter_sublist) ((ib.up.sublist b1).sublist List.filter_sublist) fun z=>?_
 simp only [List.mem_filter,decide_eq_true_eq]
 constructor
 ·rintro ⟨hz,hz2⟩
  obtain ⟨y,hy,e⟩:=List.mem_map.1 hz2
  have:=key z hz y hy e.symm
  subst this
  exact ⟨hy,List.mem_map.2 ⟨z,hz,rfl⟩⟩
 ·rintro ⟨hz,hz2⟩
  obtain ⟨y,hy,e⟩:=List.mem_map.1 hz2
  have:=key y hy z hz e
  subst this
  exact ⟨hy,List.mem_map.2 ⟨y,hz,rfl⟩⟩
end Go.Proofs.YtkkohllhebdlcaaGreatDoor
