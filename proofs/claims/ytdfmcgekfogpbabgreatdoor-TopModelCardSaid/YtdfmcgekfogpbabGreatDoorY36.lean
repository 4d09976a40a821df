/-
  Proved here: command.text's own three functions, at small numbers. Conditions: the  Plain: what waits in a group's clock stays small, behind any commands.
-/
import Derived.Test.YtdfmcgekfogpbabGreatDoorY30
import Derived.Test.YtdfmcgekfogpbabGreatDoorY32
set_option maxRecDepth 100000
namespace Go.Proofs.YtdfmcgekfogpbabGreatDoor
open Go.RowKit
def BoxB (w:World) (B g:Nat) (l:List Int):Prop:=∃ a n cap,n=l.length∧Blk w g 132 [.slice a n cap]∧OwnB w B (.slice a n cap) l
def BoxEnd (w0:World) (g:Nat) (l:List Int) (e:Ending) (w':World):Prop:=e=.returned (.tuple #[])∧BoxB w' w0.heap.size g l∧Below w0.heap.size w0 w'
theorem bytes_flat {w:World} {B:Nat} {a:Option Addr} {n cap:Nat} {l:List Int} (h:OwnB w B (.slice a n cap) l) (ad:Addr) (ha:a=some ad):∀ j u,(byteVs l)[j]?=some u→w.cell? (ad.add j)=some u:=by
 have h2:=h.2
 rcases h2 with ⟨hv,_⟩|⟨g,cp,cur,hv,_⟩
 ·cases hv;cases ha
 ·cases hv
  cases ha
  exact fun j u hu=>World.ownsRow.cells (g:=g) h rfl j u hu
theorem bytes_none {w:World} {B:Nat} {a:Option Addr} {n cap:Nat} {l:List Int} (h:OwnB w B (.slice a n cap) l) (ha:a=none):n=0∧cap=0:=by
 obtain ⟨h1,h2⟩:=h
 rcases h2 with ⟨hv,hn⟩|⟨g,cp,cur,hv,_⟩
 ·cases hv;exact ⟨rfl,rfl⟩
 ·cases hv;cases ha
theorem byteVs_len (l:List Int):(byteVs l).length=l.length:=by simp [byteVs]
set_option maxHeartbeats 2000000 in
set_option maxRecDepth 100000 in
theorem ints_box {w0 w:World} {g:Nat} {v:Value} {bs:List Int} {x:Int} (h0:Below w0.heap.size w0 w) (hg:w0.heap.size≤g) (hb:BoxB w w0.heap.size g bs) (hv:IntsR w v [x]) (x0:0≤x) (x1:x≤127) (hl:bs.length≤500) :
  Calls Tryz.prog 121 #[v,.pointer (some ⟨g,0,none⟩)] w (BoxEnd w0 g (bs++[1,x])):=by
 obtain ⟨va,vc,rfl,-⟩:=id hv.shape
 obtain ⟨i0,hi,hz0,hz1,hz2⟩:=info_parts info_u8
 obtain ⟨a,n,c,hn,hq,ho⟩:=hb
 have HB:=LH h0
 have HQ:=LH hq
 have HO:Hid (w.ownsRow w0.heap.size 5 1 (.slice a n c) n (byteVs bs)):=LH (by rw [hn] at ho ⊢;exact ho)
 have HNL:=LH hn
 have HN:Hid (n≤500):=LH (by omega)
 have q:=hq.cell 0
 have qz:=hq.free
 have gl:=hq.lt
 have KP:Hid (Calls Tryz.prog 122 #[.slice va [x].length vc] w (PutEnd2 w [1,x])):=numInts_one hv x0 x1
 simp only [List.length_cons,List.length_nil,Nat.zero_add] at KP ⊢
 clear h0 hq ho hn hv x0 x1 hl
 go_enter Tryz.func121,Tryz.ntmps121
 go_wp2_with fail
 refine (KP.out).mono ?_
 rintro e u1 ⟨b1,m1,d1,rfl,hm,ho,hb⟩
 have HP1:Hid (OwnB u1 w.heap.size (.slice b1 m1 d1) ([1,x])):=LH ho
 have HM1:Hid (m1=([1,x]).length):=LH hm
 have HBu1:Hid (Below w0.heap.size w0 u1):=LH (Below.step HB.out hb HB.out.size)
 have HQu1:=LH (HQ.out.step hb)
 have HOu1:Hid (u1.ownsRow w0.heap.size 5 1 (.slice a n c) n (byteVs (bs))):=LH (ownsRow_keep HO.out hb)
 have HL1:Hid (n+m1≤1000):=LH (by have:=HN.out;have:=HM1.out;simp at *;omega)
 clear hm ho hb q qz HQ HO
 have q1:=HQu1.out.cell 0
 have qz1:=HQu1.out.free
 have HNW1:=LH (fun ad ha=>bytes_flat HP1.out ad ha)
 have HNN1:=LH (fun ha=>bytes_none HP1.out ha)
 go_wp2_with (at_builtin;refine wpList_append_own_any u1 rfl _ _ 132 rfl w0.heap.size 5 i0 _ 1 1 Tryz.underlying132 hi hz0 hz1 hz2 rfl (by decide) _ n _ rfl HOu1.out b1 m1 d1 (byteVs ([1,x])) rfl (by rw [byteVs_len,HM1.out,Nat.mul_one]) HNN1.out HNW1.out (byteVs_one _) (by have:=HL1.out;unfold maxLen;omega) (by have:=HL1.out;omega) HBu1.out.size ?_)
 intro v1 x1 hown hgrow
 obtain ⟨a1,c1,rfl⟩:=row_shape hown
 have HO1':Hid (x1.ownsRow w0.heap.size 5 1 (.slice a1 (n+m1) c1) (n+m1) (byteVs ((bs)++([1,x])))):=by
  unfold byteVs at hown ⊢
  rw [List.map_append]
  exact LH hown
 have HQ1':=LH (HQu1.out.grown hgrow (row_blk HOu1.out HQu1.out (by decide)))
 have HB1':Hid (Below w0.heap.size w0 x1):=LH (HBu1.out.grown hgrow HBu1.out.size (fun j hj=>(HOu1.out.lt j hj).1))
 clear hown hgrow q1 qz1
 have q1:=HQ1'.out.cell 0
 have qz1:=HQ1'.out.free
 go_wp2_with fail
 refine bodyPost_end (v:=.tuple #[]) (by simp [results,Tryz.results121,go_sem]) rfl ⟨rfl,⟨a1,n+m1,c1,?_,HQ1'.out.set_ 0 _,?_⟩,HB1'.out.setCell hg _⟩
 ·rw [List.length_append,← HNL.out,HM1.out]
 ·have h:=row_far (g:=g) HO1'.out (fun k hk=>heap_set x1 g 0 (.slice a1 (n+m1) c1) k hk) (row_blk HO1'.out HQ1'.out (by decide))
  unfold OwnB
  rw [List.length_append,← HNL.out,← HM1.out]
  exact h
set_option maxHeartbeats 2000000 in
set_option maxRecDepth 100000 in
theorem put_box {w0 w:World} {g:Nat} {s:ByteArray} {bs:List Int} (h0:Below w0.heap.size w0 w) (hg:w0.heap.size≤g) (hb:BoxB w w0.heap.size g bs) (hs:s.size≤127) (hl:bs.length≤500) :
  Calls Tryz.prog 123 #[.string s,.pointer (some ⟨g,0,none⟩)] w (BoxEnd w0 g (bs++((s.size:Int) :: s.data.toList.map fun b=>(b.toNat:Int)))):=by
 obtain ⟨i0,hi,hz0,hz1,hz2⟩:=info_parts info_u8
 obtain ⟨a,n,c,hn,hq,ho⟩:=hb
 have HB:=LH h0
 have HQ:=LH hq
 have HO:Hid (w.ownsRow w0.heap.size 5 1 (.slice a n c) n (byteVs bs)):=LH (by rw [hn] at ho ⊢;exact ho)
 have HNL:=LH hn
 have HN:Hid (n≤500):=LH (by omega)
 have q:=hq.cell 0
 have qz:=hq.free
 have gl:=hq.lt
 have KP:Hid (Calls Tryz.prog 124 #[.string s] w (PutEnd2 w ((s.size:Int) :: s.data.toList.map fun b=>(b.toNat:Int)))):=numText_any hs
 obtain ⟨nb,hnb⟩:∃ nb,nb=((s.size:Int) :: s.data.toList.map fun b=>(b.toNat:Int)):=⟨_,rfl⟩
 have HNB:Hid (nb.length≤128):=LH (by rw [hnb];simp;omega)
 rw [← hnb] at KP ⊢
 clear h0 hq ho hn hs hl hnb
 go_enter Tryz.func123,Tryz.ntmps123
 go_wp2_with fail
 refine (KP.out).mono ?_
 rintro e u1 ⟨b1,m1,d1,rfl,hm,ho,hb⟩
 have HP1:Hid (OwnB u1 w.heap.size (.slice b1 m1 d1) (nb)):=LH ho
 have HM1:Hid (m1=(nb).length):=LH hm
 have HBu1:Hid (Below w0.heap.size w0 u1):=LH (Below.step HB.out hb HB.out.size)
 have HQu1:=LH (HQ.out.step hb)
 have HOu1:Hid (u1.ownsRow w0.heap.size 5 1 (.slice a n c) n (byteVs (bs))):=LH (ownsRow_keep HO.out hb)
 have HL1:Hid (n+m1≤1000):=LH (by have:=HN.out;have:=HM1.out;have:=HNB.out;omega)
 clear hm ho hb q qz HQ HO
 have q1:=HQu1.out.cell 0
 have qz1:=HQu1.out.free
 have HNW1:=LH (fun ad ha=>bytes_flat HP1.out ad ha)
 have HNN1:=LH (fun ha=>bytes_none HP1.out ha)
 go_wp2_with (at_builtin;refine wpList_append_own_any u1 rfl _ _ 132 rfl w0.heap.size 5 i0 _ 1 1 Tryz.underlying132 hi hz0 hz1 hz2 rfl (by decide) _ n _ rfl HOu1.out b1 m1 d1 (byteVs (nb)) rfl (by rw [byteVs_len,HM1.out,Nat.mul_one]) HNN1.out HNW1.out (byteVs_one _) (by have:=HL1.out;unfold maxLen;omega) (by have:=HL1.out;omega) HBu1.out.size ?_)
 intro v1 x1 hown hgrow
 obtain ⟨a1,c1,rfl⟩:=row_shape hown
 have HO1':Hid (x1.ownsRow w0.heap.size 5 1 (.slice a1 (n+m1) c1) (n+m1) (byteVs ((bs)++(nb)))):=by
  unfold byteVs at hown ⊢
  rw [List.map_append]
  exact LH hown
 have HQ1':=LH (HQu1.out.grown hgrow (row_blk HOu1.out HQu1.out (by decide)))
 have HB1':Hid (Below w0.heap.size w0 x1):=LH (HBu1.out.grown hgrow HBu1.out.size (fun j hj=>(HOu1.out.lt j hj).1))
 clear hown hgrow q1 qz1
 have q1:=HQ1'.out.cell 0
 have qz1:=HQ1'.out.free
 go_wp2_with fail
 refine bodyPost_end (v:=.tuple #[]) (by simp [results,Tryz.results123,go_sem]) rfl ⟨rfl,⟨a1,n+m1,c1,?_,HQ1'.out.set_ 0 _,?_⟩,HB1'.out.setCell hg _⟩
 ·rw [List.length_append,← HNL.out,HM1.out]
 ·have h:=row_far (g:=g) HO1'.out (fun k hk=>heap_set x1 g 0 (.slice a1 (n+m1) c1) k hk) (row_blk HO1'.out HQ1'.out (by decide))
  unfold OwnB
  rw [List.length_append,← HNL.out,← HM1.out]
  exact h
set_option maxHeartbeats 2000000 in
set_option maxRecDepth 100000 in
theorem add_one {w0 w:World} {g j:Nat} {bs:List Int} {x:Int} (h0:Below w0.heap.size w0 w) (hg:w0.heap.size≤g) (hb:BoxB w w0.heap.size g bs) (hj:Blk w j 3 [.int .i64 x]) (hx:(0≤x∧x≤127)) (hl:bs.length≤400) :
  Calls Tryz.prog 119 #[.slice (some ⟨j,0,none⟩) 1 1,.pointer (some ⟨g,0,none⟩)] w (BoxEnd w0 g (bs++[x])):=by
 obtain ⟨i0,hi,hz0,hz1,hz2⟩:=info_parts info_u8
 obtain ⟨a,n,c,hn,hq,ho⟩:=hb
 have HB:=LH h0
 have HQ:=LH hq
 have HO:Hid (w.ownsRow w0.heap.size 5 1 (.slice a n c) n (byteVs bs)):=LH (by rw [hn] at ho ⊢;exact ho)
 have HNL:=LH hn
 have HN:Hid (n≤400):=LH (by omega)
 have q:=hq.cell 0
 have qz:=hq.free
 have gl:=hq.lt
 have HJ:=LH hj
 have HX:=LH hx
 have jl:=hj.lt
 have hjg:j≠g:=fun e=>by
  subst e
  unfold Blk at hj hq
  rw [hj] at hq
  exact absurd hq (by simp)
 have j0:=hj.cell 0
 clear h0 hq ho hn hx hj hl
 go_enter Tryz.func119,Tryz.ntmps119
 go_wp2_with fail
 refine wp_loop_rounds 2 ?_
 rw [rounds_succ]
 go_wp2_with fail
 refine (numPut_any HX.out.1 HX.out.2).mono ?_
 rintro e u1 ⟨b1,m1,d1,rfl,hm,ho,hb⟩
 have HP1:Hid (OwnB u1 w.heap.size (.slice b1 m1 d1) ([x])):=LH ho
 have HM1:Hid (m1=([x]).length):=LH hm
 have HBu1:Hid (Below w0.heap.size w0 u1):=LH (Below.step HB.out hb HB.out.size)
 have HQu1:=LH (HQ.out.step hb)
 have HOu1:Hid (u1.ownsRow w0.heap.size 5 1 (.slice a n c) n (byteVs (bs))):=LH (ownsRow_keep HO.out hb)
 have HL1:Hid (n+m1≤1000):=LH (by have:=HN.out;have:=HM1.out;simp at *;omega)
 clear hm ho hb q qz HQ HO
 have q1:=HQu1.out.cell 0
 have qz1:=HQu1.out.free
 have HNW1:=LH (fun ad ha=>bytes_flat HP1.out ad ha)
 have HNN1:=LH (fun ha=>bytes_none HP1.out ha)
 go_wp2_with (at_builtin;refine wpList_append_own_any u1 rfl _ _ 132 rfl w0.heap.size 5 i0 _ 1 1 Tryz.underlying132 hi hz0 hz1 hz2 rfl (by decide) _ n _ rfl HOu1.out b1 m1 d1 (byteVs ([x])) rfl (by rw [byteVs_len,HM1.out,Nat.mul_one]) HNN1.out HNW1.out (byteVs_one _) (by have:=HL1.out;unfold maxLen;omega) (by have:=HL1.out;omega) HBu1.out.size ?_)
 intro v1 x1 hown hgrow
 obtain ⟨a1,c1,rfl⟩:=row_shape hown
 have HO1':Hid (x1.ownsRow w0.heap.size 5 1 (.slice a1 (n+m1) c1) (n+m1) (byteVs ((bs)++([x])))):=by
  unfold byteVs at hown ⊢
  rw [List.map_append]
  exact LH hown
 have HQ1':=LH (HQu1.out.grown hgrow (row_blk HOu1.out HQu1.out (by decide)))
 have HB1':Hid (Below w0.heap.size w0 x1):=LH (HBu1.out.grown hgrow HBu1.out.size (fun j hj=>(HOu1.out.lt j hj).1))
 clear hown hgrow q1 qz1
 have q1:=HQ1'.out.cell 0
 have qz1:=HQ1'.out.free
 go_wp2_with fail
 rw [rounds_succ]
 go_wp2_with fail
 refine bodyPost_end (v:=.tuple #[]) (by simp [results,Tryz.results119,go_sem]) rfl ⟨rfl,⟨a1,n+m1,c1,?_,HQ1'.out.set_ 0 _,?_⟩,HB1'.out.setCell hg _⟩
 ·rw [List.length_append,← HNL.out,HM1.out]
 ·have h:=row_far (g:=g) HO1'.out (fun k hk=>heap_set x1 g 0 (.slice a1 (n+m1) c1) k hk) (row_blk HO1'.out HQ1'.out (by decide))
  unfold OwnB
  rw [List.length_append,← HNL.out,← HM1.out]
  exact h
set_option maxHeartbeats 2000000 in
set_option maxRecDepth 100000 in
theorem add_two {w0 w:World} {g j:Nat} {bs:List Int} {x y:Int} (h0:Below w0.heap.size w0 w) (hg:w0.heap.size≤g) (hb:BoxB w w0.heap.size g bs) (hj:Blk w j 3 [.int .i64 x,.int .i64 y]) (hx:(0≤x∧x≤127)∧(0≤y∧y≤127)) (hl:bs.length≤400) :
  Calls Tryz.prog 119 #[.slice (some ⟨j,0,none⟩) 2 2,.pointer (some ⟨g,0,none⟩)] w (BoxEnd w0 g (bs++[x,y])):=by
 obtain ⟨i0,hi,hz0,hz1,hz2⟩:=info_parts info_u8
 obtain ⟨a,n,c,hn,hq,ho⟩:=hb
 have HB:=LH h0
 have HQ:=LH hq
 have HO:Hid (w.ownsRow w0.heap.size 5 1 (.slice a n c) n (byteVs bs)):=LH (by rw [hn] at ho ⊢;exact ho)
 have HNL:=LH hn
 have HN:Hid (n≤400):=LH (by omega)
 have q:=hq.cell 0
 have qz:=hq.free
 have gl:=hq.lt
 have HJ:=LH hj
 have HX:=LH hx
 have jl:=hj.lt
 have hjg:j≠g:=fun e=>by
  subst e
  unfold Blk at hj hq
  rw [hj] at hq
  exact absurd hq (by simp)
 have j0:=hj.cell 0
 have j1:=hj.cell 1
 clear h0 hq ho hn hx hj hl
 go_enter Tryz.func119,Tryz.ntmps119
 go_wp2_with fail
 refine wp_loop_rounds 3 ?_
 rw [rounds_succ]
 go_wp2_with fail
 refine (numPut_any HX.out.1.1 HX.out.1.2).mono ?_
 rintro e u1 ⟨b1,m1,d1,rfl,hm,ho,hb⟩
 have HP1:Hid (OwnB u1 w.heap.size (.slice b1 m1 d1) ([x])):=LH ho
 have HM1:Hid (m1=([x]).length):=LH hm
 have HBu1:Hid (Below w0.heap.size w0 u1):=LH (Below.step HB.out hb HB.out.size)
 have HQu1:=LH (HQ.out.step hb)
 have HOu1:Hid (u1.ownsRow w0.heap.size 5 1 (.slice a n c) n (byteVs (bs))):=LH (ownsRow_keep HO.out hb)
 have HL1:Hid (n+m1≤1000):=LH (by have:=HN.out;have:=HM1.out;simp at *;omega)
 have HJu1:=LH (HJ.out.step hb)
 clear hm ho hb q qz HQ HO
 have q1:=HQu1.out.cell 0
 have qz1:=HQu1.out.free
 have HNW1:=LH (fun ad ha=>bytes_flat HP1.out ad ha)
 have HNN1:=LH (fun ha=>bytes_none HP1.out ha)
 go_wp2_with (at_builtin;refine wpList_append_own_any u1 rfl _ _ 132 rfl w0.heap.size 5 i0 _ 1 1 Tryz.underlying132 hi hz0 hz1 hz2 rfl (by decide) _ n _ rfl HOu1.out b1 m1 d1 (byteVs ([x])) rfl (by rw [byteVs_len,HM1.out,Nat.mul_one]) HNN1.out HNW1.out (byteVs_one _) (by have:=HL1.out;unfold maxLen;omega) (by have:=HL1.out;omega) HBu1.out.size ?_)
 intro v1 x1 hown hgrow
 obtain ⟨a1,c1,rfl⟩:=row_shape hown
 have HO1':Hid (x1.ownsRow w0.heap.size 5 1 (.slice a1 (n+m1) c1) (n+m1) (byteVs ((bs)++([x])))):=by
  unfold byteVs at hown ⊢
  rw [List.map_append]
  exact LH hown
 have HQ1':=LH (HQu1.out.grown hgrow (row_blk HOu1.out HQu1.out (by decide)))
 have HB1':Hid (Below w0.heap.size w0 x1):=LH (HBu1.out.grown hgrow HBu1.out.size (fun j hj=>(HOu1.out.lt j hj).1))
 have HJ1':=LH (HJu1.out.grown hgrow (row_blk HOu1.out HJu1.out (by decide)))
 clear hown hgrow q1 qz1
 have q1:=HQ1'.out.cell 0
 have qz1:=HQ1'.out.free
 go_wp2_with fail
 rw [rounds_succ]
 obtain ⟨np,hnp⟩:∃ np,np=n+m1:=⟨_,rfl⟩
 have HBp:Hid (Below w0.heap.size w0 (x1.setCell ⟨g,0,none⟩ (.slice a1 (n+m1) c1))):=LH (HB1'.out.setCell hg _)
 have HQp:Hid (Blk (x1.setCell ⟨g,0,none⟩ (.slice a1 (n+m1) c1)) g 132 [.slice a1 (n+m1) c1]):=LH (HQ1'.out.set_ 0 _)
 have HOp:Hid ((x1.setCell ⟨g,0,none⟩ (.slice a1 (n+m1) c1)).ownsRow w0.heap.size 5 1 (.slice a1 (n+m1) c1) (n+m1) (byteVs (bs++[x]))):=LH (row_far (g:=g) HO1'.out (fun k hk=>heap_set x1 g 0 (.slice a1 (n+m1) c1) k hk) (row_blk HO1'.out HQ1'.out (by decide)))
 have HJp:Hid (Blk (x1.setCell ⟨g,0,none⟩ (.slice a1 (n+m1) c1)) j 3 [.int .i64 x,.int .i64 y]):=LH (HJ1'.out.far hjg _)
 have HNp:Hid (np≤500):=LH (by have:=HN.out;have:=HM1.out;simp at *;omega)
 have HNPL:Hid (np=(bs++[x]).length):=LH (by rw [hnp,HM1.out,HNL.out,List.length_append])
 clear q1 qz1 HJ1' HO1' HQ1' HB1'
 generalize (x1.setCell ⟨g,0,none⟩ (.slice a1 (n+m1) c1))=wp at HBp HQp HOp HJp ⊢
 rw [← hnp] at HQp HOp
 clear hnp
 have qp:=HQp.out.cell 0
 have qzp:=HQp.out.free
 have jp0:=HJp.out.cell 0
 have jp1:=HJp.out.cell 1
 have glp:=HQp.out.lt
 have jlp:=HJp.out.lt
 obtain ⟨ap,hap⟩:∃ ap,ap=a1:=⟨_,rfl⟩
 obtain ⟨cp,hcp⟩:∃ cp,cp=c1:=⟨_,rfl⟩
 rw [← hap,← hcp] at HQp HOp qp
 clear hap hcp
 go_wp2_with fail
 refine (numPut_any HX.out.2.1 HX.out.2.2).mono ?_
 rintro e u2 ⟨b2,m2,d2,rfl,hm,ho,hb⟩
 have HP2:Hid (OwnB u2 wp.heap.size (.slice b2 m2 d2) ([y])):=LH ho
 have HM2:Hid (m2=([y]).length):=LH hm
 have HBu2:Hid (Below w0.heap.size w0 u2):=LH (Below.step HBp.out hb HBp.out.size)
 have HQu2:=LH (HQp.out.step hb)
 have HOu2:Hid (u2.ownsRow w0.heap.size 5 1 (.slice ap np cp) np (byteVs (bs++[x]))):=LH (ownsRow_keep HOp.out hb)
 have HL2:Hid (np+m2≤1000):=LH (by have:=HNp.out;have:=HM2.out;simp at *;omega)
 clear hm ho hb qp qzp HQp HOp
 have q2:=HQu2.out.cell 0
 have qz2:=HQu2.out.free
 have HNW2:=LH (fun ad ha=>bytes_flat HP2.out ad ha)
 have HNN2:=LH (fun ha=>bytes_none HP2.out ha)
 go_wp2_with (at_builtin;refine wpList_append_own_any u2 rfl _ _ 132 rfl w0.heap.size 5 i0 _ 1 1 Tryz.underlying132 hi hz0 hz1 hz2 rfl (by decide) _ np _ rfl HOu2.out b2 m2 d2 (byteVs ([y])) rfl (by rw [byteVs_len,HM2.out,Nat.mul_one]) HNN2.out HNW2.out (byteVs_one _) (by have:=HL2.out;unfold maxLen;omega) (by have:=HL2.out;omega) HBu2.out.size ?_)
 intro v2 x2 hown hgrow
 obtain ⟨a2,c2,rfl⟩:=row_shape hown
 have HO2':Hid (x2.ownsRow w0.heap.size 5 1 (.slice a2 (np+m2) c2) (np+m2) (byteVs ((bs++[x])++([y])))):=by
  unfold byteVs at hown ⊢
  rw [List.map_append]
  exact LH hown
 have HQ2':=LH (HQu2.out.grown hgrow (row_blk HOu2.out HQu2.out (by decide)))
 have HB2':Hid (Below w0.heap.size w0 x2):=LH (HBu2.out.grown hgrow HBu2.out.size (fun j hj=>(HOu2.out.lt j hj).1))
 clear hown hgrow q2 qz2
 have q2:=HQ2'.out.cell 0
 have qz2:=HQ2'.out.free
 go_wp2_with fail
 rw [rounds_succ]
 go_wp2_with fail
 rw [show bs++[x,y]=bs++[x]++[y] by simp]
 refine bodyPost_end (v:=.tuple #[]) (by simp [results,Tryz.results119,go_sem]) rfl ⟨rfl,⟨a2,np+m2,c2,?_,HQ2'.out.set_ 0 _,?_⟩,HB2'.out.setCell hg _⟩
 ·rw [List.length_append,← HNPL.out,HM2.out]
 ·have h:=row_far (g:=g) HO2'.out (fun k hk=>heap_set x2 g 0 (.slice a2 (np+m2) c2) k hk) (row_blk HO2'.out HQ2'.out (by decide))
  unfold OwnB
  rw [List.length_append,← HNPL.out,← HM2.out]
  exact h
def SkW (s:Sk):Prop:=s.waits.length≤200∧∀ x∈s.waits,x.msg.groups.length≤4
theorem delS_w:∀ (f:Nat) (s:Sk) (out:List PM),SkW s→SkW (delS f s out).1
 |0,s,out,h=>by rw [delS];exact h
 |f+1,s,out,h=>by
  rw [delS]
  split
  ·exact h
  ·next x l he =>
   split
   ·refine delS_w f _ _ ⟨?_,fun y hy=>h.2 y (delW_mem hy)⟩
    exact Nat.le_trans (delW_sub _ _).length_le h.1
   ·exact h
theorem assignS_w {g:Int} {m:PM} {s:Sk} (h:SkW s) (hm:m.groups.length≤4):SkW (assignS g m s).2:=by
 unfold assignS
 split
 ·exact h
 ·split
  ·exact h
  ·next hf =>
   have hf2:s.waits.length≠200:=fun e=>hf (Or.inr e)
   have h1:=h.1
   refine ⟨?_,fun x hx=>?_⟩
   ·show (insW s.waits (posW s.waits m.id) _).length≤200
    rw [insW_len (posW_le _ _)]
    omega
   ·have hx':x∈s.waits.take (posW s.waits m.id)++_ :: s.waits.drop (posW s.waits m.id):=hx
    rcases List.mem_append.1 hx' with hx|hx
    ·exact h.2 x (List.mem_of_mem_take hx)
    ·rcases List.mem_cons.1 hx with rfl|hx
     ·exact hm
     ·exact h.2 x (List.mem_of_mem_drop hx)
theorem finalS_w {id time:Int} {s:Sk} (h:SkW s):SkW (finalS id time s):=by
 unfold finalS
 split
 ·exact h
 ·next hf =>
  refine ⟨by simpa using h.1,fun x hx=>?_⟩
  rcases List.mem_or_eq_of_mem_set hx with hx|rfl
  ·exact h.2 x hx
  ·have hh:hasW s.waits id=true:=by
    by_cases e:hasW s.waits id=true
    ·exact e
    ·exact absurd (Or.inl (by simpa using e)) hf
   by_cases hp:posW s.waits id < s.waits.length
   ·have:s.waits.getD (posW s.waits id) default=s.waits[posW s.waits id]:=by simp [List.getD,hp]
    simp only [this]
    exact h.2 _ (List.getElem_mem hp)
   ·have:s.waits.getD (posW s.waits id) default=default:=by
     rw [List.getD,List.getElem?_eq_none (by omega)];rfl
    simp only [this]
    exact Nat.zero_le _
theorem apS_w {g:Int} {c:PC} {s:Sk} (h:SkW s):SkW (apS g c s).2.1:=by
 have hz:SkW skZ:=⟨Nat.zero_le _,fun x hx=>by cases hx⟩
 unfold apS
 split
 ·exact hz
 ·split
  ·exact hz
  ·split
   ·exact hz
   ·next hc =>
    split
    ·exact hz
    ·unfold endK
     split
     ·exact hz
     ·refine delS_w _ _ _ ?_
      unfold stepS
      split
      ·next hk=>exact assignS_w h (msgB_groups (okCom_assign (by simpa using hc) hk))
      ·split
       ·exact finalS_w h
       ·exact h
structure OkH (s:Gs):Prop extends OkG s where
 w:SkW s.sk
theorem stepQ_okH {g:Int} {c:PC} {s:Gs} (h:OkH s):OkH (stepQ g c s).1:=by
 refine ⟨stepQ_ok h.toOkG,?_⟩
 unfold stepQ
 split
 ·exact h.w
 ·split
  ·exact h.w
  ·exact apS_w h.w
theorem OkH.fewK {s:Gs} (h:OkH s):fewK s.sk:=⟨by have:=h.w.1;omega,by have:=h.done;omega,fun x hx=>by have:=h.w.2 x hx;omega⟩
theorem few_str {m:Mdl} (h:mayM m):fewS (streamM m):=by
 have hm:=mayM_str h
 refine ⟨?_,?_,?_⟩
 ·have:=h.1.1
  simp only [streamM,List.length_map]
  omega
 ·intro t ht
  obtain ⟨p,hp,rfl⟩:=List.mem_map.1 ht
  have:=(h.1.2 p hp).2
  show (entP p).length≤_
  omega
 ·exact okC_few h.2.1
theorem runQ_okH {g:Int}:∀ (l:List PC) (s:Gs) (o:List Tk),OkH s→OkH (runQ g l s o).1
 |[],_,_,h=>h
 |_ :: l,_,_,h=>runQ_okH l _ _ (stepQ_okH h)
theorem newM_may:mayM newM:=by
 refine ⟨⟨rfl,fun p hp=>?_⟩,okC_new,fun i hi k hk=>?_⟩
 ·obtain rfl:p=default:=List.eq_of_mem_replicate hp
  exact ⟨⟨fun i hi=>absurd hi (Nat.not_lt_zero _),Nat.zero_le _,⟨Int.le_refl _,Int.le_refl _⟩,Int.le_refl _,Int.le_refl _⟩,Nat.zero_le _⟩
 ·have:∀ i:Fin 4,∀ k:Fin 8,((newC.getD i.1 []).getD k.1 0)≤0:=by decide
  refine Int.le_trans (this ⟨i,hi⟩ ⟨k,hk⟩) ?_
  omega
def gs0:Gs:=⟨skZ,newM,[0,0,0,0,0,0]⟩
theorem gs0_ok:OkH gs0:=by
 refine ⟨⟨?_,?_,Nat.zero_le _,rfl,?_⟩,Nat.zero_le _,fun x hx=>by cases hx⟩
 ·exact newM_may
 ·intro i h0 h1
  have:i=0∨i=1∨i=2∨i=3:=by omega
  rcases this with rfl|rfl|rfl|rfl <;> exact Nat.le_refl _
 ·intro x hx
  simp [gs0] at hx
  omega
end Go.Proofs.YtdfmcgekfogpbabGreatDoor
