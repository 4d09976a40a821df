/-
  Proved here: command's reader: one kind of commands. No condition but the kind. command's reader: one kind of commands. No condition but the kind. skeen.Same: it compares. No condition but that the clocks read.
-/
import Derived.Test.YtkkohllhebdlcaaGreatDoorY13
import Derived.Test.YtkkohllhebdlcaaGreatDoorY16
set_option maxRecDepth 100000
namespace Go.Proofs.YtkkohllhebdlcaaGreatDoor
open Go.RowKit
set_option maxHeartbeats 8000000 in
set_option maxRecDepth 100000 in
theorem rd_k6 {w0 w:World} {g:Nat} {l:List Int} {o:Bool} {k:Int} (h:RdS w0 w g l o) (hk:k=min (nN l) 255) (hkk:k=6) {c:PC} {l':List Int} {o':Bool} (hr:rd56 6 (nL l) (nO l o)=(c,l',o')) :
  Calls Tryz.prog 62 #[.pointer (some ⟨g,0,none⟩)] w (RdCEnd w0 g c l' o' w):=by
 obtain ⟨n0,hn0⟩:∃ n,n=nN l:=⟨_,rfl⟩
 obtain ⟨l0,hl0⟩:∃ x,x=nL l:=⟨_,rfl⟩
 obtain ⟨o0,ho0⟩:∃ x,x=nO l o:=⟨_,rfl⟩
 have hpos:=nN_pos l
 rw [← hn0] at hk hpos
 rw [← hl0,← ho0] at hr
 have gl:g < w.heap.size:=by obtain ⟨_,_,hb,_⟩:=h;exact hb.lt
 have HR:=LH hr
 have RD:=LH h
 have HN0:=LH hn0
 have HL0:=LH hl0
 have HO0:=LH ho0
 clear h hr hn0 hl0 ho0
 obtain rfl:n0=6:=by omega
 clear hpos
 go_enter Tryz.func62,Tryz.ntmps62
 go_wp2_with fail
 refine Calls.mono (numbers_any (RD.out.keep (below_alloc (Below.refl _ _))) HN0.out HL0.out HO0.out) ?_
 rintro e w1 ⟨rfl,hrd,hf⟩
 have HZ:Hid (Blk w1 w.heap.size 58 [.int .u8 0,.int .i64 0,.slice none 0 0,.int .i64 0,.string ⟨#[]⟩,.string ⟨#[]⟩,.int .i64 0,.int .i64 0,.slice none 0 0,.int .i64 0,.int .i64 0,.int .i64 0]):=LH ((Blk.new rfl).frG hf (by omega))
 have FR:=LH (FrG.down (below_alloc (Below.refl _ _)) hf (Nat.le_of_lt gl))
 have RD:=LH hrd
 have s1:w.heap.size < w1.heap.size:=HZ.out.lt
 clear hrd hf
 go_wp2_with fail
 have HC:Hid (Blk (w1.alloc (.cells #[.int .u8 6,.int .i64 0,.slice none 0 0,.int .i64 0,.string ⟨#[]⟩,.string ⟨#[]⟩,.int .i64 0,.int .i64 0,.slice none 0 0,.int .i64 0,.int .i64 0,.int .i64 0] 58)) w1.heap.size 58 [.int .u8 6,.int .i64 0,.slice none 0 0,.int .i64 0,.string ⟨#[]⟩,.string ⟨#[]⟩,.int .i64 0,.int .i64 0,.slice none 0 0,.int .i64 0,.int .i64 0,.int .i64 0]):=LH (Blk.new rfl)
 replace HZ:Hid (Blk (w1.alloc (.cells #[.int .u8 6,.int .i64 0,.slice none 0 0,.int .i64 0,.string ⟨#[]⟩,.string ⟨#[]⟩,.int .i64 0,.int .i64 0,.slice none 0 0,.int .i64 0,.int .i64 0,.int .i64 0] 58)) w.heap.size 58 [.int .u8 0,.int .i64 0,.slice none 0 0,.int .i64 0,.string ⟨#[]⟩,.string ⟨#[]⟩,.int .i64 0,.int .i64 0,.slice none 0 0,.int .i64 0,.int .i64 0,.int .i64 0]):=LH (Blk.alloc HZ.out _)
 replace RD:Hid (RdS w0 (w1.alloc (.cells #[.int .u8 6,.int .i64 0,.slice none 0 0,.int .i64 0,.string ⟨#[]⟩,.string ⟨#[]⟩,.int .i64 0,.int .i64 0,.slice none 0 0,.int .i64 0,.int .i64 0,.int .i64 0] 58)) g l0 o0):=LH (RD.out.keep (below_alloc (Below.refl _ _)))
 replace FR:Hid (FrG g w (w1.alloc (.cells #[.int .u8 6,.int .i64 0,.slice none 0 0,.int .i64 0,.string ⟨#[]⟩,.string ⟨#[]⟩,.int .i64 0,.int .i64 0,.slice none 0 0,.int .i64 0,.int .i64 0,.int .i64 0] 58))):=LH (FR.out.up (below_alloc (Below.refl _ _)) (Nat.le_of_lt gl))
 try rw [show min (6:Int) 255=6 from rfl]
 generalize hW:w1.alloc (.cells #[.int .u8 6,.int .i64 0,.slice none 0 0,.int .i64 0,.string ⟨#[]⟩,.string ⟨#[]⟩,.int .i64 0,.int .i64 0,.slice none 0 0,.int .i64 0,.int .i64 0,.int .i64 0] 58)=W0 at HC HZ RD FR ⊢
 have sc:=HC.out.lt
 clear hW
 obtain ⟨⟨⟨c0,c1,c2,c3⟩,⟨c4,c5,c6,c7⟩,c8,c9,c10,c11⟩,cz⟩:=cells12 HC.out
 obtain ⟨n1,hn1⟩:∃ n,n=nN l0:=⟨_,rfl⟩
 obtain ⟨l1,hl1⟩:∃ x,x=nL l0:=⟨_,rfl⟩
 obtain ⟨o1,ho1⟩:∃ x,x=nO l0 o0:=⟨_,rfl⟩
 have HN1:=LH hn1
 have HL1:=LH hl1
 have HO1:=LH ho1
 clear hn1 hl1 ho1
 go_wp2_with fail
 refine Calls.mono (numbers_any RD.out HN1.out HL1.out HO1.out) ?_
 rintro e v1_ ⟨rfl,hrd,hf⟩
 replace HC:=LH (HC.out.frG hf (by omega))
 replace HZ:=LH (HZ.out.frG hf (by omega))
 replace FR:=LH (FR.out.trans hf)
 replace RD:=LH hrd
 have z1:W0.heap.size≤v1_.heap.size:=hf.1.size
 clear hrd hf c0 c1 c2 c3 c4 c5 c6 c7 c8 c9 c10 c11 cz
 obtain ⟨⟨⟨c0,c1,c2,c3⟩,⟨c4,c5,c6,c7⟩,c8,c9,c10,c11⟩,cz⟩:=cells12 HC.out
 have sc1:=HC.out.lt
 have HC1:Hid (Blk (v1_.setCell ⟨w1.heap.size,6,none⟩ (.int .i64 n1)) w1.heap.size 58 [.int .u8 6,.int .i64 0,.slice none 0 0,.int .i64 0,.string ⟨#[]⟩,.string ⟨#[]⟩,.int .i64 n1,.int .i64 0,.slice none 0 0,.int .i64 0,.int .i64 0,.int .i64 0]):=LH (HC.out.set_ 6 (.int .i64 n1))
 have HZ1:Hid (Blk (v1_.setCell ⟨w1.heap.size,6,none⟩ (.int .i64 n1)) w.heap.size 58 [.int .u8 0,.int .i64 0,.slice none 0 0,.int .i64 0,.string ⟨#[]⟩,.string ⟨#[]⟩,.int .i64 0,.int .i64 0,.slice none 0 0,.int .i64 0,.int .i64 0,.int .i64 0]):=LH (HZ.out.far (b:=w1.heap.size) (o:=6) (by omega) (.int .i64 n1))
 have RD1:Hid (RdS w0 (v1_.setCell ⟨w1.heap.size,6,none⟩ (.int .i64 n1)) g l1 o1):=LH (RD.out.far (by omega))
 have FR1:Hid (FrG g w (v1_.setCell ⟨w1.heap.size,6,none⟩ (.int .i64 n1))):=LH (FR.out.set_ (Nat.le_of_lt gl) (by omega))
 have zs1:(v1_.setCell ⟨w1.heap.size,6,none⟩ (.int .i64 n1)).heap.size=v1_.heap.size:=by simp
 clear HC HZ RD FR
 have HC:=HC1
 have HZ:=HZ1
 have RD:=RD1
 have FR:=FR1
 clear HC1 HZ1 RD1 FR1
 go_upto_region 19 with fail
 generalize hW:(v1_.setCell ⟨w1.heap.size,6,none⟩ (.int .i64 n1))=W1 at HC HZ RD FR zs1 ⊢
 clear hW c0 c1 c2 c3 c4 c5 c6 c7 c8 c9 c10 c11 cz
 obtain ⟨⟨⟨c0,c1,c2,c3⟩,⟨c4,c5,c6,c7⟩,c8,c9,c10,c11⟩,cz⟩:=cells12 HC.out
 have sd1:=HC.out.lt
 obtain ⟨n2,hn2⟩:∃ n,n=nN l1:=⟨_,rfl⟩
 obtain ⟨l2,hl2⟩:∃ x,x=nL l1:=⟨_,rfl⟩
 obtain ⟨o2,ho2⟩:∃ x,x=nO l1 o1:=⟨_,rfl⟩
 have HN2:=LH hn2
 have HL2:=LH hl2
 have HO2:=LH ho2
 clear hn2 hl2 ho2
 go_wp2_with fail
 refine Calls.mono (numbers_any RD.out HN2.out HL2.out HO2.out) ?_
 rintro e v2_ ⟨rfl,hrd,hf⟩
 replace HC:=LH (HC.out.frG hf (by omega))
 replace HZ:=LH (HZ.out.frG hf (by omega))
 replace FR:=LH (FR.out.trans hf)
 replace RD:=LH hrd
 have z2:W1.heap.size≤v2_.heap.size:=hf.1.size
 clear hrd hf c0 c1 c2 c3 c4 c5 c6 c7 c8 c9 c10 c11 cz
 obtain ⟨⟨⟨c0,c1,c2,c3⟩,⟨c4,c5,c6,c7⟩,c8,c9,c10,c11⟩,cz⟩:=cells12 HC.out
 have sc2:=HC.out.lt
 have HC2:Hid (Blk (v2_.setCell ⟨w1.heap.size,9,none⟩ (.int .i64 n2)) w1.heap.size 58 [.int .u8 6,.int .i64 0,.slice none 0 0,.int .i64 0,.string ⟨#[]⟩,.string ⟨#[]⟩,.int .i64 n1,.int .i64 0,.slice none 0 0,.int .i64 n2,.int .i64 0,.int .i64 0]):=LH (HC.out.set_ 9 (.int .i64 n2))
 have HZ2:Hid (Blk (v2_.setCell ⟨w1.heap.size,9,none⟩ (.int .i64 n2)) w.heap.size 58 [.int .u8 0,.int .i64 0,.slice none 0 0,.int .i64 0,.string ⟨#[]⟩,.string ⟨#[]⟩,.int .i64 0,.int .i64 0,.slice none 0 0,.int .i64 0,.int .i64 0,.int .i64 0]):=LH (HZ.out.far (b:=w1.heap.size) (o:=9) (by omega) (.int .i64 n2))
 have RD2:Hid (RdS w0 (v2_.setCell ⟨w1.heap.size,9,none⟩ (.int .i64 n2)) g l2 o2):=LH (RD.out.far (by omega))
 have FR2:Hid (FrG g w (v2_.setCell ⟨w1.heap.size,9,none⟩ (.int .i64 n2))):=LH (FR.out.set_ (Nat.le_of_lt gl) (by omega))
 have zs2:(v2_.setCell ⟨w1.heap.size,9,none⟩ (.int .i64 n2)).heap.size=v2_.heap.size:=by simp
 clear HC HZ RD FR
 have HC:=HC2
 have HZ:=HZ2
 have RD:=RD2
 have FR:=FR2
 clear HC2 HZ2 RD2 FR2
 go_upto_region 20 with fail
 generalize hW:(v2_.setCell ⟨w1.heap.size,9,none⟩ (.int .i64 n2))=W2 at HC HZ RD FR zs2 ⊢
 clear hW c0 c1 c2 c3 c4 c5 c6 c7 c8 c9 c10 c11 cz
 obtain ⟨⟨⟨c0,c1,c2,c3⟩,⟨c4,c5,c6,c7⟩,c8,c9,c10,c11⟩,cz⟩:=cells12 HC.out
 have sd2:=HC.out.lt
 obtain ⟨n3,hn3⟩:∃ n,n=nN l2:=⟨_,rfl⟩
 obtain ⟨l3,hl3⟩:∃ x,x=nL l2:=⟨_,rfl⟩
 obtain ⟨o3,ho3⟩:∃ x,x=nO l2 o2:=⟨_,rfl⟩
 have HN3:=LH hn3
 have HL3:=LH hl3
 have HO3:=LH ho3
 clear hn3 hl3 ho3
 go_wp2_with fail
 refine Calls.mono (numbers_any RD.out HN3.out HL3.out HO3.out) ?_
 rintro e v3_ ⟨rfl,hrd,hf⟩
 replace HC:=LH (HC.out.frG hf (by omega))
 replace HZ:=LH (HZ.out.frG hf (by omega))
 replace FR:=LH (FR.out.trans hf)
 replace RD:=LH hrd
 have z3:W2.heap.size≤v3_.heap.size:=hf.1.size
 clear hrd hf c0 c1 c2 c3 c4 c5 c6 c7 c8 c9 c10 c11 cz
 obtain ⟨⟨⟨c0,c1,c2,c3⟩,⟨c4,c5,c6,c7⟩,c8,c9,c10,c11⟩,cz⟩:=cells12 HC.out
 have sc3:=HC.out.lt
 have HC3:Hid (Blk (v3_.setCell ⟨w1.heap.size,11,none⟩ (.int .i64 n3)) w1.heap.size 58 [.int .u8 6,.int .i64 0,.slice none 0 0,.int .i64 0,.string ⟨#[]⟩,.string ⟨#[]⟩,.int .i64 n1,.int .i64 0,.slice none 0 0,.int .i64 n2,.int .i64 0,.int .i64 n3]):=LH (HC.out.set_ 11 (.int .i64 n3))
 have HZ3:Hid (Blk (v3_.setCell ⟨w1.heap.size,11,none⟩ (.int .i64 n3)) w.heap.size 58 [.int .u8 0,.int .i64 0,.slice none 0 0,.int .i64 0,.string ⟨#[]⟩,.string ⟨#[]⟩,.int .i64 0,.int .i64 0,.slice none 0 0,.int .i64 0,.int .i64 0,.int .i64 0]):=LH (HZ.out.far (b:=w1.heap.size) (o:=11) (by omega) (.int .i64 n3))
 have RD3:Hid (RdS w0 (v3_.setCell ⟨w1.heap.size,11,none⟩ (.int .i64 n3)) g l3 o3):=LH (RD.out.far (by omega))
 have FR3:Hid (FrG g w (v3_.setCell ⟨w1.heap.size,11,none⟩ (.int .i64 n3))):=LH (FR.out.set_ (Nat.le_of_lt gl) (by omega))
 have zs3:(v3_.setCell ⟨w1.heap.size,11,none⟩ (.int .i64 n3)).heap.size=v3_.heap.size:=by simp
 clear HC HZ RD FR
 have HC:=HC3
 have HZ:=HZ3
 have RD:=RD3
 have FR:=FR3
 clear HC3 HZ3 RD3 FR3
 go_upto_region 23 with fail
 generalize hW:(v3_.setCell ⟨w1.heap.size,11,none⟩ (.int .i64 n3))=W3 at HC HZ RD FR zs3 ⊢
 clear hW c0 c1 c2 c3 c4 c5 c6 c7 c8 c9 c10 c11 cz
 obtain ⟨⟨⟨c0,c1,c2,c3⟩,⟨c4,c5,c6,c7⟩,c8,c9,c10,c11⟩,cz⟩:=cells12 HC.out
 have sd3:=HC.out.lt
 have hfin:=HR.out
 rw [show rd56 6 l0 o0=(⟨6,default,n1,0,[],n2,0,n3⟩,l3,o3) by rw [HO3.out,HL3.out,HN3.out,HO2.out,HL2.out,HN2.out,HO1.out,HL1.out,HN1.out];rfl] at hfin
 cases hfin
 obtain ⟨⟨⟨e0,e1,e2,e3⟩,⟨e4,e5,e6,e7⟩,e8,e9,e10,e11⟩,ez⟩:=cells12 HZ.out
 have el:=HZ.out.lt
 go_wp2_with fail
 obtain ⟨⟨⟨t0,t1_,t2,t3⟩,⟨t4,t5,t6,t7⟩,t8,t9,t10,t11⟩,-⟩:=cells12 (blk_put12 HZ.out (.int .u8 6) (.int .i64 0) (.slice none 0 0) (.int .i64 0) (.string ⟨#[]⟩) (.string ⟨#[]⟩) (.int .i64 n1) (.int .i64 0) (.slice none 0 0) (.int .i64 n2) (.int .i64 0) (.int .i64 n3))
 exact bodyPost_ret (v:=.agg #[.int .u8 6,.int .i64 0,.slice none 0 0,.int .i64 0,.string ⟨#[]⟩,.string ⟨#[]⟩,.int .i64 n1,.int .i64 0,.slice none 0 0,.int .i64 n2,.int .i64 0,.int .i64 n3]) (by simp [results,Tryz.results62,go_sem,t0,t1_,t2,t3,t4,t5,t6,t7,t8,t9,t10,t11]) rfl ⟨_,rfl,⟨none,0,none,0,rfl,ownI_nil _ _,ownI_nil _ _⟩,((((((((((((RD.out.far (b:=w.heap.size) (o:=0) (v:=.int .u8 6) gl).far (b:=w.heap.size) (o:=1) (v:=.int .i64 0) gl).far (b:=w.heap.size) (o:=2) (v:=.slice none 0 0) gl).far (b:=w.heap.size) (o:=3) (v:=.int .i64 0) gl).far (b:=w.heap.size) (o:=4) (v:=.string ⟨#[]⟩) gl).far (b:=w.heap.size) (o:=5) (v:=.string ⟨#[]⟩) gl).far (b:=w.heap.size) (o:=6) (v:=.int .i64 n1) gl).far (b:=w.heap.size) (o:=7) (v:=.int .i64 0) gl).far (b:=w.heap.size) (o:=8) (v:=.slice none 0 0) gl).far (b:=w.heap.size) (o:=9) (v:=.int .i64 n2) gl).far (b:=w.heap.size) (o:=10) (v:=.int .i64 0) gl).far (b:=w.heap.size) (o:=11) (v:=.int .i64 n3) gl),((((((((((((FR.out.set_ (b:=w.heap.size) (o:=0) (v:=.int .u8 6) (Nat.le_of_lt gl) (Nat.le_refl _)).set_ (b:=w.heap.size) (o:=1) (v:=.int .i64 0) (Nat.le_of_lt gl) (Nat.le_refl _)).set_ (b:=w.heap.size) (o:=2) (v:=.slice none 0 0) (Nat.le_of_lt gl) (Nat.le_refl _)).set_ (b:=w.heap.size) (o:=3) (v:=.int .i64 0) (Nat.le_of_lt gl) (Nat.le_refl _)).set_ (b:=w.heap.size) (o:=4) (v:=.string ⟨#[]⟩) (Nat.le_of_lt gl) (Nat.le_refl _)).set_ (b:=w.heap.size) (o:=5) (v:=.string ⟨#[]⟩) (Nat.le_of_lt gl) (Nat.le_refl _)).set_ (b:=w.heap.size) (o:=6) (v:=.int .i64 n1) (Nat.le_of_lt gl) (Nat.le_refl _)).set_ (b:=w.heap.size) (o:=7) (v:=.int .i64 0) (Nat.le_of_lt gl) (Nat.le_refl _)).set_ (b:=w.heap.size) (o:=8) (v:=.slice none 0 0) (Nat.le_of_lt gl) (Nat.le_refl _)).set_ (b:=w.heap.size) (o:=9) (v:=.int .i64 n2) (Nat.le_of_lt gl) (Nat.le_refl _)).set_ (b:=w.heap.size) (o:=10) (v:=.int .i64 0) (Nat.le_of_lt gl) (Nat.le_refl _)).set_ (b:=w.heap.size) (o:=11) (v:=.int .i64 n3) (Nat.le_of_lt gl) (Nat.le_refl _))⟩
end Go.Proofs.YtkkohllhebdlcaaGreatDoor
namespace Go.Proofs.YtkkohllhebdlcaaGreatDoor
open Go.RowKit
set_option maxHeartbeats 8000000 in
set_option maxRecDepth 100000 in
theorem rd_k9b {w0 w:World} {g:Nat} {l:List Int} {o:Bool} {k:Int} (h:RdS w0 w g l o) (hk:k=min (nN l) 255) (hkk:¬ 255 < nN l∧k≠1∧k≠2∧k≠3∧k≠4∧k≠5∧k≠6) {c:PC} {l':List Int} {o':Bool} (hr:((⟨k,default,0,0,[],0,0,0⟩:PC),nL l,nO l o)=(c,l',o')) :
  Calls Tryz.prog 62 #[.pointer (some ⟨g,0,none⟩)] w (RdCEnd w0 g c l' o' w):=by
 obtain ⟨n0,hn0⟩:∃ n,n=nN l:=⟨_,rfl⟩
 obtain ⟨l0,hl0⟩:∃ x,x=nL l:=⟨_,rfl⟩
 obtain ⟨o0,ho0⟩:∃ x,x=nO l o:=⟨_,rfl⟩
 have hpos:=nN_pos l
 rw [← hn0] at hk hpos
 rw [← hl0,← ho0] at hr
 have gl:g < w.heap.size:=by obtain ⟨_,_,hb,_⟩:=h;exact hb.lt
 have HR:=LH hr
 have RD:=LH h
 have HN0:=LH hn0
 have HL0:=LH hl0
 have HO0:=LH ho0
 clear h hr hn0 hl0 ho0
 rw [← HN0.out] at hkk
 obtain ⟨h0,h1,h2,h3,h4,h5,h6⟩:=hkk
 obtain rfl:k=n0:=by omega
 have h1_:(k == 1)=false:=by simp [h1]
 have h2_:(k == 2)=false:=by simp [h2]
 have h3_:(k == 3)=false:=by simp [h3]
 have h4_:(k == 4)=false:=by simp [h4]
 have h5_:(k == 5)=false:=by simp [h5]
 have h6_:(k == 6)=false:=by simp [h6]
 clear hk h1 h2 h3 h4 h5 h6
 go_enter Tryz.func62,Tryz.ntmps62
 go_wp2_with fail
 refine Calls.mono (numbers_any (RD.out.keep (below_alloc (Below.refl _ _))) HN0.out HL0.out HO0.out) ?_
 rintro e w1 ⟨rfl,hrd,hf⟩
 have HZ:Hid (Blk w1 w.heap.size 58 [.int .u8 0,.int .i64 0,.slice none 0 0,.int .i64 0,.string ⟨#[]⟩,.string ⟨#[]⟩,.int .i64 0,.int .i64 0,.slice none 0 0,.int .i64 0,.int .i64 0,.int .i64 0]):=LH ((Blk.new rfl).frG hf (by omega))
 have FR:=LH (FrG.down (below_alloc (Below.refl _ _)) hf (Nat.le_of_lt gl))
 have RD:=LH hrd
 have s1:w.heap.size < w1.heap.size:=HZ.out.lt
 clear hrd hf
 go_upto_region 3 with fail
 have HC:Hid (Blk (w1.alloc (.cells #[.int .u8 k,.int .i64 0,.slice none 0 0,.int .i64 0,.string ⟨#[]⟩,.string ⟨#[]⟩,.int .i64 0,.int .i64 0,.slice none 0 0,.int .i64 0,.int .i64 0,.int .i64 0] 58)) w1.heap.size 58 [.int .u8 k,.int .i64 0,.slice none 0 0,.int .i64 0,.string ⟨#[]⟩,.string ⟨#[]⟩,.int .i64 0,.int .i64 0,.slice none 0 0,.int .i64 0,.int .i64 0,.int .i64 0]):=LH (Blk.new rfl)
 replace HZ:Hid (Blk (w1.alloc (.cells #[.int .u8 k,.int .i64 0,.slice none 0 0,.int .i64 0,.string ⟨#[]⟩,.string ⟨#[]⟩,.int .i64 0,.int .i64 0,.slice none 0 0,.int .i64 0,.int .i64 0,.int .i64 0] 58)) w.heap.size 58 [.int .u8 0,.int .i64 0,.slice none 0 0,.int .i64 0,.string ⟨#[]⟩,.string ⟨#[]⟩,.int .i64 0,.int .i64 0,.slice none 0 0,.int .i64 0,.int .i64 0,.int .i64 0]):=LH (Blk.alloc HZ.out _)
 replace RD:Hid (RdS w0 (w1.alloc (.cells #[.int .u8 k,.int .i64 0,.slice none 0 0,.int .i64 0,.string ⟨#[]⟩,.string ⟨#[]⟩,.int .i64 0,.int .i64 0,.slice none 0 0,.int .i64 0,.int .i64 0,.int .i64 0] 58)) g l0 o0):=LH (RD.out.keep (below_alloc (Below.refl _ _)))
 replace FR:Hid (FrG g w (w1.alloc (.cells #[.int .u8 k,.int .i64 0,.slice none 0 0,.int .i64 0,.string ⟨#[]⟩,.string ⟨#[]⟩,.int .i64 0,.int .i64 0,.slice none 0 0,.int .i64 0,.int .i64 0,.int .i64 0] 58))):=LH (FR.out.up (below_alloc (Below.refl _ _)) (Nat.le_of_lt gl))
 try rw [show min k (255:Int)=k by omega]
 generalize hW:w1.alloc (.cells #[.int .u8 k,.int .i64 0,.slice none 0 0,.int .i64 0,.string ⟨#[]⟩,.string ⟨#[]⟩,.int .i64 0,.int .i64 0,.slice none 0 0,.int .i64 0,.int .i64 0,.int .i64 0] 58)=W0 at HC HZ RD FR ⊢
 have sc:=HC.out.lt
 clear hW
 obtain ⟨⟨⟨c0,c1,c2,c3⟩,⟨c4,c5,c6,c7⟩,c8,c9,c10,c11⟩,cz⟩:=cells12 HC.out
 have hfin:=HR.out
 skip
 cases hfin
 obtain ⟨⟨⟨e0,e1,e2,e3⟩,⟨e4,e5,e6,e7⟩,e8,e9,e10,e11⟩,ez⟩:=cells12 HZ.out
 have el:=HZ.out.lt
 go_wp2_with fail
 obtain ⟨⟨⟨t0,t1_,t2,t3⟩,⟨t4,t5,t6,t7⟩,t8,t9,t10,t11⟩,-⟩:=cells12 (blk_put12 HZ.out (.int .u8 k) (.int .i64 0) (.slice none 0 0) (.int .i64 0) (.string ⟨#[]⟩) (.string ⟨#[]⟩) (.int .i64 0) (.int .i64 0) (.slice none 0 0) (.int .i64 0) (.int .i64 0) (.int .i64 0))
 exact bodyPost_ret (v:=.agg #[.int .u8 k,.int .i64 0,.slice none 0 0,.int .i64 0,.string ⟨#[]⟩,.string ⟨#[]⟩,.int .i64 0,.int .i64 0,.slice none 0 0,.int .i64 0,.int .i64 0,.int .i64 0]) (by simp [results,Tryz.results62,go_sem,t0,t1_,t2,t3,t4,t5,t6,t7,t8,t9,t10,t11]) rfl ⟨_,rfl,⟨none,0,none,0,rfl,ownI_nil _ _,ownI_nil _ _⟩,((((((((((((RD.out.far (b:=w.heap.size) (o:=0) (v:=.int .u8 k) gl).far (b:=w.heap.size) (o:=1) (v:=.int .i64 0) gl).far (b:=w.heap.size) (o:=2) (v:=.slice none 0 0) gl).far (b:=w.heap.size) (o:=3) (v:=.int .i64 0) gl).far (b:=w.heap.size) (o:=4) (v:=.string ⟨#[]⟩) gl).far (b:=w.heap.size) (o:=5) (v:=.string ⟨#[]⟩) gl).far (b:=w.heap.size) (o:=6) (v:=.int .i64 0) gl).far (b:=w.heap.size) (o:=7) (v:=.int .i64 0) gl).far (b:=w.heap.size) (o:=8) (v:=.slice none 0 0) gl).far (b:=w.heap.size) (o:=9) (v:=.int .i64 0) gl).far (b:=w.heap.size) (o:=10) (v:=.int .i64 0) gl).far (b:=w.heap.size) (o:=11) (v:=.int .i64 0) gl),((((((((((((FR.out.set_ (b:=w.heap.size) (o:=0) (v:=.int .u8 k) (Nat.le_of_lt gl) (Nat.le_refl _)).set_ (b:=w.heap.size) (o:=1) (v:=.int .i64 0) (Nat.le_of_lt gl) (Nat.le_refl _)).set_ (b:=w.heap.size) (o:=2) (v:=.slice none 0 0) (Nat.le_of_lt gl) (Nat.le_refl _)).set_ (b:=w.heap.size) (o:=3) (v:=.int .i64 0) (Nat.le_of_lt gl) (Nat.le_refl _)).set_ (b:=w.heap.size) (o:=4) (v:=.string ⟨#[]⟩) (Nat.le_of_lt gl) (Nat.le_refl _)).set_ (b:=w.heap.size) (o:=5) (v:=.string ⟨#[]⟩) (Nat.le_of_lt gl) (Nat.le_refl _)).set_ (b:=w.heap.size) (o:=6) (v:=.int .i64 0) (Nat.le_of_lt gl) (Nat.le_refl _)).set_ (b:=w.heap.size) (o:=7) (v:=.int .i64 0) (Nat.le_of_lt gl) (Nat.le_refl _)).set_ (b:=w.heap.size) (o:=8) (v:=.slice none 0 0) (Nat.le_of_lt gl) (Nat.le_refl _)).set_ (b:=w.heap.size) (o:=9) (v:=.int .i64 0) (Nat.le_of_lt gl) (Nat.le_refl _)).set_ (b:=w.heap.size) (o:=10) (v:=.int .i64 0) (Nat.le_of_lt gl) (Nat.le_refl _)).set_ (b:=w.heap.size) (o:=11) (v:=.int .i64 0) (Nat.le_of_lt gl) (Nat.le_refl _))⟩
end Go.Proofs.YtkkohllhebdlcaaGreatDoor
namespace Go.Proofs.YtkkohllhebdlcaaGreatDoor
open Go.RowKit
set_option maxHeartbeats 4000000 in
set_option maxRecDepth 100000 in
theorem eqSt_any {v v':Value} {l l':List (Int × Int)} {w:World} {z:Bool} (h:SliceR w v 2 stCells l) (h':SliceR w v' 2 stCells l') (hz:z=true↔l=l') :
  Calls Tryz.prog 32 #[v,v'] w fun e w'=>e=.returned (.bool z)∧Below w.heap.size w w':=by
 have HZ:=LH hz
 obtain ⟨a,cap,rfl,hcap,hmx,_,hd⟩:=h
 obtain ⟨a',cap',rfl,hcap',hmx',_,hd'⟩:=h'
 have HD:=LH hd
 have HD':=LH hd'
 obtain ⟨n,hn⟩:∃ n,n=l.length:=⟨_,rfl⟩
 obtain ⟨n',hn'⟩:∃ n,n=l'.length:=⟨_,rfl⟩
 rw [← hn] at hcap ⊢
 rw [← hn'] at hcap' ⊢
 have HN:=LH hn
 have HN':=LH hn'
 unfold maxLen at hmx hmx'
 have nn0:(n:Int)≤9223372036854775807:=by omega
 clear hz hd hd' hn hn'
 by_cases hnn:n=n'
 ·subst hnn
  have nn:((n:Int) != (n:Int))=false:=by simp
  go_enter Tryz.func32,Tryz.ntmps32
  go_wp2_with fail
  go_loopg [5,13] n (fun g _ i wr=>∃ k:Nat,k≤n∧g=n - k∧i=.int .i64 (k:Int)∧Hid (∀ j,j < k→l.getD j default=l'.getD j default)∧Hid (Below w.heap.size w wr))
  case atStart=>exact ⟨0,Nat.zero_le _,rfl,rfl,(fun j hj=>absurd hj (Nat.not_lt_zero _)),Below.refl _ _⟩
  case round =>
   obtain ⟨k,hk,rfl,rfl,hall,HB⟩:=hrel
   by_cases hlt:k < n
   ·have hk0:(0:Int)≤(k:Int):=by omega
    have hk1:(k:Int) < (n:Int):=by omega
    have hkl:k < l.length:=by rw [← HN.out];exact hlt
    have hkl':k < l'.length:=by rw [← HN'.out];exact hlt
    obtain ⟨g,off,ha,hat⟩:=HD.out (by omega)
    subst ha
    obtain ⟨g',off',ha',hat'⟩:=HD'.out (by omega)
    subst ha'
    have c0:=keep HB.out (hat k hkl 0 (by omega))
    have c1:=keep HB.out (hat k hkl 1 (by omega))
    have d0:=keep HB.out (hat' k hkl' 0 (by omega))
    have d1:=keep HB.out (hat' k hkl' 1 (by omega))
    obtain ⟨t,ht⟩:∃ t,t=l[k]:=⟨_,rfl⟩
    obtain ⟨t',ht'⟩:∃ t,t=l'[k]:=⟨_,rfl⟩
    rw [← ht] at c0 c1
    rw [← ht'] at d0 d1
    have HT:=LH (show t=l.getD k default by simp [List.getD,hkl,ht])
    have HT':=LH (show t'=l'.getD k default by simp [List.getD,hkl',ht'])
    obtain ⟨x1,x2⟩:=t
    obtain ⟨y1,y2⟩:=t'
    simp only [← Nat.add_assoc,Nat.add_zero] at c0 c1 d0 d1
    clear hat hat' ht ht'
    by_cases h1:x1=y1
    ·by_cases h2:x2=y2
     ·subst h1 h2
      have e1:(x1 == x1)=true:=by simp
      have e2:(x2 == x2)=true:=by simp
      go_wp2_with fail
      go_region
      have HB2:=LH HB.out.drew
      go_wp2_with fail
      go_roundg (n - (k+1))
      case measure=>omega
      case rel =>
       refine ⟨k+1,by omega,rfl,by go_num,fun j hj=>?_,HB2⟩
       by_cases hjk:j < k
       ·exact hall.out j hjk
       ·obtain rfl:j=k:=by omega
        rw [← HT.out,← HT'.out]
     ·have e1:(x1 == y1)=true:=by simpa using h1
      have e2:(x2 == y2)=false:=by simpa using h2
      have HNE:=LH h2
      clear h1 h2
      go_wp2_with fail
      go_region
      have HB2:=LH HB.out.drew
      go_wp2_with fail
      go_ret
      have e:z=false:=by
       cases hzz:z with
       |false=>rfl
       |true =>
        have h0:=HT.out
        rw [HZ.out.1 hzz,← HT'.out] at h0
        cases h0
        exact absurd rfl HNE.out
      exact ⟨by rw [e];rfl,HB2.out⟩
    ·have e1:(x1 == y1)=false:=by simpa using h1
     have HNE:=LH h1
     clear h1
     go_wp2_with fail
     go_region
     have HB2:=LH HB.out.drew
     go_wp2_with fail
     go_ret
     have e:z=false:=by
      cases hzz:z with
      |false=>rfl
      |true =>
       have h0:=HT.out
       rw [HZ.out.1 hzz,← HT'.out] at h0
       cases h0
       exact absurd rfl HNE.out
     exact ⟨by rw [e];rfl,HB2.out⟩
   ·obtain rfl:k=n:=by omega
    have hlt':¬ (k:Int) < (k:Int):=by omega
    go_wp2_with fail
    go_ret
    have e:z=true:=HZ.out.2 (list_eq_of default (by rw [← HN.out,HN'.out]) (by rw [← HN.out];exact hall.out))
    exact ⟨by rw [e];rfl,HB.out⟩
 ·have hd:((n:Int) != (n':Int))=true:=by simp;omega
  have HNE:=LH hnn
  clear hnn
  go_enter Tryz.func32,Tryz.ntmps32
  go_wp2_with fail
  go_ret
  have e:z=false:=by
   cases hzz:z with
   |false=>rfl
   |true=>exact absurd (by rw [HN.out,HN'.out,HZ.out.1 hzz]) HNE.out
  exact ⟨by rw [e];rfl,Below.refl _ _⟩
open Classical in
set_option maxHeartbeats 4000000 in
set_option maxRecDepth 100000 in
theorem same1W_any {a a':Option Addr} {cap cap':Nat} {x y:Wt} {w:World} {z:Bool} (hx:IntsR w (.slice a x.msg.groups.length cap) x.msg.groups) (hy:IntsR w (.slice a' y.msg.groups.length cap') y.msg.groups) (hz:z=true↔x=y) :
  Calls Tryz.prog 34 #[wtVal (.slice a x.msg.groups.length cap) x,wtVal (.slice a' y.msg.groups.length cap') y] w fun e w'=>e=.returned (.bool z)∧Below w.heap.size w w':=by
 obtain ⟨q,hq⟩:∃ q,q=decide (x.msg=y.msg):=⟨_,rfl⟩
 have KS:Hid (∀ W',Below w.heap.size w W'→Calls Tryz.prog 28 #[.agg #[.int .i64 x.msg.id,.slice a x.msg.groups.length cap,.int .i64 x.msg.topic,.string x.msg.key,.string x.msg.body],.agg #[.int .i64 y.msg.id,.slice a' y.msg.groups.length cap',.int .i64 y.msg.topic,.string y.msg.key,.string y.msg.body]] W' fun e w'=>e=.returned (.bool q)∧Below W'.heap.size W' w'):=fun W' hW=>sameMsg_any ⟨a,cap,rfl,hx.below hW⟩ ⟨a',cap',rfl,hy.below hW⟩ (by rw [hq];simp)
 obtain ⟨n,hn⟩:∃ n,n=x.msg.groups.length:=⟨_,rfl⟩
 obtain ⟨n',hn'⟩:∃ n,n=y.msg.groups.length:=⟨_,rfl⟩
 obtain ⟨⟨i1,g1,t1,k1,b1⟩,tm1,f1⟩:=x
 obtain ⟨⟨i2,g2,t2,k2,b2⟩,tm2,f2⟩:=y
 simp only at KS hn hn' hq
 simp only [Wt.mk.injEq] at hz
 unfold wtVal
 simp only
 rw [← hn] at KS ⊢
 rw [← hn'] at KS ⊢
 have HZ:=LH hz
 have HQ:=LH hq
 clear hx hy hn hn' hz hq
 cases q
 ·obtain rfl:z=false:=by
   cases hzz:z with
   |false=>rfl
   |true=>have:=HQ.out;rw [(HZ.out.1 hzz).1] at this;simp at this
  clear HZ HQ
  go_enter Tryz.func34,Tryz.ntmps34
  go_wp2_with fail
  refine (KS.out _ (by repeat (first|with_reducible (first|exact Below.refl _ _|apply Below.drew|apply below_alloc)|((first|with_reducible refine Below.alloc ?_ ?_ _|with_reducible refine Below.setCell ?_ ?_ _);rotate_left;focus (first|(simp <;> omega)|omega))))).mono ?_
  rintro e w1 ⟨rfl,hb⟩
  have HB:Hid (Below w.heap.size w w1):=below_step (by repeat (first|with_reducible (first|exact Below.refl _ _|apply Below.drew|apply below_alloc)|((first|with_reducible refine Below.alloc ?_ ?_ _|with_reducible refine Below.setCell ?_ ?_ _);rotate_left;focus (first|(simp <;> omega)|omega)))) hb
  clear hb
  go_wp2_with fail
  go_ret
  exact ⟨rfl,HB.out⟩
 ·have hqq:=of_decide_eq_true HQ.out.symm
  by_cases ht:tm1=tm2
  ·have et:(tm1 == tm2)=true:=by simpa using ht
   obtain ⟨r,hr⟩:∃ r,r=(f1 == f2):=⟨_,rfl⟩
   obtain rfl:z=r:=by
    rw [Bool.eq_iff_iff,HZ.out,hr]
    simp [hqq,ht]
   clear HZ HQ hqq ht
   go_enter Tryz.func34,Tryz.ntmps34
   go_wp2_with fail
   refine (KS.out _ (by repeat (first|with_reducible (first|exact Below.refl _ _|apply Below.drew|apply below_alloc)|((first|with_reducible refine Below.alloc ?_ ?_ _|with_reducible refine Below.setCell ?_ ?_ _);rotate_left;focus (first|(simp <;> omega)|omega))))).mono ?_
   rintro e w1 ⟨rfl,hb⟩
   have HB:Hid (Below w.heap.size w w1):=below_step (by repeat (first|with_reducible (first|exact Below.refl _ _|apply Below.drew|apply below_alloc)|((first|with_reducible refine Below.alloc ?_ ?_ _|with_reducible refine Below.setCell ?_ ?_ _);rotate_left;focus (first|(simp <;> omega)|omega)))) hb
   have P:Blk _ (w.heap.size) _ _:=Blk.step (by repeat (first|((with_reducible apply Blk.new);focus (first|rfl|(simp <;> omega)))|with_reducible (first|apply Blk.drew|apply Blk.alloc|apply Blk.set_)|((with_reducible apply Blk.far);rotate_left;focus (first|(simp <;> omega)|omega)))) hb
   have pl:=Blk.lt P
   have HP:=LH P
   clear P
   obtain ⟨⟨⟨p0,p1,p2,p3⟩,p4,p5,p6⟩,pz⟩:=cells7 HP.out
   have Q:Blk _ (w.heap.size+1) _ _:=Blk.step (by repeat (first|((with_reducible apply Blk.new);focus (first|rfl|(simp <;> omega)))|with_reducible (first|apply Blk.drew|apply Blk.alloc|apply Blk.set_)|((with_reducible apply Blk.far);rotate_left;focus (first|(simp <;> omega)|omega)))) hb
   have ql:=Blk.lt Q
   have HQ:=LH Q
   clear Q
   obtain ⟨⟨⟨q0,q1,q2,q3⟩,q4,q5,q6⟩,qz⟩:=cells7 HQ.out
   clear hb
   go_wp2_with fail
   go_ret
   exact ⟨by rw [hr];rfl,HB.out⟩
  ·have et:(tm1 == tm2)=false:=by simpa using ht
   obtain rfl:z=false:=by
    cases hzz:z with
    |false=>rfl
    |true=>exact absurd (HZ.out.1 hzz).2.1 ht
   clear HZ HQ hqq ht
   go_enter Tryz.func34,Tryz.ntmps34
   go_wp2_with fail
   refine (KS.out _ (by repeat (first|with_reducible (first|exact Below.refl _ _|apply Below.drew|apply below_alloc)|((first|with_reducible refine Below.alloc ?_ ?_ _|with_reducible refine Below.setCell ?_ ?_ _);rotate_left;focus (first|(simp <;> omega)|omega))))).mono ?_
   rintro e w1 ⟨rfl,hb⟩
   have HB:Hid (Below w.heap.size w w1):=below_step (by repeat (first|with_reducible (first|exact Below.refl _ _|apply Below.drew|apply below_alloc)|((first|with_reducible refine Below.alloc ?_ ?_ _|with_reducible refine Below.setCell ?_ ?_ _);rotate_left;focus (first|(simp <;> omega)|omega)))) hb
   have P:Blk _ (w.heap.size) _ _:=Blk.step (by repeat (first|((with_reducible apply Blk.new);focus (first|rfl|(simp <;> omega)))|with_reducible (first|apply Blk.drew|apply Blk.alloc|apply Blk.set_)|((with_reducible apply Blk.far);rotate_left;focus (first|(simp <;> omega)|omega)))) hb
   have pl:=Blk.lt P
   have HP:=LH P
   clear P
   obtain ⟨⟨⟨p0,p1,p2,p3⟩,p4,p5,p6⟩,pz⟩:=cells7 HP.out
   have Q:Blk _ (w.heap.size+1) _ _:=Blk.step (by repeat (first|((with_reducible apply Blk.new);focus (first|rfl|(simp <;> omega)))|with_reducible (first|apply Blk.drew|apply Blk.alloc|apply Blk.set_)|((with_reducible apply Blk.far);rotate_left;focus (first|(simp <;> omega)|omega)))) hb
   have ql:=Blk.lt Q
   have HQ:=LH Q
   clear Q
   obtain ⟨⟨⟨q0,q1,q2,q3⟩,q4,q5,q6⟩,qz⟩:=cells7 HQ.out
   clear hb
   go_wp2_with fail
   go_ret
   exact ⟨rfl,HB.out⟩
theorem map_eq_of {l l':List (Value × Wt)} (hl:l.length=l'.length) (h:∀ j (h1:j < l.length) (h2:j < l'.length),l[j].2=l'[j].2):l.map (·.2)=l'.map (·.2):=by
 apply List.ext_getElem (by simpa using hl)
 intro i h1 h2
 simp only [List.getElem_map]
 exact h i (by simpa using h1) (by simpa using h2)
open Classical in
set_option maxHeartbeats 8000000 in
set_option maxRecDepth 100000 in
theorem eqWt_any {v v':Value} {l l':List Wt} {w:World} {z:Bool} (h:WaitsR w v l) (h':WaitsR w v' l') (hz:z=true↔l=l') :
  Calls Tryz.prog 33 #[v,v',.func (.func 34) #[] #[]] w fun e w'=>e=.returned (.bool z)∧Below w.heap.size w w':=by
 have HZ:=LH hz
 obtain ⟨pl,rfl,⟨⟨a,cap,rfl,hcap,hmx,_,hd⟩,hsl⟩,hin⟩:=h
 obtain ⟨ql,rfl,⟨⟨a',cap',rfl,hcap',hmx',_,hd'⟩,hsl'⟩,hin'⟩:=h'
 have KL:Hid (∀ (p q:Value × Wt) (r:Bool) W,p∈pl→q∈ql→Below w.heap.size w W→r=decide (p.2=q.2)→Calls Tryz.prog 34 #[wtVal p.1 p.2,wtVal q.1 q.2] W fun e W'=>e=.returned (.bool r)∧Below W.heap.size W W'):=fun p q r W hp hq hW hr=>by
  obtain ⟨ga,gc,e1,-⟩:=(hin p hp).shape
  have h1:=(hin p hp).below hW
  obtain ⟨ga',gc',e2,-⟩:=(hin' q hq).shape
  have h2:=(hin' q hq).below hW
  rw [e1] at h1 ⊢
  rw [e2] at h2 ⊢
  exact same1W_any h1 h2 (by rw [hr];simp)
 have HS1:=LH hsl
 have HS2:=LH hsl'
 have HD:=LH hd
 have HD':=LH hd'
 obtain ⟨n,hn⟩:∃ n,n=pl.length:=⟨_,rfl⟩
 obtain ⟨n',hn'⟩:∃ n,n=ql.length:=⟨_,rfl⟩
 rw [← hn] at hcap ⊢
 rw [← hn'] at hcap' ⊢
 have HN:=LH hn
 have HN':=LH hn'
 unfold maxLen at hmx hmx'
 have nn0:(n:Int)≤9223372036854775807:=by omega
 clear hz hd hd' hn hn' hsl hsl' hin hin'
 by_cases hnn:n=n'
 ·subst hnn
  have nn:((n:Int) != (n:Int))=false:=by simp
  go_enter Tryz.func33,Tryz.ntmps33
  go_wp2_with fail
  go_loopg [7,8,9,17] n (fun g _ _ _ i wr=>∃ k:Nat,k≤n∧g=n - k∧i=.int .i64 (k:Int)∧Hid (∀ j (h1:j < pl.length) (h2:j < ql.length),j < k→pl[j].2=ql[j].2)∧Hid (Below w.heap.size w wr))
  case atStart=>exact ⟨0,Nat.zero_le _,rfl,rfl,(fun j _ _ hj=>absurd hj (Nat.not_lt_zero _)),Below.refl _ _⟩
  case round =>
   obtain ⟨k,hk,rfl,rfl,hall,HB⟩:=hrel
   by_cases hlt:k < n
   ·have hk0:(0:Int)≤(k:Int):=by omega
    have hk1:(k:Int) < (n:Int):=by omega
    have hkl:k < pl.length:=by rw [← HN.out];exact hlt
    have hkl':k < ql.length:=by rw [← HN'.out];exact hlt
    obtain ⟨g,off,ha,hat⟩:=HD.out (by omega)
    subst ha
    obtain ⟨g',off',ha',hat'⟩:=HD'.out (by omega)
    subst ha'
    have hc:=fun j (hj:j < 7)=>hat k hkl j hj
    have hd:=fun j (hj:j < 7)=>hat' k hkl' j hj
    have L:=fun r W (hW:Below w.heap.size w W)=>KL.out pl[k] ql[k] r W (List.getElem_mem hkl) (List.getElem_mem hkl') hW
    have s1:=HS1.out pl[k] (List.getElem_mem hkl)
    have s2:=HS2.out ql[k] (List.getElem_mem hkl')
    obtain ⟨t,ht⟩:∃ t,t=pl[k]:=⟨_,rfl⟩
    obtain ⟨t',ht'⟩:∃ t,t=ql[k]:=⟨_,rfl⟩
    rw [← ht] at hc L s1
    rw [← ht'] at hd L s2
    obtain ⟨q,hq⟩:∃ q,q=decide (t.2=t'.2):=⟨_,rfl⟩
    have HL:=LH (fun W hW=>L q W hW hq)
    have HQ:=LH (show q=decide (pl[k].2=ql[k].2) by rw [hq,ht,ht'])
    obtain ⟨u,⟨i1,g1,t1,k1,b1⟩,tm1,f1⟩:=t
    obtain ⟨u',⟨i2,g2,t2,k2,b2⟩,tm2,f2⟩:=t'
    obtain ⟨ua,un,uc,e1⟩:=s1
    obtain ⟨va,vn,vc,e2⟩:=s2
    simp only at e1 e2
    subst e1 e2
    have c0:wr.cell? ⟨g,off+(k * 7+0),none⟩=some (.int .i64 i1):=keep HB.out (hc 0 (by omega))
    have c1:wr.cell? ⟨g,off+(k * 7+1),none⟩=some (.slice ua un uc):=keep HB.out (hc 1 (by omega))
    have c2:wr.cell? ⟨g,off+(k * 7+2),none⟩=some (.int .i64 t1):=keep HB.out (hc 2 (by omega))
    have c3:wr.cell? ⟨g,off+(k * 7+3),none⟩=some (.string k1):=keep HB.out (hc 3 (by omega))
    have c4:wr.cell? ⟨g,off+(k * 7+4),none⟩=some (.string b1):=keep HB.out (hc 4 (by omega))
    have c5:wr.cell? ⟨g,off+(k * 7+5),none⟩=some (.int .i64 tm1):=keep HB.out (hc 5 (by omega))
    have c6:wr.cell? ⟨g,off+(k * 7+6),none⟩=some (.bool f1):=keep HB.out (hc 6 (by omega))
    have d0:wr.cell? ⟨g',off'+(k * 7+0),none⟩=some (.int .i64 i2):=keep HB.out (hd 0 (by omega))
    have d1:wr.cell? ⟨g',off'+(k * 7+1),none⟩=some (.slice va vn vc):=keep HB.out (hd 1 (by omega))
    have d2:wr.cell? ⟨g',off'+(k * 7+2),none⟩=some (.int .i64 t2):=keep HB.out (hd 2 (by omega))
    have d3:wr.cell? ⟨g',off'+(k * 7+3),none⟩=some (.string k2):=keep HB.out (hd 3 (by omega))
    have d4:wr.cell? ⟨g',off'+(k * 7+4),none⟩=some (.string b2):=keep HB.out (hd 4 (by omega))
    have d5:wr.cell? ⟨g',off'+(k * 7+5),none⟩=some (.int .i64 tm2):=keep HB.out (hd 5 (by omega))
    have d6:wr.cell? ⟨g',off'+(k * 7+6),none⟩=some (.bool f2):=keep HB.out (hd 6 (by omega))
    simp only [← Nat.add_assoc,Nat.add_zero] at c0 c1 c2 c3 c4 c5 c6 d0 d1 d2 d3 d4 d5 d6
    simp only [wtVal] at HL
    have hg1:g < wr.heap.size:=World.block_lt_of_cell? wr _ c0
    have hg2:g' < wr.heap.size:=World.block_lt_of_cell? wr _ d0
    clear hat hat' hc hd ht ht' hq L
    cases q
    all_goals
     go_wp2_with fail
     refine (HL.out _ (by repeat (first|with_reducible (first|exact HB.out|exact Below.refl _ _|apply Below.drew|apply below_alloc)|((first|with_reducible refine Below.alloc ?_ ?_ _|with_reducible refine Below.setCell ?_ ?_ _);rotate_left;focus (first|(simp <;> omega)|omega))))).mono ?_
     rintro e w4 ⟨rfl,hb⟩
     have HB4:Hid (Below w.heap.size w w4):=below_step (by repeat (first|with_reducible (first|exact HB.out|exact Below.refl _ _|apply Below.drew|apply below_alloc)|((first|with_reducible refine Below.alloc ?_ ?_ _|with_reducible refine Below.setCell ?_ ?_ _);rotate_left;focus (first|(simp <;> omega)|omega)))) hb
     clear hb c0 c1 c2 c3 c4 c5 c6 d0 d1 d2 d3 d4 d5 d6
     go_wp2_with fail
    ·go_ret
     have e:z=false:=by
      cases hzz:z with
      |false=>rfl
      |true =>
       exfalso
       have h0:=of_decide_eq_false HQ.out.symm
       apply h0
       have h1:=HZ.out.1 hzz
       have h2:=congrArg (fun l=>l[k]?) h1
       simpa [hkl,hkl'] using h2
     exact ⟨by rw [e];rfl,HB4.out⟩
    ·go_roundg (n - (k+1))
     case measure=>omega
     case rel =>
      refine ⟨k+1,by omega,rfl,by go_num,fun j h1 h2 hj=>?_,HB4⟩
      by_cases hjk:j < k
      ·exact hall.out j h1 h2 hjk
      ·obtain rfl:j=k:=by omega
       exact of_decide_eq_true HQ.out.symm
   ·obtain rfl:k=n:=by omega
    have hlt':¬ (k:Int) < (k:Int):=by omega
    go_wp2_with fail
    go_ret
    have e:z=true:=HZ.out.2 (map_eq_of (by rw [← HN.out,HN'.out]) (fun j h1 h2=>hall.out j h1 h2 (by rw [HN.out];exact h1)))
    exact ⟨by rw [e];rfl,HB.out⟩
 ·have hd:((n:Int) != (n':Int))=true:=by simp;omega
  have HNE:=LH hnn
  clear hnn
  go_enter Tryz.func33,Tryz.ntmps33
  go_wp2_with fail
  go_ret
  have e:z=false:=by
   cases hzz:z with
   |false=>rfl
   |true=>exact absurd (by have:=congrArg List.length (HZ.out.1 hzz);simpa [← HN.out,← HN'.out] using this) HNE.out
  exact ⟨by rw [e];rfl,Below.refl _ _⟩
end Go.Proofs.YtkkohllhebdlcaaGreatDoor
