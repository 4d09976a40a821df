/-
  Proved here: command's reader: one kind of commands. No condition but the kind. command's reader: one kind of commands. No condition but the kind. command's reader: one kind of commands. No condition but the kind.
-/
import Derived.Test.YtkkohllhebdlcaaGreatDoorY09
import Derived.Test.YtkkohllhebdlcaaGreatDoorY16
set_option maxRecDepth 100000
namespace Go.Proofs.YtkkohllhebdlcaaGreatDoor
open Go.RowKit
set_option maxHeartbeats 8000000 in
set_option maxRecDepth 100000 in
theorem rd_k1 {w0 w:World} {g:Nat} {l:List Int} {o:Bool} {k:Int} (h:RdS w0 w g l o) (hk:k=min (nN l) 255) (hkk:k=1) {c:PC} {l':List Int} {o':Bool} (hr:rd1 (nL l) (nO l o)=(c,l',o')) :
  Calls Tryz.prog 62 #[.pointer (some ⟨g,0,none⟩)] w (RdCEnd w0 g c l' o' w):=by
 obtain ⟨n0,hn0⟩:∃ n,n=nN l:=⟨_,rfl⟩
 obtain ⟨l0,hl0⟩:∃ x,x=nL l:=⟨_,rfl⟩
 obtain ⟨o0,ho0⟩:∃ x,x=nO l o:=⟨_,rfl⟩
 have hpos:=nN_pos l
 rw [← hn0] at hk hpos
 rw [← hl0,← ho0] at hr
 have gl:g < w.heap.size:=by obtain ⟨_,_,hb,_⟩:=h;exact hb.lt
 have HR:=LH hr
 have RD:=LH h
 have HN0:=LH hn0
 have HL0:=LH hl0
 have HO0:=LH ho0
 clear h hr hn0 hl0 ho0
 obtain rfl:n0=1:=by omega
 clear hpos
 go_enter Tryz.func62,Tryz.ntmps62
 go_wp2_with fail
 refine Calls.mono (numbers_any (RD.out.keep (below_alloc (Below.refl _ _))) HN0.out HL0.out HO0.out) ?_
 rintro e w1 ⟨rfl,hrd,hf⟩
 have HZ:Hid (Blk w1 w.heap.size 58 [.int .u8 0,.int .i64 0,.slice none 0 0,.int .i64 0,.string ⟨#[]⟩,.string ⟨#[]⟩,.int .i64 0,.int .i64 0,.slice none 0 0,.int .i64 0,.int .i64 0,.int .i64 0]):=LH ((Blk.new rfl).frG hf (by omega))
 have FR:=LH (FrG.down (below_alloc (Below.refl _ _)) hf (Nat.le_of_lt gl))
 have RD:=LH hrd
 have s1:w.heap.size < w1.heap.size:=HZ.out.lt
 clear hrd hf
 go_wp2_with fail
 have HC:Hid (Blk (w1.alloc (.cells #[.int .u8 1,.int .i64 0,.slice none 0 0,.int .i64 0,.string ⟨#[]⟩,.string ⟨#[]⟩,.int .i64 0,.int .i64 0,.slice none 0 0,.int .i64 0,.int .i64 0,.int .i64 0] 58)) w1.heap.size 58 [.int .u8 1,.int .i64 0,.slice none 0 0,.int .i64 0,.string ⟨#[]⟩,.string ⟨#[]⟩,.int .i64 0,.int .i64 0,.slice none 0 0,.int .i64 0,.int .i64 0,.int .i64 0]):=LH (Blk.new rfl)
 replace HZ:Hid (Blk (w1.alloc (.cells #[.int .u8 1,.int .i64 0,.slice none 0 0,.int .i64 0,.string ⟨#[]⟩,.string ⟨#[]⟩,.int .i64 0,.int .i64 0,.slice none 0 0,.int .i64 0,.int .i64 0,.int .i64 0] 58)) w.heap.size 58 [.int .u8 0,.int .i64 0,.slice none 0 0,.int .i64 0,.string ⟨#[]⟩,.string ⟨#[]⟩,.int .i64 0,.int .i64 0,.slice none 0 0,.int .i64 0,.int .i64 0,.int .i64 0]):=LH (Blk.alloc HZ.out _)
 replace RD:Hid (RdS w0 (w1.alloc (.cells #[.int .u8 1,.int .i64 0,.slice none 0 0,.int .i64 0,.string ⟨#[]⟩,.string ⟨#[]⟩,.int .i64 0,.int .i64 0,.slice none 0 0,.int .i64 0,.int .i64 0,.int .i64 0] 58)) g l0 o0):=LH (RD.out.keep (below_alloc (Below.refl _ _)))
 replace FR:Hid (FrG g w (w1.alloc (.cells #[.int .u8 1,.int .i64 0,.slice none 0 0,.int .i64 0,.string ⟨#[]⟩,.string ⟨#[]⟩,.int .i64 0,.int .i64 0,.slice none 0 0,.int .i64 0,.int .i64 0,.int .i64 0] 58))):=LH (FR.out.up (below_alloc (Below.refl _ _)) (Nat.le_of_lt gl))
 try rw [show min (1:Int) 255=1 from rfl]
 generalize hW:w1.alloc (.cells #[.int .u8 1,.int .i64 0,.slice none 0 0,.int .i64 0,.string ⟨#[]⟩,.string ⟨#[]⟩,.int .i64 0,.int .i64 0,.slice none 0 0,.int .i64 0,.int .i64 0,.int .i64 0] 58)=W0 at HC HZ RD FR ⊢
 have sc:=HC.out.lt
 clear hW
 obtain ⟨⟨⟨c0,c1,c2,c3⟩,⟨c4,c5,c6,c7⟩,c8,c9,c10,c11⟩,cz⟩:=cells12 HC.out
 obtain ⟨n1,hn1⟩:∃ n,n=nN l0:=⟨_,rfl⟩
 obtain ⟨l1,hl1⟩:∃ x,x=nL l0:=⟨_,rfl⟩
 obtain ⟨o1,ho1⟩:∃ x,x=nO l0 o0:=⟨_,rfl⟩
 have HN1:=LH hn1
 have HL1:=LH hl1
 have HO1:=LH ho1
 clear hn1 hl1 ho1
 go_wp2_with fail
 refine Calls.mono (numbers_any RD.out HN1.out HL1.out HO1.out) ?_
 rintro e v1_ ⟨rfl,hrd,hf⟩
 replace HC:=LH (HC.out.frG hf (by omega))
 replace HZ:=LH (HZ.out.frG hf (by omega))
 replace FR:=LH (FR.out.trans hf)
 replace RD:=LH hrd
 have z1:W0.heap.size≤v1_.heap.size:=hf.1.size
 clear hrd hf c0 c1 c2 c3 c4 c5 c6 c7 c8 c9 c10 c11 cz
 obtain ⟨⟨⟨c0,c1,c2,c3⟩,⟨c4,c5,c6,c7⟩,c8,c9,c10,c11⟩,cz⟩:=cells12 HC.out
 have sc1:=HC.out.lt
 have HC1:Hid (Blk (v1_.setCell ⟨w1.heap.size,1,none⟩ (.int .i64 n1)) w1.heap.size 58 [.int .u8 1,.int .i64 n1,.slice none 0 0,.int .i64 0,.string ⟨#[]⟩,.string ⟨#[]⟩,.int .i64 0,.int .i64 0,.slice none 0 0,.int .i64 0,.int .i64 0,.int .i64 0]):=LH (HC.out.set_ 1 (.int .i64 n1))
 have HZ1:Hid (Blk (v1_.setCell ⟨w1.heap.size,1,none⟩ (.int .i64 n1)) w.heap.size 58 [.int .u8 0,.int .i64 0,.slice none 0 0,.int .i64 0,.string ⟨#[]⟩,.string ⟨#[]⟩,.int .i64 0,.int .i64 0,.slice none 0 0,.int .i64 0,.int .i64 0,.int .i64 0]):=LH (HZ.out.far (b:=w1.heap.size) (o:=1) (by omega) (.int .i64 n1))
 have RD1:Hid (RdS w0 (v1_.setCell ⟨w1.heap.size,1,none⟩ (.int .i64 n1)) g l1 o1):=LH (RD.out.far (by omega))
 have FR1:Hid (FrG g w (v1_.setCell ⟨w1.heap.size,1,none⟩ (.int .i64 n1))):=LH (FR.out.set_ (Nat.le_of_lt gl) (by omega))
 have zs1:(v1_.setCell ⟨w1.heap.size,1,none⟩ (.int .i64 n1)).heap.size=v1_.heap.size:=by simp
 clear HC HZ RD FR
 have HC:=HC1
 have HZ:=HZ1
 have RD:=RD1
 have FR:=FR1
 clear HC1 HZ1 RD1 FR1
 go_upto_region 6 with fail
 generalize hW:(v1_.setCell ⟨w1.heap.size,1,none⟩ (.int .i64 n1))=W1 at HC HZ RD FR zs1 ⊢
 clear hW c0 c1 c2 c3 c4 c5 c6 c7 c8 c9 c10 c11 cz
 obtain ⟨⟨⟨c0,c1,c2,c3⟩,⟨c4,c5,c6,c7⟩,c8,c9,c10,c11⟩,cz⟩:=cells12 HC.out
 have sd1:=HC.out.lt
 obtain ⟨n2,hn2⟩:∃ n,n=iN 4 l1:=⟨_,rfl⟩
 obtain ⟨l2,hl2⟩:∃ x,x=iL 4 l1:=⟨_,rfl⟩
 obtain ⟨o2,ho2⟩:∃ x,x=iO 4 l1 o1:=⟨_,rfl⟩
 have HN2:=LH hn2
 have HL2:=LH hl2
 have HO2:=LH ho2
 clear hn2 hl2 ho2
 go_wp2_with fail
 refine Calls.mono (ints_any 4 (by decide) (by decide) RD.out HN2.out HL2.out HO2.out) ?_
 rintro e v2_ ⟨ra2,rc2,rfl,oi,hrd,hf⟩
 obtain ⟨m2,hm2⟩:∃ x,x=n2.length:=⟨_,rfl⟩
 rw [← hm2] at oi ⊢
 have HM2:=LH hm2
 have OI2:=LH oi
 clear oi hm2
 replace HC:=LH (HC.out.frG hf (by omega))
 replace HZ:=LH (HZ.out.frG hf (by omega))
 replace FR:=LH (FR.out.trans hf)
 replace RD:=LH hrd
 have z2:W1.heap.size≤v2_.heap.size:=hf.1.size
 clear hrd hf c0 c1 c2 c3 c4 c5 c6 c7 c8 c9 c10 c11 cz
 obtain ⟨⟨⟨c0,c1,c2,c3⟩,⟨c4,c5,c6,c7⟩,c8,c9,c10,c11⟩,cz⟩:=cells12 HC.out
 have sc2:=HC.out.lt
 have HC2:Hid (Blk (v2_.setCell ⟨w1.heap.size,2,none⟩ (.slice ra2 m2 rc2)) w1.heap.size 58 [.int .u8 1,.int .i64 n1,.slice ra2 m2 rc2,.int .i64 0,.string ⟨#[]⟩,.string ⟨#[]⟩,.int .i64 0,.int .i64 0,.slice none 0 0,.int .i64 0,.int .i64 0,.int .i64 0]):=LH (HC.out.set_ 2 (.slice ra2 m2 rc2))
 have HZ2:Hid (Blk (v2_.setCell ⟨w1.heap.size,2,none⟩ (.slice ra2 m2 rc2)) w.heap.size 58 [.int .u8 0,.int .i64 0,.slice none 0 0,.int .i64 0,.string ⟨#[]⟩,.string ⟨#[]⟩,.int .i64 0,.int .i64 0,.slice none 0 0,.int .i64 0,.int .i64 0,.int .i64 0]):=LH (HZ.out.far (b:=w1.heap.size) (o:=2) (by omega) (.slice ra2 m2 rc2))
 have RD2:Hid (RdS w0 (v2_.setCell ⟨w1.heap.size,2,none⟩ (.slice ra2 m2 rc2)) g l2 o2):=LH (RD.out.far (by omega))
 have FR2:Hid (FrG g w (v2_.setCell ⟨w1.heap.size,2,none⟩ (.slice ra2 m2 rc2))):=LH (FR.out.set_ (Nat.le_of_lt gl) (by omega))
 have OJ2:Hid (OwnI (v2_.setCell ⟨w1.heap.size,2,none⟩ (.slice ra2 m2 rc2)) W1.heap.size (.slice ra2 m2 rc2) n2):=LH (OI2.out.far (by omega))
 have zs2:(v2_.setCell ⟨w1.heap.size,2,none⟩ (.slice ra2 m2 rc2)).heap.size=v2_.heap.size:=by simp
 clear HC HZ RD FR OI2
 have HC:=HC2
 have HZ:=HZ2
 have RD:=RD2
 have FR:=FR2
 clear HC2 HZ2 RD2 FR2
 have OI2:=OJ2
 clear OJ2
 go_upto_region 7 with fail
 generalize hW:(v2_.setCell ⟨w1.heap.size,2,none⟩ (.slice ra2 m2 rc2))=W2 at HC HZ RD FR zs2 OI2 ⊢
 clear hW c0 c1 c2 c3 c4 c5 c6 c7 c8 c9 c10 c11 cz
 obtain ⟨⟨⟨c0,c1,c2,c3⟩,⟨c4,c5,c6,c7⟩,c8,c9,c10,c11⟩,cz⟩:=cells12 HC.out
 have sd2:=HC.out.lt
 obtain ⟨n3,hn3⟩:∃ n,n=nN l2:=⟨_,rfl⟩
 obtain ⟨l3,hl3⟩:∃ x,x=nL l2:=⟨_,rfl⟩
 obtain ⟨o3,ho3⟩:∃ x,x=nO l2 o2:=⟨_,rfl⟩
 have HN3:=LH hn3
 have HL3:=LH hl3
 have HO3:=LH ho3
 clear hn3 hl3 ho3
 go_wp2_with fail
 refine Calls.mono (numbers_any RD.out HN3.out HL3.out HO3.out) ?_
 rintro e v3_ ⟨rfl,hrd,hf⟩
 replace HC:=LH (HC.out.frG hf (by omega))
 replace HZ:=LH (HZ.out.frG hf (by omega))
 replace FR:=LH (FR.out.trans hf)
 replace RD:=LH hrd
 replace OI2:=LH (ownI_fr OI2.out (by omega) hf)
 have z3:W2.heap.size≤v3_.heap.size:=hf.1.size
 clear hrd hf c0 c1 c2 c3 c4 c5 c6 c7 c8 c9 c10 c11 cz
 obtain ⟨⟨⟨c0,c1,c2,c3⟩,⟨c4,c5,c6,c7⟩,c8,c9,c10,c11⟩,cz⟩:=cells12 HC.out
 have sc3:=HC.out.lt
 have HC3:Hid (Blk (v3_.setCell ⟨w1.heap.size,3,none⟩ (.int .i64 n3)) w1.heap.size 58 [.int .u8 1,.int .i64 n1,.slice ra2 m2 rc2,.int .i64 n3,.string ⟨#[]⟩,.string ⟨#[]⟩,.int .i64 0,.int .i64 0,.slice none 0 0,.int .i64 0,.int .i64 0,.int .i64 0]):=LH (HC.out.set_ 3 (.int .i64 n3))
 have HZ3:Hid (Blk (v3_.setCell ⟨w1.heap.size,3,none⟩ (.int .i64 n3)) w.heap.size 58 [.int .u8 0,.int .i64 0,.slice none 0 0,.int .i64 0,.string ⟨#[]⟩,.string ⟨#[]⟩,.int .i64 0,.int .i64 0,.slice none 0 0,.int .i64 0,.int .i64 0,.int .i64 0]):=LH (HZ.out.far (b:=w1.heap.size) (o:=3) (by omega) (.int .i64 n3))
 have RD3:Hid (RdS w0 (v3_.setCell ⟨w1.heap.size,3,none⟩ (.int .i64 n3)) g l3 o3):=LH (RD.out.far (by omega))
 have FR3:Hid (FrG g w (v3_.setCell ⟨w1.heap.size,3,none⟩ (.int .i64 n3))):=LH (FR.out.set_ (Nat.le_of_lt gl) (by omega))
 have OJ2:Hid (OwnI (v3_.setCell ⟨w1.heap.size,3,none⟩ (.int .i64 n3)) W1.heap.size (.slice ra2 m2 rc2) n2):=LH (OI2.out.far (by omega))
 have zs3:(v3_.setCell ⟨w1.heap.size,3,none⟩ (.int .i64 n3)).heap.size=v3_.heap.size:=by simp
 clear HC HZ RD FR OI2
 have HC:=HC3
 have HZ:=HZ3
 have RD:=RD3
 have FR:=FR3
 clear HC3 HZ3 RD3 FR3
 have OI2:=OJ2
 clear OJ2
 go_upto_region 8 with fail
 generalize hW:(v3_.setCell ⟨w1.heap.size,3,none⟩ (.int .i64 n3))=W3 at HC HZ RD FR zs3 OI2 ⊢
 clear hW c0 c1 c2 c3 c4 c5 c6 c7 c8 c9 c10 c11 cz
 obtain ⟨⟨⟨c0,c1,c2,c3⟩,⟨c4,c5,c6,c7⟩,c8,c9,c10,c11⟩,cz⟩:=cells12 HC.out
 have sd3:=HC.out.lt
 obtain ⟨n4,hn4⟩:∃ n,n=tN l3:=⟨_,rfl⟩
 obtain ⟨l4,hl4⟩:∃ x,x=tL l3:=⟨_,rfl⟩
 obtain ⟨o4,ho4⟩:∃ x,x=tO l3 o3:=⟨_,rfl⟩
 have HN4:=LH hn4
 have HL4:=LH hl4
 have HO4:=LH ho4
 clear hn4 hl4 ho4
 go_wp2_with fail
 refine Calls.mono (text_any RD.out HN4.out HL4.out HO4.out) ?_
 rintro e v4_ ⟨rfl,hrd,hf⟩
 replace HC:=LH (HC.out.frG hf (by omega))
 replace HZ:=LH (HZ.out.frG hf (by omega))
 replace FR:=LH (FR.out.trans hf)
 replace RD:=LH hrd
 replace OI2:=LH (ownI_fr OI2.out (by omega) hf)
 have z4:W3.heap.size≤v4_.heap.size:=hf.1.size
 clear hrd hf c0 c1 c2 c3 c4 c5 c6 c7 c8 c9 c10 c11 cz
 obtain ⟨⟨⟨c0,c1,c2,c3⟩,⟨c4,c5,c6,c7⟩,c8,c9,c10,c11⟩,cz⟩:=cells12 HC.out
 have sc4:=HC.out.lt
 have HC4:Hid (Blk (v4_.setCell ⟨w1.heap.size,4,none⟩ (.string n4)) w1.heap.size 58 [.int .u8 1,.int .i64 n1,.slice ra2 m2 rc2,.int .i64 n3,.string n4,.string ⟨#[]⟩,.int .i64 0,.int .i64 0,.slice none 0 0,.int .i64 0,.int .i64 0,.int .i64 0]):=LH (HC.out.set_ 4 (.string n4))
 have HZ4:Hid (Blk (v4_.setCell ⟨w1.heap.size,4,none⟩ (.string n4)) w.heap.size 58 [.int .u8 0,.int .i64 0,.slice none 0 0,.int .i64 0,.string ⟨#[]⟩,.string ⟨#[]⟩,.int .i64 0,.int .i64 0,.slice none 0 0,.int .i64 0,.int .i64 0,.int .i64 0]):=LH (HZ.out.far (b:=w1.heap.size) (o:=4) (by omega) (.string n4))
 have RD4:Hid (RdS w0 (v4_.setCell ⟨w1.heap.size,4,none⟩ (.string n4)) g l4 o4):=LH (RD.out.far (by omega))
 have FR4:Hid (FrG g w (v4_.setCell ⟨w1.heap.size,4,none⟩ (.string n4))):=LH (FR.out.set_ (Nat.le_of_lt gl) (by omega))
 have OJ2:Hid (OwnI (v4_.setCell ⟨w1.heap.size,4,none⟩ (.string n4)) W1.heap.size (.slice ra2 m2 rc2) n2):=LH (OI2.out.far (by omega))
 have zs4:(v4_.setCell ⟨w1.heap.size,4,none⟩ (.string n4)).heap.size=v4_.heap.size:=by simp
 clear HC HZ RD FR OI2
 have HC:=HC4
 have HZ:=HZ4
 have RD:=RD4
 have FR:=FR4
 clear HC4 HZ4 RD4 FR4
 have OI2:=OJ2
 clear OJ2
 go_upto_region 9 with fail
 generalize hW:(v4_.setCell ⟨w1.heap.size,4,none⟩ (.string n4))=W4 at HC HZ RD FR zs4 OI2 ⊢
 clear hW c0 c1 c2 c3 c4 c5 c6 c7 c8 c9 c10 c11 cz
 obtain ⟨⟨⟨c0,c1,c2,c3⟩,⟨c4,c5,c6,c7⟩,c8,c9,c10,c11⟩,cz⟩:=cells12 HC.out
 have sd4:=HC.out.lt
 obtain ⟨n5,hn5⟩:∃ n,n=tN l4:=⟨_,rfl⟩
 obtain ⟨l5,hl5⟩:∃ x,x=tL l4:=⟨_,rfl⟩
 obtain ⟨o5,ho5⟩:∃ x,x=tO l4 o4:=⟨_,rfl⟩
 have HN5:=LH hn5
 have HL5:=LH hl5
 have HO5:=LH ho5
 clear hn5 hl5 ho5
 go_wp2_with fail
 refine Calls.mono (text_any RD.out HN5.out HL5.out HO5.out) ?_
 rintro e v5_ ⟨rfl,hrd,hf⟩
 replace HC:=LH (HC.out.frG hf (by omega))
 replace HZ:=LH (HZ.out.frG hf (by omega))
 replace FR:=LH (FR.out.trans hf)
 replace RD:=LH hrd
 replace OI2:=LH (ownI_fr OI2.out (by omega) hf)
 have z5:W4.heap.size≤v5_.heap.size:=hf.1.size
 clear hrd hf c0 c1 c2 c3 c4 c5 c6 c7 c8 c9 c10 c11 cz
 obtain ⟨⟨⟨c0,c1,c2,c3⟩,⟨c4,c5,c6,c7⟩,c8,c9,c10,c11⟩,cz⟩:=cells12 HC.out
 have sc5:=HC.out.lt
 have HC5:Hid (Blk (v5_.setCell ⟨w1.heap.size,5,none⟩ (.string n5)) w1.heap.size 58 [.int .u8 1,.int .i64 n1,.slice ra2 m2 rc2,.int .i64 n3,.string n4,.string n5,.int .i64 0,.int .i64 0,.slice none 0 0,.int .i64 0,.int .i64 0,.int .i64 0]):=LH (HC.out.set_ 5 (.string n5))
 have HZ5:Hid (Blk (v5_.setCell ⟨w1.heap.size,5,none⟩ (.string n5)) w.heap.size 58 [.int .u8 0,.int .i64 0,.slice none 0 0,.int .i64 0,.string ⟨#[]⟩,.string ⟨#[]⟩,.int .i64 0,.int .i64 0,.slice none 0 0,.int .i64 0,.int .i64 0,.int .i64 0]):=LH (HZ.out.far (b:=w1.heap.size) (o:=5) (by omega) (.string n5))
 have RD5:Hid (RdS w0 (v5_.setCell ⟨w1.heap.size,5,none⟩ (.string n5)) g l5 o5):=LH (RD.out.far (by omega))
 have FR5:Hid (FrG g w (v5_.setCell ⟨w1.heap.size,5,none⟩ (.string n5))):=LH (FR.out.set_ (Nat.le_of_lt gl) (by omega))
 have OJ2:Hid (OwnI (v5_.setCell ⟨w1.heap.size,5,none⟩ (.string n5)) W1.heap.size (.slice ra2 m2 rc2) n2):=LH (OI2.out.far (by omega))
 have zs5:(v5_.setCell ⟨w1.heap.size,5,none⟩ (.string n5)).heap.size=v5_.heap.size:=by simp
 clear HC HZ RD FR OI2
 have HC:=HC5
 have HZ:=HZ5
 have RD:=RD5
 have FR:=FR5
 clear HC5 HZ5 RD5 FR5
 have OI2:=OJ2
 clear OJ2
 go_upto_region 23 with fail
 generalize hW:(v5_.setCell ⟨w1.heap.size,5,none⟩ (.string n5))=W5 at HC HZ RD FR zs5 OI2 ⊢
 clear hW c0 c1 c2 c3 c4 c5 c6 c7 c8 c9 c10 c11 cz
 obtain ⟨⟨⟨c0,c1,c2,c3⟩,⟨c4,c5,c6,c7⟩,c8,c9,c10,c11⟩,cz⟩:=cells12 HC.out
 have sd5:=HC.out.lt
 obtain rfl:=HM2.out
 have hfin:=HR.out
 rw [show rd1 l0 o0=(⟨1,⟨n1,n2,n3,n4,n5⟩,0,0,[],0,0,0⟩,l5,o5) by rw [HO5.out,HL5.out,HN5.out,HO4.out,HL4.out,HN4.out,HO3.out,HL3.out,HN3.out,HO2.out,HL2.out,HN2.out,HO1.out,HL1.out,HN1.out];rfl] at hfin
 cases hfin
 obtain ⟨⟨⟨e0,e1,e2,e3⟩,⟨e4,e5,e6,e7⟩,e8,e9,e10,e11⟩,ez⟩:=cells12 HZ.out
 have el:=HZ.out.lt
 go_wp2_with fail
 obtain ⟨⟨⟨t0,t1_,t2,t3⟩,⟨t4,t5,t6,t7⟩,t8,t9,t10,t11⟩,-⟩:=cells12 (blk_put12 HZ.out (.int .u8 1) (.int .i64 n1) (.slice ra2 n2.length rc2) (.int .i64 n3) (.string n4) (.string n5) (.int .i64 0) (.int .i64 0) (.slice none 0 0) (.int .i64 0) (.int .i64 0) (.int .i64 0))
 exact bodyPost_ret (v:=.agg #[.int .u8 1,.int .i64 n1,.slice ra2 n2.length rc2,.int .i64 n3,.string n4,.string n5,.int .i64 0,.int .i64 0,.slice none 0 0,.int .i64 0,.int .i64 0,.int .i64 0]) (by simp [results,Tryz.results62,go_sem,t0,t1_,t2,t3,t4,t5,t6,t7,t8,t9,t10,t11]) rfl ⟨_,rfl,⟨ra2,rc2,none,0,rfl,(OwnI.le ((((((((((((OI2.out.far (b:=w.heap.size) (o:=0) (u:=.int .u8 1) (by omega)).far (b:=w.heap.size) (o:=1) (u:=.int .i64 n1) (by omega)).far (b:=w.heap.size) (o:=2) (u:=.slice ra2 n2.length rc2) (by omega)).far (b:=w.heap.size) (o:=3) (u:=.int .i64 n3) (by omega)).far (b:=w.heap.size) (o:=4) (u:=.string n4) (by omega)).far (b:=w.heap.size) (o:=5) (u:=.string n5) (by omega)).far (b:=w.heap.size) (o:=6) (u:=.int .i64 0) (by omega)).far (b:=w.heap.size) (o:=7) (u:=.int .i64 0) (by omega)).far (b:=w.heap.size) (o:=8) (u:=.slice none 0 0) (by omega)).far (b:=w.heap.size) (o:=9) (u:=.int .i64 0) (by omega)).far (b:=w.heap.size) (o:=10) (u:=.int .i64 0) (by omega)).far (b:=w.heap.size) (o:=11) (u:=.int .i64 0) (by omega)) (by omega)),ownI_nil _ _⟩,((((((((((((RD.out.far (b:=w.heap.size) (o:=0) (v:=.int .u8 1) gl).far (b:=w.heap.size) (o:=1) (v:=.int .i64 n1) gl).far (b:=w.heap.size) (o:=2) (v:=.slice ra2 n2.length rc2) gl).far (b:=w.heap.size) (o:=3) (v:=.int .i64 n3) gl).far (b:=w.heap.size) (o:=4) (v:=.string n4) gl).far (b:=w.heap.size) (o:=5) (v:=.string n5) gl).far (b:=w.heap.size) (o:=6) (v:=.int .i64 0) gl).far (b:=w.heap.size) (o:=7) (v:=.int .i64 0) gl).far (b:=w.heap.size) (o:=8) (v:=.slice none 0 0) gl).far (b:=w.heap.size) (o:=9) (v:=.int .i64 0) gl).far (b:=w.heap.size) (o:=10) (v:=.int .i64 0) gl).far (b:=w.heap.size) (o:=11) (v:=.int .i64 0) gl),((((((((((((FR.out.set_ (b:=w.heap.size) (o:=0) (v:=.int .u8 1) (Nat.le_of_lt gl) (Nat.le_refl _)).set_ (b:=w.heap.size) (o:=1) (v:=.int .i64 n1) (Nat.le_of_lt gl) (Nat.le_refl _)).set_ (b:=w.heap.size) (o:=2) (v:=.slice ra2 n2.length rc2) (Nat.le_of_lt gl) (Nat.le_refl _)).set_ (b:=w.heap.size) (o:=3) (v:=.int .i64 n3) (Nat.le_of_lt gl) (Nat.le_refl _)).set_ (b:=w.heap.size) (o:=4) (v:=.string n4) (Nat.le_of_lt gl) (Nat.le_refl _)).set_ (b:=w.heap.size) (o:=5) (v:=.string n5) (Nat.le_of_lt gl) (Nat.le_refl _)).set_ (b:=w.heap.size) (o:=6) (v:=.int .i64 0) (Nat.le_of_lt gl) (Nat.le_refl _)).set_ (b:=w.heap.size) (o:=7) (v:=.int .i64 0) (Nat.le_of_lt gl) (Nat.le_refl _)).set_ (b:=w.heap.size) (o:=8) (v:=.slice none 0 0) (Nat.le_of_lt gl) (Nat.le_refl _)).set_ (b:=w.heap.size) (o:=9) (v:=.int .i64 0) (Nat.le_of_lt gl) (Nat.le_refl _)).set_ (b:=w.heap.size) (o:=10) (v:=.int .i64 0) (Nat.le_of_lt gl) (Nat.le_refl _)).set_ (b:=w.heap.size) (o:=11) (v:=.int .i64 0) (Nat.le_of_lt gl) (Nat.le_refl _))⟩
set_option maxHeartbeats 8000000 in
set_option maxRecDepth 100000 in
theorem rd_k2 {w0 w:World} {g:Nat} {l:List Int} {o:Bool} {k:Int} (h:RdS w0 w g l o) (hk:k=min (nN l) 255) (hkk:k=2) {c:PC} {l':List Int} {o':Bool} (hr:rd2 (nL l) (nO l o)=(c,l',o')) :
  Calls Tryz.prog 62 #[.pointer (some ⟨g,0,none⟩)] w (RdCEnd w0 g c l' o' w):=by
 obtain ⟨n0,hn0⟩:∃ n,n=nN l:=⟨_,rfl⟩
 obtain ⟨l0,hl0⟩:∃ x,x=nL l:=⟨_,rfl⟩
 obtain ⟨o0,ho0⟩:∃ x,x=nO l o:=⟨_,rfl⟩
 have hpos:=nN_pos l
 rw [← hn0] at hk hpos
 rw [← hl0,← ho0] at hr
 have gl:g < w.heap.size:=by obtain ⟨_,_,hb,_⟩:=h;exact hb.lt
 have HR:=LH hr
 have RD:=LH h
 have HN0:=LH hn0
 have HL0:=LH hl0
 have HO0:=LH ho0
 clear h hr hn0 hl0 ho0
 obtain rfl:n0=2:=by omega
 clear hpos
 go_enter Tryz.func62,Tryz.ntmps62
 go_wp2_with fail
 refine Calls.mono (numbers_any (RD.out.keep (below_alloc (Below.refl _ _))) HN0.out HL0.out HO0.out) ?_
 rintro e w1 ⟨rfl,hrd,hf⟩
 have HZ:Hid (Blk w1 w.heap.size 58 [.int .u8 0,.int .i64 0,.slice none 0 0,.int .i64 0,.string ⟨#[]⟩,.string ⟨#[]⟩,.int .i64 0,.int .i64 0,.slice none 0 0,.int .i64 0,.int .i64 0,.int .i64 0]):=LH ((Blk.new rfl).frG hf (by omega))
 have FR:=LH (FrG.down (below_alloc (Below.refl _ _)) hf (Nat.le_of_lt gl))
 have RD:=LH hrd
 have s1:w.heap.size < w1.heap.size:=HZ.out.lt
 clear hrd hf
 go_wp2_with fail
 have HC:Hid (Blk (w1.alloc (.cells #[.int .u8 2,.int .i64 0,.slice none 0 0,.int .i64 0,.string ⟨#[]⟩,.string ⟨#[]⟩,.int .i64 0,.int .i64 0,.slice none 0 0,.int .i64 0,.int .i64 0,.int .i64 0] 58)) w1.heap.size 58 [.int .u8 2,.int .i64 0,.slice none 0 0,.int .i64 0,.string ⟨#[]⟩,.string ⟨#[]⟩,.int .i64 0,.int .i64 0,.slice none 0 0,.int .i64 0,.int .i64 0,.int .i64 0]):=LH (Blk.new rfl)
 replace HZ:Hid (Blk (w1.alloc (.cells #[.int .u8 2,.int .i64 0,.slice none 0 0,.int .i64 0,.string ⟨#[]⟩,.string ⟨#[]⟩,.int .i64 0,.int .i64 0,.slice none 0 0,.int .i64 0,.int .i64 0,.int .i64 0] 58)) w.heap.size 58 [.int .u8 0,.int .i64 0,.slice none 0 0,.int .i64 0,.string ⟨#[]⟩,.string ⟨#[]⟩,.int .i64 0,.int .i64 0,.slice none 0 0,.int .i64 0,.int .i64 0,.int .i64 0]):=LH (Blk.alloc HZ.out _)
 replace RD:Hid (RdS w0 (w1.alloc (.cells #[.int .u8 2,.int .i64 0,.slice none 0 0,.int .i64 0,.string ⟨#[]⟩,.string ⟨#[]⟩,.int .i64 0,.int .i64 0,.slice none 0 0,.int .i64 0,.int .i64 0,.int .i64 0] 58)) g l0 o0):=LH (RD.out.keep (below_alloc (Below.refl _ _)))
 replace FR:Hid (FrG g w (w1.alloc (.cells #[.int .u8 2,.int .i64 0,.slice none 0 0,.int .i64 0,.string ⟨#[]⟩,.string ⟨#[]⟩,.int .i64 0,.int .i64 0,.slice none 0 0,.int .i64 0,.int .i64 0,.int .i64 0] 58))):=LH (FR.out.up (below_alloc (Below.refl _ _)) (Nat.le_of_lt gl))
 try rw [show min (2:Int) 255=2 from rfl]
 generalize hW:w1.alloc (.cells #[.int .u8 2,.int .i64 0,.slice none 0 0,.int .i64 0,.string ⟨#[]⟩,.string ⟨#[]⟩,.int .i64 0,.int .i64 0,.slice none 0 0,.int .i64 0,.int .i64 0,.int .i64 0] 58)=W0 at HC HZ RD FR ⊢
 have sc:=HC.out.lt
 clear hW
 obtain ⟨⟨⟨c0,c1,c2,c3⟩,⟨c4,c5,c6,c7⟩,c8,c9,c10,c11⟩,cz⟩:=cells12 HC.out
 obtain ⟨n1,hn1⟩:∃ n,n=nN l0:=⟨_,rfl⟩
 obtain ⟨l1,hl1⟩:∃ x,x=nL l0:=⟨_,rfl⟩
 obtain ⟨o1,ho1⟩:∃ x,x=nO l0 o0:=⟨_,rfl⟩
 have HN1:=LH hn1
 have HL1:=LH hl1
 have HO1:=LH ho1
 clear hn1 hl1 ho1
 go_wp2_with fail
 refine Calls.mono (numbers_any RD.out HN1.out HL1.out HO1.out) ?_
 rintro e v1_ ⟨rfl,hrd,hf⟩
 replace HC:=LH (HC.out.frG hf (by omega))
 replace HZ:=LH (HZ.out.frG hf (by omega))
 replace FR:=LH (FR.out.trans hf)
 replace RD:=LH hrd
 have z1:W0.heap.size≤v1_.heap.size:=hf.1.size
 clear hrd hf c0 c1 c2 c3 c4 c5 c6 c7 c8 c9 c10 c11 cz
 obtain ⟨⟨⟨c0,c1,c2,c3⟩,⟨c4,c5,c6,c7⟩,c8,c9,c10,c11⟩,cz⟩:=cells12 HC.out
 have sc1:=HC.out.lt
 have HC1:Hid (Blk (v1_.setCell ⟨w1.heap.size,6,none⟩ (.int .i64 n1)) w1.heap.size 58 [.int .u8 2,.int .i64 0,.slice none 0 0,.int .i64 0,.string ⟨#[]⟩,.string ⟨#[]⟩,.int .i64 n1,.int .i64 0,.slice none 0 0,.int .i64 0,.int .i64 0,.int .i64 0]):=LH (HC.out.set_ 6 (.int .i64 n1))
 have HZ1:Hid (Blk (v1_.setCell ⟨w1.heap.size,6,none⟩ (.int .i64 n1)) w.heap.size 58 [.int .u8 0,.int .i64 0,.slice none 0 0,.int .i64 0,.string ⟨#[]⟩,.string ⟨#[]⟩,.int .i64 0,.int .i64 0,.slice none 0 0,.int .i64 0,.int .i64 0,.int .i64 0]):=LH (HZ.out.far (b:=w1.heap.size) (o:=6) (by omega) (.int .i64 n1))
 have RD1:Hid (RdS w0 (v1_.setCell ⟨w1.heap.size,6,none⟩ (.int .i64 n1)) g l1 o1):=LH (RD.out.far (by omega))
 have FR1:Hid (FrG g w (v1_.setCell ⟨w1.heap.size,6,none⟩ (.int .i64 n1))):=LH (FR.out.set_ (Nat.le_of_lt gl) (by omega))
 have zs1:(v1_.setCell ⟨w1.heap.size,6,none⟩ (.int .i64 n1)).heap.size=v1_.heap.size:=by simp
 clear HC HZ RD FR
 have HC:=HC1
 have HZ:=HZ1
 have RD:=RD1
 have FR:=FR1
 clear HC1 HZ1 RD1 FR1
 go_upto_region 12 with fail
 generalize hW:(v1_.setCell ⟨w1.heap.size,6,none⟩ (.int .i64 n1))=W1 at HC HZ RD FR zs1 ⊢
 clear hW c0 c1 c2 c3 c4 c5 c6 c7 c8 c9 c10 c11 cz
 obtain ⟨⟨⟨c0,c1,c2,c3⟩,⟨c4,c5,c6,c7⟩,c8,c9,c10,c11⟩,cz⟩:=cells12 HC.out
 have sd1:=HC.out.lt
 obtain ⟨n2,hn2⟩:∃ n,n=nN l1:=⟨_,rfl⟩
 obtain ⟨l2,hl2⟩:∃ x,x=nL l1:=⟨_,rfl⟩
 obtain ⟨o2,ho2⟩:∃ x,x=nO l1 o1:=⟨_,rfl⟩
 have HN2:=LH hn2
 have HL2:=LH hl2
 have HO2:=LH ho2
 clear hn2 hl2 ho2
 go_wp2_with fail
 refine Calls.mono (numbers_any RD.out HN2.out HL2.out HO2.out) ?_
 rintro e v2_ ⟨rfl,hrd,hf⟩
 replace HC:=LH (HC.out.frG hf (by omega))
 replace HZ:=LH (HZ.out.frG hf (by omega))
 replace FR:=LH (FR.out.trans hf)
 replace RD:=LH hrd
 have z2:W1.heap.size≤v2_.heap.size:=hf.1.size
 clear hrd hf c0 c1 c2 c3 c4 c5 c6 c7 c8 c9 c10 c11 cz
 obtain ⟨⟨⟨c0,c1,c2,c3⟩,⟨c4,c5,c6,c7⟩,c8,c9,c10,c11⟩,cz⟩:=cells12 HC.out
 have sc2:=HC.out.lt
 have HC2:Hid (Blk (v2_.setCell ⟨w1.heap.size,7,none⟩ (.int .i64 n2)) w1.heap.size 58 [.int .u8 2,.int .i64 0,.slice none 0 0,.int .i64 0,.string ⟨#[]⟩,.string ⟨#[]⟩,.int .i64 n1,.int .i64 n2,.slice none 0 0,.int .i64 0,.int .i64 0,.int .i64 0]):=LH (HC.out.set_ 7 (.int .i64 n2))
 have HZ2:Hid (Blk (v2_.setCell ⟨w1.heap.size,7,none⟩ (.int .i64 n2)) w.heap.size 58 [.int .u8 0,.int .i64 0,.slice none 0 0,.int .i64 0,.string ⟨#[]⟩,.string ⟨#[]⟩,.int .i64 0,.int .i64 0,.slice none 0 0,.int .i64 0,.int .i64 0,.int .i64 0]):=LH (HZ.out.far (b:=w1.heap.size) (o:=7) (by omega) (.int .i64 n2))
 have RD2:Hid (RdS w0 (v2_.setCell ⟨w1.heap.size,7,none⟩ (.int .i64 n2)) g l2 o2):=LH (RD.out.far (by omega))
 have FR2:Hid (FrG g w (v2_.setCell ⟨w1.heap.size,7,none⟩ (.int .i64 n2))):=LH (FR.out.set_ (Nat.le_of_lt gl) (by omega))
 have zs2:(v2_.setCell ⟨w1.heap.size,7,none⟩ (.int .i64 n2)).heap.size=v2_.heap.size:=by simp
 clear HC HZ RD FR
 have HC:=HC2
 have HZ:=HZ2
 have RD:=RD2
 have FR:=FR2
 clear HC2 HZ2 RD2 FR2
 go_upto_region 23 with fail
 generalize hW:(v2_.setCell ⟨w1.heap.size,7,none⟩ (.int .i64 n2))=W2 at HC HZ RD FR zs2 ⊢
 clear hW c0 c1 c2 c3 c4 c5 c6 c7 c8 c9 c10 c11 cz
 obtain ⟨⟨⟨c0,c1,c2,c3⟩,⟨c4,c5,c6,c7⟩,c8,c9,c10,c11⟩,cz⟩:=cells12 HC.out
 have sd2:=HC.out.lt
 have hfin:=HR.out
 rw [show rd2 l0 o0=(⟨2,default,n1,n2,[],0,0,0⟩,l2,o2) by rw [HO2.out,HL2.out,HN2.out,HO1.out,HL1.out,HN1.out];rfl] at hfin
 cases hfin
 obtain ⟨⟨⟨e0,e1,e2,e3⟩,⟨e4,e5,e6,e7⟩,e8,e9,e10,e11⟩,ez⟩:=cells12 HZ.out
 have el:=HZ.out.lt
 go_wp2_with fail
 obtain ⟨⟨⟨t0,t1_,t2,t3⟩,⟨t4,t5,t6,t7⟩,t8,t9,t10,t11⟩,-⟩:=cells12 (blk_put12 HZ.out (.int .u8 2) (.int .i64 0) (.slice none 0 0) (.int .i64 0) (.string ⟨#[]⟩) (.string ⟨#[]⟩) (.int .i64 n1) (.int .i64 n2) (.slice none 0 0) (.int .i64 0) (.int .i64 0) (.int .i64 0))
 exact bodyPost_ret (v:=.agg #[.int .u8 2,.int .i64 0,.slice none 0 0,.int .i64 0,.string ⟨#[]⟩,.string ⟨#[]⟩,.int .i64 n1,.int .i64 n2,.slice none 0 0,.int .i64 0,.int .i64 0,.int .i64 0]) (by simp [results,Tryz.results62,go_sem,t0,t1_,t2,t3,t4,t5,t6,t7,t8,t9,t10,t11]) rfl ⟨_,rfl,⟨none,0,none,0,rfl,ownI_nil _ _,ownI_nil _ _⟩,((((((((((((RD.out.far (b:=w.heap.size) (o:=0) (v:=.int .u8 2) gl).far (b:=w.heap.size) (o:=1) (v:=.int .i64 0) gl).far (b:=w.heap.size) (o:=2) (v:=.slice none 0 0) gl).far (b:=w.heap.size) (o:=3) (v:=.int .i64 0) gl).far (b:=w.heap.size) (o:=4) (v:=.string ⟨#[]⟩) gl).far (b:=w.heap.size) (o:=5) (v:=.string ⟨#[]⟩) gl).far (b:=w.heap.size) (o:=6) (v:=.int .i64 n1) gl).far (b:=w.heap.size) (o:=7) (v:=.int .i64 n2) gl).far (b:=w.heap.size) (o:=8) (v:=.slice none 0 0) gl).far (b:=w.heap.size) (o:=9) (v:=.int .i64 0) gl).far (b:=w.heap.size) (o:=10) (v:=.int .i64 0) gl).far (b:=w.heap.size) (o:=11) (v:=.int .i64 0) gl),((((((((((((FR.out.set_ (b:=w.heap.size) (o:=0) (v:=.int .u8 2) (Nat.le_of_lt gl) (Nat.le_refl _)).set_ (b:=w.heap.size) (o:=1) (v:=.int .i64 0) (Nat.le_of_lt gl) (Nat.le_refl _)).set_ (b:=w.heap.size) (o:=2) (v:=.slice none 0 0) (Nat.le_of_lt gl) (Nat.le_refl _)).set_ (b:=w.heap.size) (o:=3) (v:=.int .i64 0) (Nat.le_of_lt gl) (Nat.le_refl _)).set_ (b:=w.heap.size) (o:=4) (v:=.string ⟨#[]⟩) (Nat.le_of_lt gl) (Nat.le_refl _)).set_ (b:=w.heap.size) (o:=5) (v:=.string ⟨#[]⟩) (Nat.le_of_lt gl) (Nat.le_refl _)).set_ (b:=w.heap.size) (o:=6) (v:=.int .i64 n1) (Nat.le_of_lt gl) (Nat.le_refl _)).set_ (b:=w.heap.size) (o:=7) (v:=.int .i64 n2) (Nat.le_of_lt gl) (Nat.le_refl _)).set_ (b:=w.heap.size) (o:=8) (v:=.slice none 0 0) (Nat.le_of_lt gl) (Nat.le_refl _)).set_ (b:=w.heap.size) (o:=9) (v:=.int .i64 0) (Nat.le_of_lt gl) (Nat.le_refl _)).set_ (b:=w.heap.size) (o:=10) (v:=.int .i64 0) (Nat.le_of_lt gl) (Nat.le_refl _)).set_ (b:=w.heap.size) (o:=11) (v:=.int .i64 0) (Nat.le_of_lt gl) (Nat.le_refl _))⟩
set_option maxHeartbeats 8000000 in
set_option maxRecDepth 100000 in
theorem rd_k4 {w0 w:World} {g:Nat} {l:List Int} {o:Bool} {k:Int} (h:RdS w0 w g l o) (hk:k=min (nN l) 255) (hkk:k=4) {c:PC} {l':List Int} {o':Bool} (hr:rd4 (nL l) (nO l o)=(c,l',o')) :
  Calls Tryz.prog 62 #[.pointer (some ⟨g,0,none⟩)] w (RdCEnd w0 g c l' o' w):=by
 obtain ⟨n0,hn0⟩:∃ n,n=nN l:=⟨_,rfl⟩
 obtain ⟨l0,hl0⟩:∃ x,x=nL l:=⟨_,rfl⟩
 obtain ⟨o0,ho0⟩:∃ x,x=nO l o:=⟨_,rfl⟩
 have hpos:=nN_pos l
 rw [← hn0] at hk hpos
 rw [← hl0,← ho0] at hr
 have gl:g < w.heap.size:=by obtain ⟨_,_,hb,_⟩:=h;exact hb.lt
 have HR:=LH hr
 have RD:=LH h
 have HN0:=LH hn0
 have HL0:=LH hl0
 have HO0:=LH ho0
 clear h hr hn0 hl0 ho0
 obtain rfl:n0=4:=by omega
 clear hpos
 go_enter Tryz.func62,Tryz.ntmps62
 go_wp2_with fail
 refine Calls.mono (numbers_any (RD.out.keep (below_alloc (Below.refl _ _))) HN0.out HL0.out HO0.out) ?_
 rintro e w1 ⟨rfl,hrd,hf⟩
 have HZ:Hid (Blk w1 w.heap.size 58 [.int .u8 0,.int .i64 0,.slice none 0 0,.int .i64 0,.string ⟨#[]⟩,.string ⟨#[]⟩,.int .i64 0,.int .i64 0,.slice none 0 0,.int .i64 0,.int .i64 0,.int .i64 0]):=LH ((Blk.new rfl).frG hf (by omega))
 have FR:=LH (FrG.down (below_alloc (Below.refl _ _)) hf (Nat.le_of_lt gl))
 have RD:=LH hrd
 have s1:w.heap.size < w1.heap.size:=HZ.out.lt
 clear hrd hf
 go_wp2_with fail
 have HC:Hid (Blk (w1.alloc (.cells #[.int .u8 4,.int .i64 0,.slice none 0 0,.int .i64 0,.string ⟨#[]⟩,.string ⟨#[]⟩,.int .i64 0,.int .i64 0,.slice none 0 0,.int .i64 0,.int .i64 0,.int .i64 0] 58)) w1.heap.size 58 [.int .u8 4,.int .i64 0,.slice none 0 0,.int .i64 0,.string ⟨#[]⟩,.string ⟨#[]⟩,.int .i64 0,.int .i64 0,.slice none 0 0,.int .i64 0,.int .i64 0,.int .i64 0]):=LH (Blk.new rfl)
 replace HZ:Hid (Blk (w1.alloc (.cells #[.int .u8 4,.int .i64 0,.slice none 0 0,.int .i64 0,.string ⟨#[]⟩,.string ⟨#[]⟩,.int .i64 0,.int .i64 0,.slice none 0 0,.int .i64 0,.int .i64 0,.int .i64 0] 58)) w.heap.size 58 [.int .u8 0,.int .i64 0,.slice none 0 0,.int .i64 0,.string ⟨#[]⟩,.string ⟨#[]⟩,.int .i64 0,.int .i64 0,.slice none 0 0,.int .i64 0,.int .i64 0,.int .i64 0]):=LH (Blk.alloc HZ.out _)
 replace RD:Hid (RdS w0 (w1.alloc (.cells #[.int .u8 4,.int .i64 0,.slice none 0 0,.int .i64 0,.string ⟨#[]⟩,.string ⟨#[]⟩,.int .i64 0,.int .i64 0,.slice none 0 0,.int .i64 0,.int .i64 0,.int .i64 0] 58)) g l0 o0):=LH (RD.out.keep (below_alloc (Below.refl _ _)))
 replace FR:Hid (FrG g w (w1.alloc (.cells #[.int .u8 4,.int .i64 0,.slice none 0 0,.int .i64 0,.string ⟨#[]⟩,.string ⟨#[]⟩,.int .i64 0,.int .i64 0,.slice none 0 0,.int .i64 0,.int .i64 0,.int .i64 0] 58))):=LH (FR.out.up (below_alloc (Below.refl _ _)) (Nat.le_of_lt gl))
 try rw [show min (4:Int) 255=4 from rfl]
 generalize hW:w1.alloc (.cells #[.int .u8 4,.int .i64 0,.slice none 0 0,.int .i64 0,.string ⟨#[]⟩,.string ⟨#[]⟩,.int .i64 0,.int .i64 0,.slice none 0 0,.int .i64 0,.int .i64 0,.int .i64 0] 58)=W0 at HC HZ RD FR ⊢
 have sc:=HC.out.lt
 clear hW
 obtain ⟨⟨⟨c0,c1,c2,c3⟩,⟨c4,c5,c6,c7⟩,c8,c9,c10,c11⟩,cz⟩:=cells12 HC.out
 obtain ⟨n1,hn1⟩:∃ n,n=nN l0:=⟨_,rfl⟩
 obtain ⟨l1,hl1⟩:∃ x,x=nL l0:=⟨_,rfl⟩
 obtain ⟨o1,ho1⟩:∃ x,x=nO l0 o0:=⟨_,rfl⟩
 have HN1:=LH hn1
 have HL1:=LH hl1
 have HO1:=LH ho1
 clear hn1 hl1 ho1
 go_wp2_with fail
 refine Calls.mono (numbers_any RD.out HN1.out HL1.out HO1.out) ?_
 rintro e v1_ ⟨rfl,hrd,hf⟩
 replace HC:=LH (HC.out.frG hf (by omega))
 replace HZ:=LH (HZ.out.frG hf (by omega))
 replace FR:=LH (FR.out.trans hf)
 replace RD:=LH hrd
 have z1:W0.heap.size≤v1_.heap.size:=hf.1.size
 clear hrd hf c0 c1 c2 c3 c4 c5 c6 c7 c8 c9 c10 c11 cz
 obtain ⟨⟨⟨c0,c1,c2,c3⟩,⟨c4,c5,c6,c7⟩,c8,c9,c10,c11⟩,cz⟩:=cells12 HC.out
 have sc1:=HC.out.lt
 have HC1:Hid (Blk (v1_.setCell ⟨w1.heap.size,6,none⟩ (.int .i64 n1)) w1.heap.size 58 [.int .u8 4,.int .i64 0,.slice none 0 0,.int .i64 0,.string ⟨#[]⟩,.string ⟨#[]⟩,.int .i64 n1,.int .i64 0,.slice none 0 0,.int .i64 0,.int .i64 0,.int .i64 0]):=LH (HC.out.set_ 6 (.int .i64 n1))
 have HZ1:Hid (Blk (v1_.setCell ⟨w1.heap.size,6,none⟩ (.int .i64 n1)) w.heap.size 58 [.int .u8 0,.int .i64 0,.slice none 0 0,.int .i64 0,.string ⟨#[]⟩,.string ⟨#[]⟩,.int .i64 0,.int .i64 0,.slice none 0 0,.int .i64 0,.int .i64 0,.int .i64 0]):=LH (HZ.out.far (b:=w1.heap.size) (o:=6) (by omega) (.int .i64 n1))
 have RD1:Hid (RdS w0 (v1_.setCell ⟨w1.heap.size,6,none⟩ (.int .i64 n1)) g l1 o1):=LH (RD.out.far (by omega))
 have FR1:Hid (FrG g w (v1_.setCell ⟨w1.heap.size,6,none⟩ (.int .i64 n1))):=LH (FR.out.set_ (Nat.le_of_lt gl) (by omega))
 have zs1:(v1_.setCell ⟨w1.heap.size,6,none⟩ (.int .i64 n1)).heap.size=v1_.heap.size:=by simp
 clear HC HZ RD FR
 have HC:=HC1
 have HZ:=HZ1
 have RD:=RD1
 have FR:=FR1
 clear HC1 HZ1 RD1 FR1
 go_upto_region 19 with fail
 generalize hW:(v1_.setCell ⟨w1.heap.size,6,none⟩ (.int .i64 n1))=W1 at HC HZ RD FR zs1 ⊢
 clear hW c0 c1 c2 c3 c4 c5 c6 c7 c8 c9 c10 c11 cz
 obtain ⟨⟨⟨c0,c1,c2,c3⟩,⟨c4,c5,c6,c7⟩,c8,c9,c10,c11⟩,cz⟩:=cells12 HC.out
 have sd1:=HC.out.lt
 obtain ⟨n2,hn2⟩:∃ n,n=nN l1:=⟨_,rfl⟩
 obtain ⟨l2,hl2⟩:∃ x,x=nL l1:=⟨_,rfl⟩
 obtain ⟨o2,ho2⟩:∃ x,x=nO l1 o1:=⟨_,rfl⟩
 have HN2:=LH hn2
 have HL2:=LH hl2
 have HO2:=LH ho2
 clear hn2 hl2 ho2
 go_wp2_with fail
 refine Calls.mono (numbers_any RD.out HN2.out HL2.out HO2.out) ?_
 rintro e v2_ ⟨rfl,hrd,hf⟩
 replace HC:=LH (HC.out.frG hf (by omega))
 replace HZ:=LH (HZ.out.frG hf (by omega))
 replace FR:=LH (FR.out.trans hf)
 replace RD:=LH hrd
 have z2:W1.heap.size≤v2_.heap.size:=hf.1.size
 clear hrd hf c0 c1 c2 c3 c4 c5 c6 c7 c8 c9 c10 c11 cz
 obtain ⟨⟨⟨c0,c1,c2,c3⟩,⟨c4,c5,c6,c7⟩,c8,c9,c10,c11⟩,cz⟩:=cells12 HC.out
 have sc2:=HC.out.lt
 have HC2:Hid (Blk (v2_.setCell ⟨w1.heap.size,9,none⟩ (.int .i64 n2)) w1.heap.size 58 [.int .u8 4,.int .i64 0,.slice none 0 0,.int .i64 0,.string ⟨#[]⟩,.string ⟨#[]⟩,.int .i64 n1,.int .i64 0,.slice none 0 0,.int .i64 n2,.int .i64 0,.int .i64 0]):=LH (HC.out.set_ 9 (.int .i64 n2))
 have HZ2:Hid (Blk (v2_.setCell ⟨w1.heap.size,9,none⟩ (.int .i64 n2)) w.heap.size 58 [.int .u8 0,.int .i64 0,.slice none 0 0,.int .i64 0,.string ⟨#[]⟩,.string ⟨#[]⟩,.int .i64 0,.int .i64 0,.slice none 0 0,.int .i64 0,.int .i64 0,.int .i64 0]):=LH (HZ.out.far (b:=w1.heap.size) (o:=9) (by omega) (.int .i64 n2))
 have RD2:Hid (RdS w0 (v2_.setCell ⟨w1.heap.size,9,none⟩ (.int .i64 n2)) g l2 o2):=LH (RD.out.far (by omega))
 have FR2:Hid (FrG g w (v2_.setCell ⟨w1.heap.size,9,none⟩ (.int .i64 n2))):=LH (FR.out.set_ (Nat.le_of_lt gl) (by omega))
 have zs2:(v2_.setCell ⟨w1.heap.size,9,none⟩ (.int .i64 n2)).heap.size=v2_.heap.size:=by simp
 clear HC HZ RD FR
 have HC:=HC2
 have HZ:=HZ2
 have RD:=RD2
 have FR:=FR2
 clear HC2 HZ2 RD2 FR2
 go_upto_region 20 with fail
 generalize hW:(v2_.setCell ⟨w1.heap.size,9,none⟩ (.int .i64 n2))=W2 at HC HZ RD FR zs2 ⊢
 clear hW c0 c1 c2 c3 c4 c5 c6 c7 c8 c9 c10 c11 cz
 obtain ⟨⟨⟨c0,c1,c2,c3⟩,⟨c4,c5,c6,c7⟩,c8,c9,c10,c11⟩,cz⟩:=cells12 HC.out
 have sd2:=HC.out.lt
 obtain ⟨n3,hn3⟩:∃ n,n=nN l2:=⟨_,rfl⟩
 obtain ⟨l3,hl3⟩:∃ x,x=nL l2:=⟨_,rfl⟩
 obtain ⟨o3,ho3⟩:∃ x,x=nO l2 o2:=⟨_,rfl⟩
 have HN3:=LH hn3
 have HL3:=LH hl3
 have HO3:=LH ho3
 clear hn3 hl3 ho3
 go_wp2_with fail
 refine Calls.mono (numbers_any RD.out HN3.out HL3.out HO3.out) ?_
 rintro e v3_ ⟨rfl,hrd,hf⟩
 replace HC:=LH (HC.out.frG hf (by omega))
 replace HZ:=LH (HZ.out.frG hf (by omega))
 replace FR:=LH (FR.out.trans hf)
 replace RD:=LH hrd
 have z3:W2.heap.size≤v3_.heap.size:=hf.1.size
 clear hrd hf c0 c1 c2 c3 c4 c5 c6 c7 c8 c9 c10 c11 cz
 obtain ⟨⟨⟨c0,c1,c2,c3⟩,⟨c4,c5,c6,c7⟩,c8,c9,c10,c11⟩,cz⟩:=cells12 HC.out
 have sc3:=HC.out.lt
 have HC3:Hid (Blk (v3_.setCell ⟨w1.heap.size,10,none⟩ (.int .i64 n3)) w1.heap.size 58 [.int .u8 4,.int .i64 0,.slice none 0 0,.int .i64 0,.string ⟨#[]⟩,.string ⟨#[]⟩,.int .i64 n1,.int .i64 0,.slice none 0 0,.int .i64 n2,.int .i64 n3,.int .i64 0]):=LH (HC.out.set_ 10 (.int .i64 n3))
 have HZ3:Hid (Blk (v3_.setCell ⟨w1.heap.size,10,none⟩ (.int .i64 n3)) w.heap.size 58 [.int .u8 0,.int .i64 0,.slice none 0 0,.int .i64 0,.string ⟨#[]⟩,.string ⟨#[]⟩,.int .i64 0,.int .i64 0,.slice none 0 0,.int .i64 0,.int .i64 0,.int .i64 0]):=LH (HZ.out.far (b:=w1.heap.size) (o:=10) (by omega) (.int .i64 n3))
 have RD3:Hid (RdS w0 (v3_.setCell ⟨w1.heap.size,10,none⟩ (.int .i64 n3)) g l3 o3):=LH (RD.out.far (by omega))
 have FR3:Hid (FrG g w (v3_.setCell ⟨w1.heap.size,10,none⟩ (.int .i64 n3))):=LH (FR.out.set_ (Nat.le_of_lt gl) (by omega))
 have zs3:(v3_.setCell ⟨w1.heap.size,10,none⟩ (.int .i64 n3)).heap.size=v3_.heap.size:=by simp
 clear HC HZ RD FR
 have HC:=HC3
 have HZ:=HZ3
 have RD:=RD3
 have FR:=FR3
 clear HC3 HZ3 RD3 FR3
 go_upto_region 22 with fail
 generalize hW:(v3_.setCell ⟨w1.heap.size,10,none⟩ (.int .i64 n3))=W3 at HC HZ RD FR zs3 ⊢
 clear hW c0 c1 c2 c3 c4 c5 c6 c7 c8 c9 c10 c11 cz
 obtain ⟨⟨⟨c0,c1,c2,c3⟩,⟨c4,c5,c6,c7⟩,c8,c9,c10,c11⟩,cz⟩:=cells12 HC.out
 have sd3:=HC.out.lt
 obtain ⟨n4,hn4⟩:∃ n,n=nN l3:=⟨_,rfl⟩
 obtain ⟨l4,hl4⟩:∃ x,x=nL l3:=⟨_,rfl⟩
 obtain ⟨o4,ho4⟩:∃ x,x=nO l3 o3:=⟨_,rfl⟩
 have HN4:=LH hn4
 have HL4:=LH hl4
 have HO4:=LH ho4
 clear hn4 hl4 ho4
 go_wp2_with fail
 refine Calls.mono (numbers_any RD.out HN4.out HL4.out HO4.out) ?_
 rintro e v4_ ⟨rfl,hrd,hf⟩
 replace HC:=LH (HC.out.frG hf (by omega))
 replace HZ:=LH (HZ.out.frG hf (by omega))
 replace FR:=LH (FR.out.trans hf)
 replace RD:=LH hrd
 have z4:W3.heap.size≤v4_.heap.size:=hf.1.size
 clear hrd hf c0 c1 c2 c3 c4 c5 c6 c7 c8 c9 c10 c11 cz
 obtain ⟨⟨⟨c0,c1,c2,c3⟩,⟨c4,c5,c6,c7⟩,c8,c9,c10,c11⟩,cz⟩:=cells12 HC.out
 have sc4:=HC.out.lt
 have HC4:Hid (Blk (v4_.setCell ⟨w1.heap.size,11,none⟩ (.int .i64 n4)) w1.heap.size 58 [.int .u8 4,.int .i64 0,.slice none 0 0,.int .i64 0,.string ⟨#[]⟩,.string ⟨#[]⟩,.int .i64 n1,.int .i64 0,.slice none 0 0,.int .i64 n2,.int .i64 n3,.int .i64 n4]):=LH (HC.out.set_ 11 (.int .i64 n4))
 have HZ4:Hid (Blk (v4_.setCell ⟨w1.heap.size,11,none⟩ (.int .i64 n4)) w.heap.size 58 [.int .u8 0,.int .i64 0,.slice none 0 0,.int .i64 0,.string ⟨#[]⟩,.string ⟨#[]⟩,.int .i64 0,.int .i64 0,.slice none 0 0,.int .i64 0,.int .i64 0,.int .i64 0]):=LH (HZ.out.far (b:=w1.heap.size) (o:=11) (by omega) (.int .i64 n4))
 have RD4:Hid (RdS w0 (v4_.setCell ⟨w1.heap.size,11,none⟩ (.int .i64 n4)) g l4 o4):=LH (RD.out.far (by omega))
 have FR4:Hid (FrG g w (v4_.setCell ⟨w1.heap.size,11,none⟩ (.int .i64 n4))):=LH (FR.out.set_ (Nat.le_of_lt gl) (by omega))
 have zs4:(v4_.setCell ⟨w1.heap.size,11,none⟩ (.int .i64 n4)).heap.size=v4_.heap.size:=by simp
 clear HC HZ RD FR
 have HC:=HC4
 have HZ:=HZ4
 have RD:=RD4
 have FR:=FR4
 clear HC4 HZ4 RD4 FR4
 go_upto_region 23 with fail
 generalize hW:(v4_.setCell ⟨w1.heap.size,11,none⟩ (.int .i64 n4))=W4 at HC HZ RD FR zs4 ⊢
 clear hW c0 c1 c2 c3 c4 c5 c6 c7 c8 c9 c10 c11 cz
 obtain ⟨⟨⟨c0,c1,c2,c3⟩,⟨c4,c5,c6,c7⟩,c8,c9,c10,c11⟩,cz⟩:=cells12 HC.out
 have sd4:=HC.out.lt
 have hfin:=HR.out
 rw [show rd4 l0 o0=(⟨4,default,n1,0,[],n2,n3,n4⟩,l4,o4) by rw [HO4.out,HL4.out,HN4.out,HO3.out,HL3.out,HN3.out,HO2.out,HL2.out,HN2.out,HO1.out,HL1.out,HN1.out];rfl] at hfin
 cases hfin
 obtain ⟨⟨⟨e0,e1,e2,e3⟩,⟨e4,e5,e6,e7⟩,e8,e9,e10,e11⟩,ez⟩:=cells12 HZ.out
 have el:=HZ.out.lt
 go_wp2_with fail
 obtain ⟨⟨⟨t0,t1_,t2,t3⟩,⟨t4,t5,t6,t7⟩,t8,t9,t10,t11⟩,-⟩:=cells12 (blk_put12 HZ.out (.int .u8 4) (.int .i64 0) (.slice none 0 0) (.int .i64 0) (.string ⟨#[]⟩) (.string ⟨#[]⟩) (.int .i64 n1) (.int .i64 0) (.slice none 0 0) (.int .i64 n2) (.int .i64 n3) (.int .i64 n4))
 exact bodyPost_ret (v:=.agg #[.int .u8 4,.int .i64 0,.slice none 0 0,.int .i64 0,.string ⟨#[]⟩,.string ⟨#[]⟩,.int .i64 n1,.int .i64 0,.slice none 0 0,.int .i64 n2,.int .i64 n3,.int .i64 n4]) (by simp [results,Tryz.results62,go_sem,t0,t1_,t2,t3,t4,t5,t6,t7,t8,t9,t10,t11]) rfl ⟨_,rfl,⟨none,0,none,0,rfl,ownI_nil _ _,ownI_nil _ _⟩,((((((((((((RD.out.far (b:=w.heap.size) (o:=0) (v:=.int .u8 4) gl).far (b:=w.heap.size) (o:=1) (v:=.int .i64 0) gl).far (b:=w.heap.size) (o:=2) (v:=.slice none 0 0) gl).far (b:=w.heap.size) (o:=3) (v:=.int .i64 0) gl).far (b:=w.heap.size) (o:=4) (v:=.string ⟨#[]⟩) gl).far (b:=w.heap.size) (o:=5) (v:=.string ⟨#[]⟩) gl).far (b:=w.heap.size) (o:=6) (v:=.int .i64 n1) gl).far (b:=w.heap.size) (o:=7) (v:=.int .i64 0) gl).far (b:=w.heap.size) (o:=8) (v:=.slice none 0 0) gl).far (b:=w.heap.size) (o:=9) (v:=.int .i64 n2) gl).far (b:=w.heap.size) (o:=10) (v:=.int .i64 n3) gl).far (b:=w.heap.size) (o:=11) (v:=.int .i64 n4) gl),((((((((((((FR.out.set_ (b:=w.heap.size) (o:=0) (v:=.int .u8 4) (Nat.le_of_lt gl) (Nat.le_refl _)).set_ (b:=w.heap.size) (o:=1) (v:=.int .i64 0) (Nat.le_of_lt gl) (Nat.le_refl _)).set_ (b:=w.heap.size) (o:=2) (v:=.slice none 0 0) (Nat.le_of_lt gl) (Nat.le_refl _)).set_ (b:=w.heap.size) (o:=3) (v:=.int .i64 0) (Nat.le_of_lt gl) (Nat.le_refl _)).set_ (b:=w.heap.size) (o:=4) (v:=.string ⟨#[]⟩) (Nat.le_of_lt gl) (Nat.le_refl _)).set_ (b:=w.heap.size) (o:=5) (v:=.string ⟨#[]⟩) (Nat.le_of_lt gl) (Nat.le_refl _)).set_ (b:=w.heap.size) (o:=6) (v:=.int .i64 n1) (Nat.le_of_lt gl) (Nat.le_refl _)).set_ (b:=w.heap.size) (o:=7) (v:=.int .i64 0) (Nat.le_of_lt gl) (Nat.le_refl _)).set_ (b:=w.heap.size) (o:=8) (v:=.slice none 0 0) (Nat.le_of_lt gl) (Nat.le_refl _)).set_ (b:=w.heap.size) (o:=9) (v:=.int .i64 n2) (Nat.le_of_lt gl) (Nat.le_refl _)).set_ (b:=w.heap.size) (o:=10) (v:=.int .i64 n3) (Nat.le_of_lt gl) (Nat.le_refl _)).set_ (b:=w.heap.size) (o:=11) (v:=.int .i64 n4) (Nat.le_of_lt gl) (Nat.le_refl _))⟩
end Go.Proofs.YtkkohllhebdlcaaGreatDoor
