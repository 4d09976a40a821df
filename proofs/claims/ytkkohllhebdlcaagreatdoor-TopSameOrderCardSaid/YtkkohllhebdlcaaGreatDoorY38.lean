/-
  Proved here: (*group.home).onTopic. Conditions: the id is a message's; the group is skeen.New, group.New: a group at its beginning. No condition. order.times' function: it keeps the times that are given. No condition A table of all groups' times, in memory and plain. No program in sight
-/
import Derived.Test.YtkkohllhebdlcaaGreatDoorY35
import Derived.Test.YtkkohllhebdlcaaGreatDoorY37
set_option maxRecDepth 100000
namespace Go.Proofs.YtkkohllhebdlcaaGreatDoor
open Go.RowKit
theorem cells6 {w:World} {g:Nat} {t:TypeId} {a b c d e f:Value} (hb:Blk w g t [a,b,c,d,e,f]) :
  (w.cell? ⟨g,0,none⟩=some a∧w.cell? ⟨g,1,none⟩=some b∧w.cell? ⟨g,2,none⟩=some c)∧(w.cell? ⟨g,3,none⟩=some d∧w.cell? ⟨g,4,none⟩=some e∧w.cell? ⟨g,5,none⟩=some f)∧∀ o,w.frozen? ⟨g,o,none⟩=false :=
 ⟨⟨hb.cell 0,hb.cell 1,hb.cell 2⟩,⟨hb.cell 3,hb.cell 4,hb.cell 5⟩,hb.free⟩
theorem rowQ_get {l:List Int} {i:Nat} (h:i < l.length):(rowVals l)[i]?=some (.int .i64 (l.getD i 0)):=by
 simp [rowVals,List.getD,h]
theorem rowQ_set {l:List Int} {i:Nat} {n:Int}:(rowVals l).set i (.int .i64 n)=rowVals (l.set i n):=by
 simp [rowVals,List.map_set]
theorem at_boxD {P:Program} {f:FuncId} {args:Array Value} {Q:Ending→World→Prop} {w:World} {t:TypeId} {x y:Value} (k:Blk (w.alloc (.cells #[x,y] t)).drew w.heap.size t [x,y]→Calls P f args (w.alloc (.cells #[x,y] t)).drew Q):Calls P f args (w.alloc (.cells #[x,y] t)).drew Q:=k (Blk.new (w:=w) (t:=t) (cs:=[x,y]) rfl)
theorem OwnS.box2 {w:World} {B g:Nat} {v p q:Value} {s:Str} {cs:List Value} (h:OwnS w B v s) (hb:Blk w g 36 cs):OwnS ((w.setCell ⟨g,0,none⟩ p).setCell ⟨g,1,none⟩ q) B v s:=by
 have hh:∀ k,k≠g→((w.setCell ⟨g,0,none⟩ p).setCell ⟨g,1,none⟩ q).heap[k]?=w.heap[k]?:=fun k hk=>(heap_set _ _ _ _ k hk).trans (heap_set _ _ _ _ k hk)
 obtain ⟨ta,tc,h1,⟨pl,e1,e2,e3⟩,⟨us,c1,c2,c3,c4⟩⟩:=h
 exact ⟨ta,tc,h1,⟨pl,e1,row_far e2 hh (row_blk e2 hb (by decide)),fun p hp=>row_far (e3 p hp) hh (row_blk (e3 p hp) hb (by decide))⟩,⟨us,row_far c1 hh (row_blk c1 hb (by decide)),c2,fun i hi=>row_far (c3 i hi) hh (row_blk (c3 i hi) hb (by decide)),c4⟩⟩
def TopEnd (w0:World) (g b:Nat) (s:Gs) (w:World) (e:Ending) (w':World):Prop:=e=.returned (.tuple #[])∧HomeAt w' g b s∧Kp g b w w'∧Below w0.heap.size w0 w'
set_option maxHeartbeats 8000000 in
set_option maxRecDepth 100000 in
theorem onTop_any {w0 w:World} {g b:Nat} {s:Gs} {c:PC} {cv:Value} (h:HomeAt w g b s) (hk:OkG s) (h0:Below w0.heap.size w0 w) (hg:w0.heap.size≤g) (hb:w0.heap.size≤b) (hc:ComR w cv c) (hi0:0≤c.id) (hi1:c.id < 6291456) :
  Calls Tryz.prog 41 #[.pointer (some ⟨g,0,none⟩),cv] w (TopEnd w0 g b ⟨s.sk,(onTopM c s.last s.m).2,(onTopM c s.last s.m).1⟩ w):=by
 obtain ⟨wv,dv,ta,tc,h1,h2,h3,h4,h5⟩:=h
 obtain ⟨ma,mc,mb,bc,rfl,-,-⟩:=hc
 have HB:=LH h0
 have HQ:=LH h1
 have HL:=LH h2
 have S1:=LH h4
 have S2:=LH h5
 have HM:=LH hk.may
 have HLO:=LH hk.low
 have h6:=hk.six
 obtain ⟨sk,m,last⟩:=s
 obtain ⟨kd,⟨i1,gl,t1,k1,bo⟩,ci,ct,ml,cp,cw,cn⟩:=c
 simp only at HQ HL S1 S2 HM HLO h6 hi0 hi1 ⊢
 obtain ⟨gn,hgn⟩:∃ gn,gn=gl.length:=⟨_,rfl⟩
 obtain ⟨mn,hmn⟩:∃ mn,mn=ml.length:=⟨_,rfl⟩
 rw [← hgn,← hmn]
 obtain ⟨ck,hck⟩:∃ ck,ck=sk.clock:=⟨_,rfl⟩
 have HCK:=LH hck
 rw [← hck] at HQ S1
 obtain ⟨sd,hsd⟩:∃ sd:Nat,ci / 1048576=(sd:Int):=⟨(ci / 1048576).toNat,by omega⟩
 have hsd6:sd < 6:=by omega
 obtain ⟨nn,hnn⟩:∃ nn,nn=ci % 1048576:=⟨_,rfl⟩
 have hn0:0≤nn:=by omega
 have hn1:nn < 1048576:=by omega
 obtain ⟨y,hy⟩:∃ y,y=last.getD sd 0:=⟨_,rfl⟩
 obtain ⟨D,hD⟩:∃ D,D=doM m kd cp cw cn:=⟨_,rfl⟩
 have KS:Hid (∀ W,Calls Tryz.prog 65 #[.int .i64 ci] W fun e W'=>e=.returned (.tuple #[.int .i64 (sd:Int),.int .i64 nn,.int .i64 0])∧W=W'):=fun W=>by
  have:=stamp_of_yes ci W hi0 hi1
  rw [hsd,← hnn] at this
  exact this
 have HE:Hid (onTopM ⟨kd,⟨i1,gl,t1,k1,bo⟩,ci,ct,ml,cp,cw,cn⟩ last m=if nn < y then (last,m) else (last.set sd (nn+1),if D.2=0 then D.1 else m)):=by
  rw [onTopM]
  simp only [hsd,Int.toNat_natCast,← hnn,← hy,← hD]
  first|exact LH trivial|exact LH rfl
 obtain ⟨u,x⟩:=D
 obtain ⟨hd1,hd2⟩:=doM_str HM.out hD.symm
 obtain ⟨U,hU⟩:∃ U,U=if x=0 then streamM u else Str.zero:=⟨_,rfl⟩
 have HU:=LH hU
 rw [← hU] at hd1
 have KD:Hid (∀ W,StrR W (.agg #[ta,tc]) (streamM m)→Calls Tryz.prog 66 #[.agg #[ta,tc],.agg #[.int .u8 kd,.int .i64 i1,.slice ma gn mc,.int .i64 t1,.string k1,.string bo,.int .i64 ci,.int .i64 ct,.slice mb mn bc,.int .i64 cp,.int .i64 cw,.int .i64 cn]] W fun e W'=>∃ a4 n4 c4 b4 m4 d4,e=.returned (.tuple #[.agg #[.slice a4 n4 c4,.slice b4 m4 d4],.int .i64 x])∧OwnS W' W.heap.size (.agg #[.slice a4 n4 c4,.slice b4 m4 d4]) U∧Below W.heap.size W W'):=fun W hW =>
  (strDo_any cp cw cn hW (keysS_of_may (mayM_str HM.out)) hd1).mono fun e W' ⟨ta',tc',he,ho,hb⟩=>by
   obtain ⟨a4,c4,b4,m4,d4,ev,-,-⟩:=ho.reads.shape
   rw [ev] at ho he
   exact ⟨a4,_,c4,b4,m4,d4,he,ho,hb⟩
 have hyc:(rowVals last)[sd]?=some (.int .i64 y):=by rw [hy];exact rowQ_get (by omega)
 have ly:=HL.out.cell sd
 rw [hyc] at ly
 have HGB:=LH h3
 have gl1:=HQ.out.lt
 have bl1:=HL.out.lt
 clear hU h1 h2 h4 h5 hk hgn hmn hck hsd hnn hy hD hd1 hd2 hyc hi0 hi1 h0 h6
 go_enter Tryz.func41,Tryz.ntmps41
 go_wp2_with fail
 refine (KS.out _).mono ?_
 rintro e w1 ⟨rfl,rfl⟩
 have hB0:Below w.heap.size w (w.alloc (.cells #[.int .u8 kd,.int .i64 i1,.slice ma gn mc,.int .i64 t1,.string k1,.string bo,.int .i64 ci,.int .i64 ct,.slice mb mn bc,.int .i64 cp,.int .i64 cw,.int .i64 cn] 58)):=(Below.refl _ _).alloc (Nat.le_refl _) _
 have HC:Hid (Blk (w.alloc (.cells #[.int .u8 kd,.int .i64 i1,.slice ma gn mc,.int .i64 t1,.string k1,.string bo,.int .i64 ci,.int .i64 ct,.slice mb mn bc,.int .i64 cp,.int .i64 cw,.int .i64 cn] 58)) w.heap.size 58 [.int .u8 kd,.int .i64 i1,.slice ma gn mc,.int .i64 t1,.string k1,.string bo,.int .i64 ci,.int .i64 ct,.slice mb mn bc,.int .i64 cp,.int .i64 cw,.int .i64 cn]):=LH (Blk.new rfl)
 have HQ1:=LH (HQ.out.step hB0)
 have HL1:=LH (HL.out.step hB0)
 have ly1:=keep hB0 ly
 have K1:=LH (Kp.below (g:=g) (b:=b) hB0)
 have HB1:=LH (Below.step HB.out hB0 HB.out.size)
 clear hB0 ly
 generalize w.alloc (.cells #[.int .u8 kd,.int .i64 i1,.slice ma gn mc,.int .i64 t1,.string k1,.string bo,.int .i64 ci,.int .i64 ct,.slice mb mn bc,.int .i64 cp,.int .i64 cw,.int .i64 cn] 58)=w1 at HC HQ1 HL1 ly1 K1 HB1 ⊢
 obtain ⟨⟨q0,q1,q2⟩,⟨q3,q4,q5⟩,qz⟩:=cells6 HQ1.out
 have gl2:=HQ1.out.lt
 have bl2:=HL1.out.lt
 have cl2:=HC.out.lt
 have s0:(0:Int)≤(sd:Int):=by omega
 have s6:(sd:Int) < 6:=by omega
 by_cases hlt:nn < y
 ·have HE2:=LH (show onTopM ⟨kd,⟨i1,gl,t1,k1,bo⟩,ci,ct,ml,cp,cw,cn⟩ last m=(last,m) by rw [HE.out,if_pos hlt])
  clear HE
  go_wp2_with fail
  refine bodyPost_ret (v:=.tuple #[]) (by simp [results,Tryz.results41,go_sem]) rfl ⟨rfl,?_,K1.out,HB1.out⟩
  rw [HE2.out]
  exact ⟨wv,dv,ta,tc,by rw [← HCK.out];exact HQ1.out,HL1.out,HGB.out,by rw [← HCK.out];exact S1.out.go K1.out,S2.out.go K1.out⟩
 have HE2:=LH (show onTopM ⟨kd,⟨i1,gl,t1,k1,bo⟩,ci,ct,ml,cp,cw,cn⟩ last m=(last.set sd (nn+1),if x=0 then u else m) by rw [HE.out,if_neg hlt])
 have hw1:IntKind.i64.wrap (nn+1)=nn+1:=by rw [IntKind.wrap_i64];omega
 have lz:=HL1.out.free sd
 clear HE
 go_wp2_with fail
 have HQ2:Hid (Blk (w1.setCell ⟨b,sd,none⟩ (.int .i64 (nn+1))) g 80 [.int .i64 ck,wv,dv,ta,tc,.slice (some ⟨b,0,none⟩) 6 6]):=LH (HQ1.out.far HGB.out _)
 have HL2:Hid (Blk (w1.setCell ⟨b,sd,none⟩ (.int .i64 (nn+1))) b 3 (rowVals (last.set sd (nn+1)))):=by rw [← rowQ_set];exact LH (HL1.out.set_ sd _)
 have HC2:=LH (HC.out.far (b:=b) (o:=sd) (by omega) (.int .i64 (nn+1)))
 have K2:Hid (Kp g b w (w1.setCell ⟨b,sd,none⟩ (.int .i64 (nn+1)))):=LH (K1.out.trans Kp.set2)
 have HB2:Hid (Below w0.heap.size w0 (w1.setCell ⟨b,sd,none⟩ (.int .i64 (nn+1)))):=LH (HB1.out.setCell hb _)
 clear q0 q1 q2 q3 q4 q5 qz HQ1 HL1 HC K1 HB1 ly1 lz
 generalize w1.setCell ⟨b,sd,none⟩ (.int .i64 (nn+1))=w2 at HQ2 HL2 HC2 K2 HB2 ⊢
 obtain ⟨⟨q0,q1,q2⟩,⟨q3,q4,q5⟩,qz⟩:=cells6 HQ2.out
 obtain ⟨⟨⟨p0,p1,p2,p3⟩,⟨p4,p5,p6,p7⟩,p8,p9,p10,p11⟩,pz⟩:=cells12 HC2.out
 have gl3:=HQ2.out.lt
 have cl3:=HC2.out.lt
 have bl3:=HL2.out.lt
 have S12:=LH (S1.out.go K2.out)
 have S22:=LH (S2.out.go K2.out)
 go_region_law (first
  |(go_simp;go_at_call 66;(first|refine at_box fun HT=>?_|refine at_boxD fun HT=>?_);refine (KD.out _ (S22.out _ (Kw.below (by repeat (first|with_reducible (first|exact Below.refl _ _|apply Below.drew|apply below_alloc)|((first|with_reducible refine Below.alloc ?_ ?_ _|with_reducible refine Below.setCell ?_ ?_ _);rotate_left;focus (first|(simp <;> omega)|omega))))))).mono ?_;rintro e w4 ⟨a4,n4,c4,b4,m4,d4,rfl,os,hb⟩;have HX4:Hid (Below w2.heap.size w2 w4):=below_step (by repeat (first|with_reducible (first|exact Below.refl _ _|apply Below.drew|apply below_alloc)|((first|with_reducible refine Below.alloc ?_ ?_ _|with_reducible refine Below.setCell ?_ ?_ _);rotate_left;focus (first|(simp <;> omega)|omega)))) hb;have OS:Hid (OwnS w4 w2.heap.size (.agg #[.slice a4 n4 c4,.slice b4 m4 d4]) _):=LH (OwnS.le os (by simp));have HQ4:=LH (HQ2.out.step HX4.out);obtain ⟨⟨u0,u1,u2⟩,⟨u3,u4,u5⟩,uz⟩:=cells6 HQ4.out;have sl4:=HX4.out.size;have HT4:Blk w4 w2.heap.size 36 [.slice none 0 0,.slice none 0 0]:=HT.step hb;obtain ⟨v0,v1,vz⟩:=cells2 HT4;have vl:=HT4.lt;have HTT:=LH HT4;clear hb os HT HT4)
  |(go_simp;go_at_call 66;refine (KD.out _ (S22.out _ (Kw.below (by repeat (first|with_reducible (first|exact Below.refl _ _|apply Below.drew|apply below_alloc)|((first|with_reducible refine Below.alloc ?_ ?_ _|with_reducible refine Below.setCell ?_ ?_ _);rotate_left;focus (first|(simp <;> omega)|omega))))))).mono ?_;rintro e w4 ⟨a4,n4,c4,b4,m4,d4,rfl,os,hb⟩;have HX4:Hid (Below w2.heap.size w2 w4):=below_step (by repeat (first|with_reducible (first|exact Below.refl _ _|apply Below.drew|apply below_alloc)|((first|with_reducible refine Below.alloc ?_ ?_ _|with_reducible refine Below.setCell ?_ ?_ _);rotate_left;focus (first|(simp <;> omega)|omega)))) hb;have OS:Hid (OwnS w4 w2.heap.size (.agg #[.slice a4 n4 c4,.slice b4 m4 d4]) _):=LH (OwnS.le os (by simp));have HQ4:=LH (HQ2.out.step HX4.out);obtain ⟨⟨u0,u1,u2⟩,⟨u3,u4,u5⟩,uz⟩:=cells6 HQ4.out;have sl4:=HX4.out.size;clear hb os))
 all_goals
  first
   |(show Exit.then _ _ _ _ (w4.alloc (.cells #[.slice a4 n4 c4,.slice b4 m4 d4] 36))
     have HX5:Hid (Below w2.heap.size w2 (w4.alloc (.cells #[.slice a4 n4 c4,.slice b4 m4 d4] 36))):=LH (HX4.out.alloc HX4.out.size _)
     have HQ5:Hid (Blk (w4.alloc (.cells #[.slice a4 n4 c4,.slice b4 m4 d4] 36)) g 80 [.int .i64 ck,wv,dv,ta,tc,.slice (some ⟨b,0,none⟩) 6 6]):=LH (HQ2.out.step HX5.out)
     have HL5:Hid (Blk (w4.alloc (.cells #[.slice a4 n4 c4,.slice b4 m4 d4] 36)) b 3 (rowVals (last.set sd (nn+1)))):=LH (HL2.out.step HX5.out)
     have OS5:Hid (OwnS (w4.alloc (.cells #[.slice a4 n4 c4,.slice b4 m4 d4] 36)) w2.heap.size (.agg #[.slice a4 n4 c4,.slice b4 m4 d4]) U):=LH (OS.out.keep ((Below.refl _ _).alloc (Nat.le_refl _) _))
     have HT5:Hid (Blk (w4.alloc (.cells #[.slice a4 n4 c4,.slice b4 m4 d4] 36)) w4.heap.size 36 [.slice a4 n4 c4,.slice b4 m4 d4]):=LH (Blk.new rfl)
     clear HX4 HQ4 OS
     try clear HTT
     try clear v0 v1 vz vl
     clear u0 u1 u2 u3 u4 u5 uz
     generalize (w4.alloc (.cells #[.slice a4 n4 c4,.slice b4 m4 d4] 36))=w5 at HX5 HQ5 HL5 OS5 HT5 ⊢
     obtain ⟨⟨u0,u1,u2⟩,⟨u3,u4,u5⟩,uz⟩:=cells6 HQ5.out
     obtain ⟨v0,v1,vz⟩:=cells2 HT5.out
     have vl:=HT5.out.lt
     have ul:=HQ5.out.lt         )
   |(show Exit.then _ _ _ _ ((w4.setCell ⟨w2.heap.size,0,none⟩ (.slice a4 n4 c4)).setCell ⟨w2.heap.size,1,none⟩ (.slice b4 m4 d4))
     have HX5:Hid (Below w2.heap.size w2 ((w4.setCell ⟨w2.heap.size,0,none⟩ (.slice a4 n4 c4)).setCell ⟨w2.heap.size,1,none⟩ (.slice b4 m4 d4))):=LH ((HX4.out.setCell (Nat.le_refl _) _).setCell (Nat.le_refl _) _)
     have HQ5:Hid (Blk ((w4.setCell ⟨w2.heap.size,0,none⟩ (.slice a4 n4 c4)).setCell ⟨w2.heap.size,1,none⟩ (.slice b4 m4 d4)) g 80 [.int .i64 ck,wv,dv,ta,tc,.slice (some ⟨b,0,none⟩) 6 6]):=LH (HQ2.out.step HX5.out)
     have HL5:Hid (Blk ((w4.setCell ⟨w2.heap.size,0,none⟩ (.slice a4 n4 c4)).setCell ⟨w2.heap.size,1,none⟩ (.slice b4 m4 d4)) b 3 (rowVals (last.set sd (nn+1)))):=LH (HL2.out.step HX5.out)
     have OS5:Hid (OwnS ((w4.setCell ⟨w2.heap.size,0,none⟩ (.slice a4 n4 c4)).setCell ⟨w2.heap.size,1,none⟩ (.slice b4 m4 d4)) w2.heap.size (.agg #[.slice a4 n4 c4,.slice b4 m4 d4]) U):=LH (OS.out.box2 HTT.out)
     have HT5:Hid (Blk ((w4.setCell ⟨w2.heap.size,0,none⟩ (.slice a4 n4 c4)).setCell ⟨w2.heap.size,1,none⟩ (.slice b4 m4 d4)) w2.heap.size 36 [.slice a4 n4 c4,.slice b4 m4 d4]):=LH ((HTT.out.set_ 0 _).set_ 1 _)
     clear HX4 HQ4 OS
     try clear HTT
     try clear v0 v1 vz vl
     clear u0 u1 u2 u3 u4 u5 uz
     generalize ((w4.setCell ⟨w2.heap.size,0,none⟩ (.slice a4 n4 c4)).setCell ⟨w2.heap.size,1,none⟩ (.slice b4 m4 d4))=w5 at HX5 HQ5 HL5 OS5 HT5 ⊢
     obtain ⟨⟨u0,u1,u2⟩,⟨u3,u4,u5⟩,uz⟩:=cells6 HQ5.out
     obtain ⟨v0,v1,vz⟩:=cells2 HT5.out
     have vl:=HT5.out.lt
     have ul:=HQ5.out.lt         )
 all_goals
  by_cases hx:x=0
  ·have hxb:(x == 0)=true:=by simpa using hx
   have HE3:=LH (show onTopM ⟨kd,⟨i1,gl,t1,k1,bo⟩,ci,ct,ml,cp,cw,cn⟩ last m=(last.set sd (nn+1),u) by rw [HE2.out,if_pos hx])
   have HU2:=LH (show U=streamM u by rw [HU.out,if_pos hx])
   clear hx HE2
   go_wp2_with fail
   refine bodyPost_end (v:=.tuple #[]) (by simp [results,Tryz.results41,go_sem]) rfl ⟨rfl,?_,?_,?_⟩
   ·rw [HE3.out]
    have hfar:∀ k,k≠g→((w5.setCell ⟨g,3,none⟩ (.slice a4 n4 c4)).setCell ⟨g,4,none⟩ (.slice b4 m4 d4)).heap[k]?=w5.heap[k]?:=fun k hk=>(heap_set _ _ _ _ k hk).trans (heap_set _ _ _ _ k hk)
    have kf:Kp g b w2 ((w5.setCell ⟨g,3,none⟩ (.slice a4 n4 c4)).setCell ⟨g,4,none⟩ (.slice b4 m4 d4)):=((Kp.below HX5.out).trans Kp.set1).trans Kp.set1
    have os:=OwnS.agree OS5.out (fun k hk _=>hfar k (by omega))
    refine ⟨wv,dv,.slice a4 n4 c4,.slice b4 m4 d4,by rw [← HCK.out];exact (HQ5.out.set_ 3 _).set_ 4 _,(HL5.out.far (fun e=>HGB.out e.symm) _).far (fun e=>HGB.out e.symm) _,HGB.out,by rw [← HCK.out];exact S12.out.go kf,?_⟩
    rw [← HU2.out]
    exact Stab.st os gl3 bl3
   ·exact (K2.out.trans (Kp.below HX5.out)).trans (Kp.set1.trans Kp.set1)
   ·exact ((Below.step HB2.out HX5.out HB2.out.size).setCell hg _).setCell hg _
  ·have hxb:(x == 0)=false:=by simpa using hx
   have HE3:=LH (show onTopM ⟨kd,⟨i1,gl,t1,k1,bo⟩,ci,ct,ml,cp,cw,cn⟩ last m=(last.set sd (nn+1),m) by rw [HE2.out,if_neg hx])
   clear hx HE2
   go_wp2_with fail
   refine bodyPost_end (v:=.tuple #[]) (by simp [results,Tryz.results41,go_sem]) rfl ⟨rfl,?_,K2.out.trans (Kp.below HX5.out),Below.step HB2.out HX5.out HB2.out.size⟩
   rw [HE3.out]
   exact ⟨wv,dv,ta,tc,by rw [← HCK.out];exact HQ5.out,HL5.out,HGB.out,by rw [← HCK.out];exact S12.out.go (Kp.below HX5.out),S22.out.go (Kp.below HX5.out)⟩
theorem skNew_any (w:World):Calls Tryz.prog 29 #[] w fun e w'=>e=.returned (.agg #[.int .i64 0,.slice none 0 0,.slice none 0 0])∧Below w.heap.size w w':=by
 go_enter Tryz.func29,Tryz.ntmps29
 go_wp2_with fail
 refine bodyPost_ret (v:=.agg #[.int .i64 0,.slice none 0 0,.slice none 0 0]) (by simp [results,Tryz.results29,go_sem]) rfl ⟨rfl,?_⟩
 repeat (first|with_reducible (first|exact Below.refl _ _|apply Below.drew|apply below_alloc)|((first|with_reducible refine Below.alloc ?_ ?_ _|with_reducible refine Below.setCell ?_ ?_ _);rotate_left;focus (first|(simp <;> omega)|omega)))
def z6:List Int:=[0,0,0,0,0,0]
theorem info_int6:(Tryz.prog.info? 3).map (fun i=>(i.zero,i.size,i.bytes))=some (some (.int .i64 0),1,8):=by kernel_rfl
theorem make_int6:∀ w:World,Sem.run Tryz.prog (Instr.makeSlice 37 (.int .i64 6) (.int .i64 6)) w=.ok (.slice (some ⟨w.heap.size,0,none⟩) 6 6) (w.alloc (.cells #[.int .i64 0,.int .i64 0,.int .i64 0,.int .i64 0,.int .i64 0,.int .i64 0] 3)):=by
 obtain ⟨i0,hi,hz0,hz1,hz2⟩:=info_parts info_int6
 intro w
 have h:=run_make (P:=Tryz.prog) w 37 3 i0 _ Tryz.underlying37 hi hz0 .i64 .i64 6 6 (by omega) (by omega) (by rw [hz2];decide) (by omega)
 rw [hz1] at h
 have e:madeCells (Value.int .i64 0).cells (6 * 1)=#[.int .i64 0,.int .i64 0,.int .i64 0,.int .i64 0,.int .i64 0,.int .i64 0]:=by
  unfold madeCells
  apply Array.ext'
  rw [Array.toList_map,Array.toList_range]
  rfl
 rw [show Int.toNat 6=6 from rfl,e] at h
 exact h
theorem set6_far {w:World} {g:Nat} {p q r s t u:Value}:∀ k,k≠g→((((((w.setCell ⟨g,0,none⟩ p).setCell ⟨g,1,none⟩ q).setCell ⟨g,2,none⟩ r).setCell ⟨g,3,none⟩ s).setCell ⟨g,4,none⟩ t).setCell ⟨g,5,none⟩ u).heap[k]?=w.heap[k]?:=fun k hk =>
 (heap_set _ _ _ _ k hk).trans ((heap_set _ _ _ _ k hk).trans ((heap_set _ _ _ _ k hk).trans ((heap_set _ _ _ _ k hk).trans ((heap_set _ _ _ _ k hk).trans (heap_set _ _ _ _ k hk)))))
def NewHEnd (w:World) (e:Ending) (w':World):Prop:=∃ ta tc lb,e=.returned (.agg #[.int .i64 0,.slice none 0 0,.slice none 0 0,ta,tc,.slice (some ⟨lb,0,none⟩) 6 6])∧Blk w' lb 3 (rowVals z6)∧w.heap.size≤lb∧Stab w' lb lb (fun W=>StrR W (.agg #[ta,tc]) (streamM newM))∧Below w.heap.size w w'
set_option maxHeartbeats 8000000 in
set_option maxRecDepth 100000 in
theorem newH_any (w:World):Calls Tryz.prog 21 #[] w (NewHEnd w):=by
 have hmk:=make_int6
 go_enter Tryz.func21,Tryz.ntmps21
 go_wp2_with fail
 go_region_law (first|(go_simp;go_at_call 29;refine (skNew_any _).mono ?_;rintro e w4 ⟨rfl,hb⟩;have HR4:Hid (Blk w4 w.heap.size 39 [.int .i64 0,.slice none 0 0,.slice none 0 0,.slice none 0 0,.slice none 0 0,.slice none 0 0]):=LH (Blk.step (by repeat (first|with_reducible exact HR5.out|((with_reducible apply Blk.new);focus (first|rfl|(simp <;> omega)))|with_reducible (first|apply Blk.drew|apply Blk.alloc|apply Blk.set_)|((with_reducible apply Blk.far);rotate_left;focus (first|(simp <;> omega)|omega)))) hb);have HB4:Hid (Below w.heap.size w w4):=below_step (by repeat (first|with_reducible (first|exact HB5.out|exact Below.refl _ _|apply Below.drew|apply below_alloc)|((first|with_reducible refine Below.alloc ?_ ?_ _|with_reducible refine Below.setCell ?_ ?_ _);rotate_left;focus (first|(simp <;> omega)|omega)))) hb;(try have HU4:Hid (Below w5.heap.size w5 w4):=below_step (by repeat (first|with_reducible (first|exact Below.refl _ _|apply Below.drew|apply below_alloc)|((first|with_reducible refine Below.alloc ?_ ?_ _|with_reducible refine Below.setCell ?_ ?_ _);rotate_left;focus (first|(simp <;> omega)|omega)))) hb);(try (refine (fun (HI:Hid (Blk w4 w5.heap.size 3 [.int .i64 0,.int .i64 0,.int .i64 0,.int .i64 0,.int .i64 0,.int .i64 0]))=>?nain) (LH (Blk.step ?nide hb));case nide=>(repeat (first|with_reducible exact HI.out|((with_reducible apply Blk.new);focus (first|rfl|(simp <;> omega)))|with_reducible (first|apply Blk.drew|apply Blk.alloc|apply Blk.set_)|((with_reducible apply Blk.far);rotate_left;focus (first|(simp <;> omega)|omega))))));(try have hli4:=HI.out.lt);obtain ⟨⟨p0,p1,p2⟩,⟨p3,p4,p5⟩,pz⟩:=cells6 HR4.out;have pl:=HR4.out.lt;have HBA:=LH hb;clear hb)|(go_simp;go_at_call 40;refine (strNew_any _).mono ?_;rintro e w5 ⟨ta,tc,rfl,os,hb⟩;obtain ⟨a3,c3,b3,n3,d3,ev,-,-⟩:=os.reads.shape;cases ev;have OS:=LH os;have HR5:Hid (Blk w5 w.heap.size 39 [.int .i64 0,.slice none 0 0,.slice none 0 0,.slice none 0 0,.slice none 0 0,.slice none 0 0]):=LH (Blk.step (by repeat (first|with_reducible exact HR4.out|((with_reducible apply Blk.new);focus (first|rfl|(simp <;> omega)))|with_reducible (first|apply Blk.drew|apply Blk.alloc|apply Blk.set_)|((with_reducible apply Blk.far);rotate_left;focus (first|(simp <;> omega)|omega)))) hb);have HB5:Hid (Below w.heap.size w w5):=below_step (by repeat (first|with_reducible (first|exact HB4.out|exact Below.refl _ _|apply Below.drew|apply below_alloc)|((first|with_reducible refine Below.alloc ?_ ?_ _|with_reducible refine Below.setCell ?_ ?_ _);rotate_left;focus (first|(simp <;> omega)|omega)))) hb;(try have HU5:Hid (Below w4.heap.size w4 w5):=below_step (by repeat (first|with_reducible (first|exact Below.refl _ _|apply Below.drew|apply below_alloc)|((first|with_reducible refine Below.alloc ?_ ?_ _|with_reducible refine Below.setCell ?_ ?_ _);rotate_left;focus (first|(simp <;> omega)|omega)))) hb);(try (refine (fun (HI:Hid (Blk w5 (w.heap.size+1) 3 [.int .i64 0,.int .i64 0,.int .i64 0,.int .i64 0,.int .i64 0,.int .i64 0]))=>?nain) (LH (Blk.step ?nide hb));case nide=>(repeat (first|with_reducible exact HI.out|((with_reducible apply Blk.new);focus (first|rfl|(simp <;> omega)))|with_reducible (first|apply Blk.drew|apply Blk.alloc|apply Blk.set_)|((with_reducible apply Blk.far);rotate_left;focus (first|(simp <;> omega)|omega))))));(try (refine (fun (HI:Hid (Blk w5 w4.heap.size 3 [.int .i64 0,.int .i64 0,.int .i64 0,.int .i64 0,.int .i64 0,.int .i64 0]))=>?nain) (LH (Blk.step ?nide hb));case nide=>(repeat (first|with_reducible exact HI.out|((with_reducible apply Blk.new);focus (first|rfl|(simp <;> omega)))|with_reducible (first|apply Blk.drew|apply Blk.alloc|apply Blk.set_)|((with_reducible apply Blk.far);rotate_left;focus (first|(simp <;> omega)|omega))))));(try have hli5:=HI.out.lt);obtain ⟨⟨p0,p1,p2⟩,⟨p3,p4,p5⟩,pz⟩:=cells6 HR5.out;have pl:=HR5.out.lt;clear hb;clear os))
 ·go_wp2_with fail
  obtain ⟨⟨t0,t1,t2⟩,⟨t3,t4,t5⟩,-⟩:=cells6 (((((((HR5.out.set_ 0 (.int .i64 0)).set_ 1 (.slice none 0 0)).set_ 2 (.slice none 0 0)).set_ 3 (.slice a3 newS.tops.length c3)).set_ 4 (.slice b3 n3 d3)).set_ 5 (.slice (some ⟨w5.heap.size,0,none⟩) 6 6)).alloc (.cells #[.int .i64 0,.int .i64 0,.int .i64 0,.int .i64 0,.int .i64 0,.int .i64 0] 3))
  have hs5:=HB5.out.size
  have hu5:=HU5.out.size
  have hl4:=HR4.out.lt
  refine bodyPost_ret (v:=.agg #[.int .i64 0,.slice none 0 0,.slice none 0 0,.slice a3 newS.tops.length c3,.slice b3 n3 d3,.slice (some ⟨w5.heap.size,0,none⟩) 6 6]) (by simp [results,Tryz.results21,go_sem,t0,t1,t2,t3,t4,t5]) rfl ⟨_,_,_,rfl,?_,?_,?_,?_⟩
  ·exact (Blk.new (cs:=[.int .i64 0,.int .i64 0,.int .i64 0,.int .i64 0,.int .i64 0,.int .i64 0]) (by simp))
  ·exact hs5
  ·intro W hk
   have he:∀ k,k < w5.heap.size→k≠w.heap.size→(((((((w5.setCell ⟨w.heap.size,0,none⟩ (.int .i64 0)).setCell ⟨w.heap.size,1,none⟩ (.slice none 0 0)).setCell ⟨w.heap.size,2,none⟩ (.slice none 0 0)).setCell ⟨w.heap.size,3,none⟩ (.slice a3 newS.tops.length c3)).setCell ⟨w.heap.size,4,none⟩ (.slice b3 n3 d3)).setCell ⟨w.heap.size,5,none⟩ (.slice (some ⟨w5.heap.size,0,none⟩) 6 6)).alloc (.cells #[.int .i64 0,.int .i64 0,.int .i64 0,.int .i64 0,.int .i64 0,.int .i64 0] 3)).heap[k]?=w5.heap[k]?:=fun k h2 h3 =>
    (((Below.refl _ _).alloc (Nat.le_refl _) _).block k (by simp;omega)).trans (set6_far k h3)
   have hk':Kw w.heap.size w5.heap.size w5 W:=⟨Nat.le_trans (by simp) hk.1,fun k h2 h3 h4 h5=>(hk.2 k (by simp;omega) h4 h4 (fun c f e=>h5 c f ((he k h2 h3).symm.trans e))).trans (he k h2 h3)⟩
   exact (OwnS.kp OS.out hk' (Or.inl (by omega)) (Or.inr (Nat.le_refl _))).reads
  ·exact ((((((HB5.out.setCell (by simp) _).setCell (by simp) _).setCell (by simp) _).setCell (by simp) _).setCell (by simp) _).setCell (by simp) _).alloc (by simp;omega) _
 ·go_wp2_with fail
  obtain ⟨⟨t0,t1,t2⟩,⟨t3,t4,t5⟩,-⟩:=cells6 ((((((HR5.out.set_ 0 (.int .i64 0)).set_ 1 (.slice none 0 0)).set_ 2 (.slice none 0 0)).set_ 3 (.slice a3 newS.tops.length c3)).set_ 4 (.slice b3 n3 d3)).set_ 5 (.slice (some ⟨w4.heap.size,0,none⟩) 6 6))
  have hs4:=HB4.out.size
  have hl4:=HR4.out.lt
  refine bodyPost_ret (v:=.agg #[.int .i64 0,.slice none 0 0,.slice none 0 0,.slice a3 newS.tops.length c3,.slice b3 n3 d3,.slice (some ⟨w4.heap.size,0,none⟩) 6 6]) (by simp [results,Tryz.results21,go_sem,t0,t1,t2,t3,t4,t5]) rfl ⟨_,_,_,rfl,?_,?_,?_,?_⟩
  ·have hne:w4.heap.size≠w.heap.size:=by omega
   exact (((((HI.out.far hne _).far hne _).far hne _).far hne _).far hne _).far hne _
  ·exact hs4
  ·have os:=OwnS.agree OS.out (fun k h1 _=>set6_far (w:=w5) (g:=w.heap.size) (p:=.int .i64 0) (q:=.slice none 0 0) (r:=.slice none 0 0) (s:=.slice a3 newS.tops.length c3) (t:=.slice b3 n3 d3) (u:=.slice (some ⟨w4.heap.size,0,none⟩) 6 6) k (by simp at h1;omega))
   exact Stab.st os (by simp) (by simp)
  ·exact ((((((HB5.out.setCell (by simp) _).setCell (by simp) _).setCell (by simp) _).setCell (by simp) _).setCell (by simp) _).setCell (by simp) _)
 ·go_wp2_with fail
  obtain ⟨⟨t0,t1,t2⟩,⟨t3,t4,t5⟩,-⟩:=cells6 ((((((HR5.out.set_ 0 (.int .i64 0)).set_ 1 (.slice none 0 0)).set_ 2 (.slice none 0 0)).set_ 3 (.slice a3 newS.tops.length c3)).set_ 4 (.slice b3 n3 d3)).set_ 5 (.slice (some ⟨w.heap.size+1,0,none⟩) 6 6))
  have hl4:=HR4.out.lt
  have HI4:Blk w4 (w.heap.size+1) 3 [.int .i64 0,.int .i64 0,.int .i64 0,.int .i64 0,.int .i64 0,.int .i64 0]:=Blk.step (by repeat (first|with_reducible exact HBA|((with_reducible apply Blk.new);focus (first|rfl|(simp <;> omega)))|with_reducible (first|apply Blk.drew|apply Blk.alloc|apply Blk.set_)|((with_reducible apply Blk.far);rotate_left;focus (first|(simp <;> omega)|omega)))) HBA.out
  have hli4:=HI4.lt
  have HI:=LH (HI4.step HU5.out)
  refine bodyPost_ret (v:=.agg #[.int .i64 0,.slice none 0 0,.slice none 0 0,.slice a3 newS.tops.length c3,.slice b3 n3 d3,.slice (some ⟨w.heap.size+1,0,none⟩) 6 6]) (by simp [results,Tryz.results21,go_sem,t0,t1,t2,t3,t4,t5]) rfl ⟨_,_,_,rfl,?_,?_,?_,?_⟩
  ·have hne:w.heap.size+1≠w.heap.size:=by omega
   exact (((((HI.out.far hne _).far hne _).far hne _).far hne _).far hne _).far hne _
  ·omega
  ·have os:=OwnS.agree OS.out (fun k h1 _=>set6_far (w:=w5) (g:=w.heap.size) (p:=.int .i64 0) (q:=.slice none 0 0) (r:=.slice none 0 0) (s:=.slice a3 newS.tops.length c3) (t:=.slice b3 n3 d3) (u:=.slice (some ⟨w.heap.size+1,0,none⟩) 6 6) k (by omega))
   exact Stab.st os hli4 hli4
  ·exact ((((((HB5.out.setCell (by simp) _).setCell (by simp) _).setCell (by simp) _).setCell (by simp) _).setCell (by simp) _).setCell (by simp) _)
theorem info_gv:(Tryz.prog.info? 95).map (fun i=>(i.zero,i.size,i.bytes))=some (some (.agg #[.int .i64 0,.int .i64 0,.slice none 0 0,.int .i64 0,.string ByteArray.empty,.string ByteArray.empty]),6,80):=by kernel_rfl
theorem OwnG.fr {ts:List TypeId} {w w':World} {B:Nat} {v:Value} {l:List Gv} (h:OwnG w B v l) (hf:Fr ts w w') (h1:95 ∉ ts) (h2:3 ∉ ts):OwnG w' B v l:=by
 obtain ⟨pl,e1,e2,e3⟩:=h
 exact ⟨pl,e1,ownsRow_fr e2 hf h1,fun p hp=>ownsRow_fr (e3 p hp) hf h2⟩
theorem OwnG.snoc {w w':World} {B n:Nat} {v v':Value} {l:List Gv} {c:Value × Gv} {pl:List (Value × Gv)} (h1:pl.map (·.2)=l) (h2:w.ownsRow B 95 6 v n (pl.flatMap gvCs)) (h3:∀ p∈pl,OwnI w B p.1 p.2.2.groups)
  (hu:OwnI w B c.1 c.2.2.groups) (hg:w.grownBy w' v.ownBlock) (hv:w'.ownsRow B 95 6 v' (n+1) (pl.flatMap gvCs++gvCs c)) (hn:n=l.length):OwnG w' B v' (l++[c.2]):=by
 have hne:∀ q:Value × Gv,OwnI w B q.1 q.2.2.groups→OwnI w' B q.1 q.2.2.groups:=fun q hq=>ownsRow_grown' hq hg (fun k hk=>rows_ne hq h2 (by decide) hk)
 refine ⟨pl++[c],by simp [h1],?_,fun p hp=>?_⟩
 ·rw [List.length_append,← hn,List.flatMap_append]
  simpa using hv
 ·rcases List.mem_append.1 hp with hp|hp
  ·exact hne p (h3 p hp)
  ·rw [List.mem_singleton.1 hp]
   exact hne c hu
def BoxG (w:World) (B g:Nat) (o:List Gv):Prop:=∃ a cap,Blk w g 89 [.slice a o.length cap]∧OwnG w B (.slice a o.length cap) o
def addG (c:PC) (s s':Sk):List Gv:=if s.waits.length < s'.waits.length then [(s'.clock,c.msg)] else []
theorem news_gv (p:Value × Gv) {W:World} {g:Nat} {t:TypeId} (hg:g=W.heap.size):∀ j u,(gvCs p)[j]?=some u→(W.alloc (.cells #[.int .i64 p.2.1,.int .i64 p.2.2.id,p.1,.int .i64 p.2.2.topic,.string p.2.2.key,.string p.2.2.body] t)).cell? ((⟨g,0,none⟩:Addr).add j)=some u:=by
 intro j u hj
 have hB:=Blk.new (w:=W) (t:=t) (cs:=gvCs p) hg
 have h:=hB.cell j
 rw [show ((⟨g,0,none⟩:Addr).add j)=⟨g,j,none⟩ by unfold Addr.add;split <;> simp_all]
 rw [← hj]
 exact h
set_option maxHeartbeats 8000000 in
set_option maxRecDepth 100000 in
theorem times1_any {w:World} {B g:Nat} {o:List Gv} {c:PC} {s s':Sk} {sv:Value} (hb:BoxG w B g o) (hs:StepR w B c s s' sv) (hB:g < B) (hBw:B≤w.heap.size) (hn:o.length≤200) :
  Calls Tryz.prog 49 #[sv,.pointer (some ⟨g,0,none⟩)] w fun e w'=>e=.returned (.tuple #[])∧BoxG w' B g (o++addG c s s')∧Fr [89,95] w w'∧Below g w w':=by
 obtain ⟨i0,hi,hz0,hz1,hz2⟩:=info_parts info_gv
 obtain ⟨a,cap,hbx,ho⟩:=hb
 obtain ⟨ma,mc,mb,bc,wa,wc,da,dc,wa',wc',da',dc',oa,on,oc,rfl,hm,-,-⟩:=hs
 have HBX:=LH hbx
 have HO:=LH ho
 have HM:=LH hm
 obtain ⟨p0,pz⟩:=cells1 hbx
 have pl:=hbx.lt
 have hw1:=HO.out.shape
 obtain ⟨ql,hql,hrow,hall⟩:=HO.out
 have HQL:=LH hql
 have HROW:=LH hrow
 have HALL:=LH hall
 clear hbx ho hm hql hrow hall hw1
 unfold addG
 by_cases hlt:s.waits.length < s'.waits.length
 ·rw [if_pos hlt]
  go_enter Tryz.func49,Tryz.ntmps49
  go_wp2_with (at_builtin;go_must (refine wpList_append_own _ rfl _ _ 89 rfl B 95 i0 _ 6 80 Tryz.underlying89 hi hz0 hz1 hz2 rfl (by decide) _ _ _ rfl (ownsRow_keep HROW.out (((Below.refl _ _).alloc (Nat.le_refl _) _).alloc (by simp) _)) ⟨w.heap.size+1,0,none⟩ 1 1 (gvCs (.slice ma c.msg.groups.length mc,(s'.clock,c.msg))) rfl rfl ?_ (by intro v hv;simp [gvCs] at hv;rcases hv with rfl|rfl|rfl|rfl|rfl|rfl <;> rfl) (by unfold maxLen;omega) (by omega) (by simp;omega) ?_))
  ·exact news_gv (.slice ma c.msg.groups.length mc,(s'.clock,c.msg)) (by simp)
  ·intro v' w3 hown2 hgrow _
   have hbw:∀ o o':Obj,Below w.heap.size w ((w.alloc o).alloc o'):=fun o o'=>((Below.refl _ _).alloc (Nat.le_refl _) o).alloc (by simp) o'
   have hbw2:∀ o o':Obj,Below B w ((w.alloc o).alloc o'):=fun o o'=>((Below.refl _ _).alloc hBw o).alloc (by simp;omega) o'
   have HO3:=LH (OwnG.snoc (c:=(.slice ma c.msg.groups.length mc,(s'.clock,c.msg))) HQL.out (ownsRow_keep HROW.out (hbw _ _)) (fun p hp=>ownsRow_keep (HALL.out p hp) (hbw _ _)) (ownsRow_keep HM.out (hbw _ _)) hgrow hown2 rfl)
   have HX3:=LH ((HBX.out.step (hbw _ _)).grown hgrow (fun e=>by have:=(HROW.out.lt _ e).1;omega))
   have HF3:=LH ((Fr.below (ts:=[89,95]) (hbw _ _)).trans (Fr.grown (ownsRow_keep HROW.out (hbw _ _)) hgrow (by decide)))
   have HB3:=LH ((hbw2 _ _).grown hgrow (by simp;omega) (fun j hj=>(HROW.out.lt j hj).1))
   obtain ⟨a',c',hv'⟩:=HO3.out.shape
   have hl:(o++[(s'.clock,c.msg)]).length=o.length+1:=by simp
   rw [hl] at hv'
   obtain ⟨q0,qz⟩:=cells1 HX3.out
   have ql3:=HX3.out.lt
   subst hv'
   clear hown2 hgrow hbw hbw2 p0 pz
   go_wp2_with fail
   have hfs:Fr [89] w3 (w3.setCell ⟨g,0,none⟩ (.slice a' (o.length+1) c')):=Fr.set HX3.out (by decide)
   refine bodyPost_end (v:=.tuple #[]) (by simp [results,Tryz.results49,go_sem]) rfl ⟨rfl,⟨a',c',by rw [hl];exact HX3.out.set_ 0 _,by rw [hl];exact HO3.out.fr (ts:=[89]) hfs (by decide) (by decide)⟩,HF3.out.trans (hfs.mono (ts':=[89,95]) (by decide)),?_⟩
   have hbb:Below g w w3:=HB3.out.mono (by omega)
   exact hbb.setCell (Nat.le_refl _) _
 ·rw [if_neg hlt,List.append_nil]
  go_enter Tryz.func49,Tryz.ntmps49
  go_wp2_with fail
  refine bodyPost_end (v:=.tuple #[]) (by simp [results,Tryz.results49,go_sem]) rfl ⟨rfl,⟨a,cap,?_,?_⟩,Fr.below ((Below.refl _ _).alloc (Nat.le_refl _) _),(Below.refl _ _).alloc (by omega) _⟩
  ·exact HBX.out.step ((Below.refl _ _).alloc (Nat.le_refl _) _)
  ·exact HO.out.keep ((Below.refl _ _).alloc (Nat.le_refl _) _)
theorem info_gvs:(Tryz.prog.info? 89).map (fun i=>(i.zero,i.size,i.bytes))=some (some (.slice none 0 0),1,24):=by kernel_rfl
def tabCs (p:Value × List Gv):List Value:=[p.1]
theorem tabCs_len (p:Value × List Gv):(tabCs p).length=1:=rfl
def OwnTab (w:World) (B:Nat) (v:Value) (t:List (List Gv)):Prop:=∃ vs:List (Value × List Gv),vs.map (·.2)=t∧w.ownsRow B 89 1 v t.length (vs.flatMap tabCs)∧∀ p∈vs,OwnG w B p.1 p.2
theorem OwnTab.nil (w:World) (B:Nat):OwnTab w B (.slice none 0 0) []:=⟨[],rfl,World.ownsRow_nil _ _ _ _,fun _ h=>by cases h⟩
theorem OwnTab.reads {w:World} {B:Nat} {v:Value} {t:List (List Gv)} (h:OwnTab w B v t):TabR w v t:=by
 obtain ⟨vs,rfl,h2,h3⟩:=h
 rw [List.length_map] at h2
 exact ⟨vs,rfl,sliceR_of_owns tabCs_len h2,fun p hp=>(h3 p hp).reads⟩
theorem OwnTab.keep {w w':World} {B:Nat} {v:Value} {t:List (List Gv)} (h:OwnTab w B v t) (hb:Below w.heap.size w w'):OwnTab w' B v t:=by
 obtain ⟨vs,h1,h2,h3⟩:=h
 exact ⟨vs,h1,ownsRow_keep h2 hb,fun p hp=>(h3 p hp).keep hb⟩
theorem OwnTab.fr {ts:List TypeId} {w w':World} {B:Nat} {v:Value} {t:List (List Gv)} (h:OwnTab w B v t) (hf:Fr ts w w') (h0:89 ∉ ts) (h1:95 ∉ ts) (h2:3 ∉ ts):OwnTab w' B v t:=by
 obtain ⟨vs,e1,e2,e3⟩:=h
 exact ⟨vs,e1,ownsRow_fr e2 hf h0,fun p hp=>(e3 p hp).fr hf h1 h2⟩
theorem OwnTab.snoc {w w':World} {B n:Nat} {v v' u:Value} {t:List (List Gv)} {x:List Gv} {vs:List (Value × List Gv)} (h1:vs.map (·.2)=t) (h2:w.ownsRow B 89 1 v n (vs.flatMap tabCs)) (h3:∀ p∈vs,OwnG w B p.1 p.2)
  (hu:OwnG w B u x) (hg:w.grownBy w' v.ownBlock) (hv:w'.ownsRow B 89 1 v' (n+1) (vs.flatMap tabCs++[u])) (hn:n=t.length):OwnTab w' B v' (t++[x]):=by
 have hf:Fr [89] w w':=Fr.grown h2 hg (by decide)
 refine ⟨vs++[(u,x)],by simp [h1],?_,fun p hp=>?_⟩
 ·rw [List.length_append,← hn,List.flatMap_append]
  simpa [tabCs] using hv
 ·rcases List.mem_append.1 hp with hp|hp
  ·exact (h3 p hp).fr hf (by decide) (by decide)
  ·rw [List.mem_singleton.1 hp]
   exact hu.fr hf (by decide) (by decide)
theorem TabR.shape {w:World} {v:Value} {t:List (List Gv)} (h:TabR w v t):∃ a cap,v=.slice a t.length cap:=by
 obtain ⟨vs,rfl,⟨a,cap,h2,_⟩,_⟩:=h
 exact ⟨a,cap,by rw [h2,List.length_map]⟩
def tabFrom:Nat→List (List ByteArray)→List (List Gv)
 |_,[]=>[]
 |g,l :: m=>timesF (g:Int) (cmdsP l).1 skZ :: tabFrom (g+1) m
def tabF (m:List (List ByteArray)):List (List Gv):=tabFrom 0 m
theorem tabFrom_len:∀ (g:Nat) (m:List (List ByteArray)),(tabFrom g m).length=m.length
 |_,[]=>rfl
 |g,l :: m=>by rw [tabFrom,List.length_cons,List.length_cons,tabFrom_len]
theorem tabFrom_get:∀ (g:Nat) (m:List (List ByteArray)) (i:Nat),i < m.length→(tabFrom g m).getD i []=timesF ((g+i:Nat):Int) (cmdsP (m.getD i [])).1 skZ
 |_,[],i,h=>absurd h (Nat.not_lt_zero _)
 |g,l :: m,0,_=>rfl
 |g,l :: m,i+1,h=>by
  rw [tabFrom,List.getD_cons_succ,List.getD_cons_succ,tabFrom_get (g+1) m i (Nat.lt_of_succ_lt_succ h)]
  rw [show g+1+i=g+(i+1) by omega]
theorem tabF_get {m:List (List ByteArray)} {i:Nat} (h:i < m.length):(tabF m).getD i []=timesF (i:Int) (cmdsP (m.getD i [])).1 skZ:=by
 have:=tabFrom_get 0 m i h
 rwa [Nat.zero_add] at this
def OfEnd (m:List (List ByteArray)) (w:World) (e:Ending) (w':World):Prop:=∃ a n cap x,e=.returned (.tuple #[.slice a n cap,.int .i64 x])∧Below w.heap.size w w' ∧
 (x=0→m.length≤4∧(∀ i,i < m.length→(cmdsP (m.getD i [])).2=0)∧n=(tabF m).length∧OwnTab w' w.heap.size (.slice a n cap) (tabF m))
end Go.Proofs.YtkkohllhebdlcaaGreatDoor
