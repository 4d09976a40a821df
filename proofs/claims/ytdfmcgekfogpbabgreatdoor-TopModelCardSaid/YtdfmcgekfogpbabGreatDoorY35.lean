/-
  Proved here: (*group.home).onTopic. Conditions: the id is a message's; the group is
-/
import Derived.Test.YtdfmcgekfogpbabGreatDoorY28
import Derived.Test.YtdfmcgekfogpbabGreatDoorY32
set_option maxRecDepth 100000
namespace Go.Proofs.YtdfmcgekfogpbabGreatDoor
open Go.RowKit
theorem cells6 {w:World} {g:Nat} {t:TypeId} {a b c d e f:Value} (hb:Blk w g t [a,b,c,d,e,f]) :
  (w.cell? ⟨g,0,none⟩=some a∧w.cell? ⟨g,1,none⟩=some b∧w.cell? ⟨g,2,none⟩=some c)∧(w.cell? ⟨g,3,none⟩=some d∧w.cell? ⟨g,4,none⟩=some e∧w.cell? ⟨g,5,none⟩=some f)∧∀ o,w.frozen? ⟨g,o,none⟩=false :=
 ⟨⟨hb.cell 0,hb.cell 1,hb.cell 2⟩,⟨hb.cell 3,hb.cell 4,hb.cell 5⟩,hb.free⟩
theorem rowQ_get {l:List Int} {i:Nat} (h:i < l.length):(rowVals l)[i]?=some (.int .i64 (l.getD i 0)):=by
 simp [rowVals,List.getD,h]
theorem rowQ_set {l:List Int} {i:Nat} {n:Int}:(rowVals l).set i (.int .i64 n)=rowVals (l.set i n):=by
 simp [rowVals,List.map_set]
theorem at_boxD {P:Program} {f:FuncId} {args:Array Value} {Q:Ending→World→Prop} {w:World} {t:TypeId} {x y:Value} (k:Blk (w.alloc (.cells #[x,y] t)).drew w.heap.size t [x,y]→Calls P f args (w.alloc (.cells #[x,y] t)).drew Q):Calls P f args (w.alloc (.cells #[x,y] t)).drew Q:=k (Blk.new (w:=w) (t:=t) (cs:=[x,y]) rfl)
theorem OwnS.box2 {w:World} {B g:Nat} {v p q:Value} {s:Str} {cs:List Value} (h:OwnS w B v s) (hb:Blk w g 33 cs):OwnS ((w.setCell ⟨g,0,none⟩ p).setCell ⟨g,1,none⟩ q) B v s:=by
 have hh:∀ k,k≠g→((w.setCell ⟨g,0,none⟩ p).setCell ⟨g,1,none⟩ q).heap[k]?=w.heap[k]?:=fun k hk=>(heap_set _ _ _ _ k hk).trans (heap_set _ _ _ _ k hk)
 obtain ⟨ta,tc,h1,⟨pl,e1,e2,e3⟩,⟨us,c1,c2,c3,c4⟩⟩:=h
 exact ⟨ta,tc,h1,⟨pl,e1,row_far e2 hh (row_blk e2 hb (by decide)),fun p hp=>row_far (e3 p hp) hh (row_blk (e3 p hp) hb (by decide))⟩,⟨us,row_far c1 hh (row_blk c1 hb (by decide)),c2,fun i hi=>row_far (c3 i hi) hh (row_blk (c3 i hi) hb (by decide)),c4⟩⟩
def TopEnd (w0:World) (g b:Nat) (s:Gs) (w:World) (e:Ending) (w':World):Prop:=e=.returned (.tuple #[])∧HomeAt w' g b s∧Kp g b w w'∧Below w0.heap.size w0 w'
set_option maxHeartbeats 8000000 in
set_option maxRecDepth 100000 in
theorem onTop_any {w0 w:World} {g b:Nat} {s:Gs} {c:PC} {cv:Value} (h:HomeAt w g b s) (hk:OkG s) (h0:Below w0.heap.size w0 w) (hg:w0.heap.size≤g) (hb:w0.heap.size≤b) (hc:ComR w cv c) (hi0:0≤c.id) (hi1:c.id < 6291456) :
  Calls Tryz.prog 46 #[.pointer (some ⟨g,0,none⟩),cv] w (TopEnd w0 g b ⟨s.sk,(onTopM c s.last s.m).2,(onTopM c s.last s.m).1⟩ w):=by
 obtain ⟨wv,dv,ta,tc,h1,h2,h3,h4,h5⟩:=h
 obtain ⟨ma,mc,mb,bc,rfl,-,-⟩:=hc
 have HB:=LH h0
 have HQ:=LH h1
 have HL:=LH h2
 have S1:=LH h4
 have S2:=LH h5
 have HM:=LH hk.may
 have HLO:=LH hk.low
 have h6:=hk.six
 obtain ⟨sk,m,last⟩:=s
 obtain ⟨kd,⟨i1,gl,t1,k1,bo⟩,ci,ct,ml,cp,cw,cn⟩:=c
 simp only at HQ HL S1 S2 HM HLO h6 hi0 hi1 ⊢
 obtain ⟨gn,hgn⟩:∃ gn,gn=gl.length:=⟨_,rfl⟩
 obtain ⟨mn,hmn⟩:∃ mn,mn=ml.length:=⟨_,rfl⟩
 rw [← hgn,← hmn]
 obtain ⟨ck,hck⟩:∃ ck,ck=sk.clock:=⟨_,rfl⟩
 have HCK:=LH hck
 rw [← hck] at HQ S1
 obtain ⟨sd,hsd⟩:∃ sd:Nat,ci / 1048576=(sd:Int):=⟨(ci / 1048576).toNat,by omega⟩
 have hsd6:sd < 6:=by omega
 obtain ⟨nn,hnn⟩:∃ nn,nn=ci % 1048576:=⟨_,rfl⟩
 have hn0:0≤nn:=by omega
 have hn1:nn < 1048576:=by omega
 obtain ⟨y,hy⟩:∃ y,y=last.getD sd 0:=⟨_,rfl⟩
 obtain ⟨D,hD⟩:∃ D,D=doM m kd cp cw cn:=⟨_,rfl⟩
 have KS:Hid (∀ W,Calls Tryz.prog 27 #[.int .i64 ci] W fun e W'=>e=.returned (.tuple #[.int .i64 (sd:Int),.int .i64 nn,.int .i64 0])∧W=W'):=fun W=>by
  have:=stamp_of_yes ci W hi0 hi1
  rw [hsd,← hnn] at this
  exact this
 have HE:Hid (onTopM ⟨kd,⟨i1,gl,t1,k1,bo⟩,ci,ct,ml,cp,cw,cn⟩ last m=if nn < y then (last,m) else (last.set sd (nn+1),if D.2=0 then D.1 else m)):=by
  rw [onTopM]
  simp only [hsd,Int.toNat_natCast,← hnn,← hy,← hD]
  first|exact LH trivial|exact LH rfl
 obtain ⟨u,x⟩:=D
 obtain ⟨hd1,hd2⟩:=doM_str HM.out hD.symm
 obtain ⟨U,hU⟩:∃ U,U=if x=0 then streamM u else Str.zero:=⟨_,rfl⟩
 have HU:=LH hU
 rw [← hU] at hd1
 have KD:Hid (∀ W,StrR W (.agg #[ta,tc]) (streamM m)→Calls Tryz.prog 87 #[.agg #[ta,tc],.agg #[.int .u8 kd,.int .i64 i1,.slice ma gn mc,.int .i64 t1,.string k1,.string bo,.int .i64 ci,.int .i64 ct,.slice mb mn bc,.int .i64 cp,.int .i64 cw,.int .i64 cn]] W fun e W'=>∃ a4 n4 c4 b4 m4 d4,e=.returned (.tuple #[.agg #[.slice a4 n4 c4,.slice b4 m4 d4],.int .i64 x])∧OwnS W' W.heap.size (.agg #[.slice a4 n4 c4,.slice b4 m4 d4]) U∧Below W.heap.size W W'):=fun W hW =>
  (strDo_any cp cw cn hW (keysS_of_may (mayM_str HM.out)) hd1).mono fun e W' ⟨ta',tc',he,ho,hb⟩=>by
   obtain ⟨a4,c4,b4,m4,d4,ev,-,-⟩:=ho.reads.shape
   rw [ev] at ho he
   exact ⟨a4,_,c4,b4,m4,d4,he,ho,hb⟩
 have hyc:(rowVals last)[sd]?=some (.int .i64 y):=by rw [hy];exact rowQ_get (by omega)
 have ly:=HL.out.cell sd
 rw [hyc] at ly
 have HGB:=LH h3
 have gl1:=HQ.out.lt
 have bl1:=HL.out.lt
 clear hU h1 h2 h4 h5 hk hgn hmn hck hsd hnn hy hD hd1 hd2 hyc hi0 hi1 h0 h6
 go_enter Tryz.func46,Tryz.ntmps46
 go_wp2_with fail
 refine (KS.out _).mono ?_
 rintro e w1 ⟨rfl,rfl⟩
 have hB0:Below w.heap.size w (w.alloc (.cells #[.int .u8 kd,.int .i64 i1,.slice ma gn mc,.int .i64 t1,.string k1,.string bo,.int .i64 ci,.int .i64 ct,.slice mb mn bc,.int .i64 cp,.int .i64 cw,.int .i64 cn] 79)):=(Below.refl _ _).alloc (Nat.le_refl _) _
 have HC:Hid (Blk (w.alloc (.cells #[.int .u8 kd,.int .i64 i1,.slice ma gn mc,.int .i64 t1,.string k1,.string bo,.int .i64 ci,.int .i64 ct,.slice mb mn bc,.int .i64 cp,.int .i64 cw,.int .i64 cn] 79)) w.heap.size 79 [.int .u8 kd,.int .i64 i1,.slice ma gn mc,.int .i64 t1,.string k1,.string bo,.int .i64 ci,.int .i64 ct,.slice mb mn bc,.int .i64 cp,.int .i64 cw,.int .i64 cn]):=LH (Blk.new rfl)
 have HQ1:=LH (HQ.out.step hB0)
 have HL1:=LH (HL.out.step hB0)
 have ly1:=keep hB0 ly
 have K1:=LH (Kp.below (g:=g) (b:=b) hB0)
 have HB1:=LH (Below.step HB.out hB0 HB.out.size)
 clear hB0 ly
 generalize w.alloc (.cells #[.int .u8 kd,.int .i64 i1,.slice ma gn mc,.int .i64 t1,.string k1,.string bo,.int .i64 ci,.int .i64 ct,.slice mb mn bc,.int .i64 cp,.int .i64 cw,.int .i64 cn] 79)=w1 at HC HQ1 HL1 ly1 K1 HB1 ⊢
 obtain ⟨⟨q0,q1,q2⟩,⟨q3,q4,q5⟩,qz⟩:=cells6 HQ1.out
 have gl2:=HQ1.out.lt
 have bl2:=HL1.out.lt
 have cl2:=HC.out.lt
 have s0:(0:Int)≤(sd:Int):=by omega
 have s6:(sd:Int) < 6:=by omega
 by_cases hlt:nn < y
 ·have HE2:=LH (show onTopM ⟨kd,⟨i1,gl,t1,k1,bo⟩,ci,ct,ml,cp,cw,cn⟩ last m=(last,m) by rw [HE.out,if_pos hlt])
  clear HE
  go_wp2_with fail
  refine bodyPost_ret (v:=.tuple #[]) (by simp [results,Tryz.results46,go_sem]) rfl ⟨rfl,?_,K1.out,HB1.out⟩
  rw [HE2.out]
  exact ⟨wv,dv,ta,tc,by rw [← HCK.out];exact HQ1.out,HL1.out,HGB.out,by rw [← HCK.out];exact S1.out.go K1.out,S2.out.go K1.out⟩
 have HE2:=LH (show onTopM ⟨kd,⟨i1,gl,t1,k1,bo⟩,ci,ct,ml,cp,cw,cn⟩ last m=(last.set sd (nn+1),if x=0 then u else m) by rw [HE.out,if_neg hlt])
 have hw1:IntKind.i64.wrap (nn+1)=nn+1:=by rw [IntKind.wrap_i64];omega
 have lz:=HL1.out.free sd
 clear HE
 go_wp2_with fail
 have HQ2:Hid (Blk (w1.setCell ⟨b,sd,none⟩ (.int .i64 (nn+1))) g 74 [.int .i64 ck,wv,dv,ta,tc,.slice (some ⟨b,0,none⟩) 6 6]):=LH (HQ1.out.far HGB.out _)
 have HL2:Hid (Blk (w1.setCell ⟨b,sd,none⟩ (.int .i64 (nn+1))) b 3 (rowVals (last.set sd (nn+1)))):=by rw [← rowQ_set];exact LH (HL1.out.set_ sd _)
 have HC2:=LH (HC.out.far (b:=b) (o:=sd) (by omega) (.int .i64 (nn+1)))
 have K2:Hid (Kp g b w (w1.setCell ⟨b,sd,none⟩ (.int .i64 (nn+1)))):=LH (K1.out.trans Kp.set2)
 have HB2:Hid (Below w0.heap.size w0 (w1.setCell ⟨b,sd,none⟩ (.int .i64 (nn+1)))):=LH (HB1.out.setCell hb _)
 clear q0 q1 q2 q3 q4 q5 qz HQ1 HL1 HC K1 HB1 ly1 lz
 generalize w1.setCell ⟨b,sd,none⟩ (.int .i64 (nn+1))=w2 at HQ2 HL2 HC2 K2 HB2 ⊢
 obtain ⟨⟨q0,q1,q2⟩,⟨q3,q4,q5⟩,qz⟩:=cells6 HQ2.out
 obtain ⟨⟨⟨p0,p1,p2,p3⟩,⟨p4,p5,p6,p7⟩,p8,p9,p10,p11⟩,pz⟩:=cells12 HC2.out
 have gl3:=HQ2.out.lt
 have cl3:=HC2.out.lt
 have bl3:=HL2.out.lt
 have S12:=LH (S1.out.go K2.out)
 have S22:=LH (S2.out.go K2.out)
 go_region_law (first
  |(go_simp;go_at_call 87;(first|refine at_box fun HT=>?_|refine at_boxD fun HT=>?_);refine (KD.out _ (S22.out _ (Kw.below (by repeat (first|with_reducible (first|exact Below.refl _ _|apply Below.drew|apply below_alloc)|((first|with_reducible refine Below.alloc ?_ ?_ _|with_reducible refine Below.setCell ?_ ?_ _);rotate_left;focus (first|(simp <;> omega)|omega))))))).mono ?_;rintro e w4 ⟨a4,n4,c4,b4,m4,d4,rfl,os,hb⟩;have HX4:Hid (Below w2.heap.size w2 w4):=below_step (by repeat (first|with_reducible (first|exact Below.refl _ _|apply Below.drew|apply below_alloc)|((first|with_reducible refine Below.alloc ?_ ?_ _|with_reducible refine Below.setCell ?_ ?_ _);rotate_left;focus (first|(simp <;> omega)|omega)))) hb;have OS:Hid (OwnS w4 w2.heap.size (.agg #[.slice a4 n4 c4,.slice b4 m4 d4]) _):=LH (OwnS.le os (by simp));have HQ4:=LH (HQ2.out.step HX4.out);obtain ⟨⟨u0,u1,u2⟩,⟨u3,u4,u5⟩,uz⟩:=cells6 HQ4.out;have sl4:=HX4.out.size;have HT4:Blk w4 w2.heap.size 33 [.slice none 0 0,.slice none 0 0]:=HT.step hb;obtain ⟨v0,v1,vz⟩:=cells2 HT4;have vl:=HT4.lt;have HTT:=LH HT4;clear hb os HT HT4)
  |(go_simp;go_at_call 87;refine (KD.out _ (S22.out _ (Kw.below (by repeat (first|with_reducible (first|exact Below.refl _ _|apply Below.drew|apply below_alloc)|((first|with_reducible refine Below.alloc ?_ ?_ _|with_reducible refine Below.setCell ?_ ?_ _);rotate_left;focus (first|(simp <;> omega)|omega))))))).mono ?_;rintro e w4 ⟨a4,n4,c4,b4,m4,d4,rfl,os,hb⟩;have HX4:Hid (Below w2.heap.size w2 w4):=below_step (by repeat (first|with_reducible (first|exact Below.refl _ _|apply Below.drew|apply below_alloc)|((first|with_reducible refine Below.alloc ?_ ?_ _|with_reducible refine Below.setCell ?_ ?_ _);rotate_left;focus (first|(simp <;> omega)|omega)))) hb;have OS:Hid (OwnS w4 w2.heap.size (.agg #[.slice a4 n4 c4,.slice b4 m4 d4]) _):=LH (OwnS.le os (by simp));have HQ4:=LH (HQ2.out.step HX4.out);obtain ⟨⟨u0,u1,u2⟩,⟨u3,u4,u5⟩,uz⟩:=cells6 HQ4.out;have sl4:=HX4.out.size;clear hb os))
 all_goals
  first
   |(show Exit.then _ _ _ _ (w4.alloc (.cells #[.slice a4 n4 c4,.slice b4 m4 d4] 33))
     have HX5:Hid (Below w2.heap.size w2 (w4.alloc (.cells #[.slice a4 n4 c4,.slice b4 m4 d4] 33))):=LH (HX4.out.alloc HX4.out.size _)
     have HQ5:Hid (Blk (w4.alloc (.cells #[.slice a4 n4 c4,.slice b4 m4 d4] 33)) g 74 [.int .i64 ck,wv,dv,ta,tc,.slice (some ⟨b,0,none⟩) 6 6]):=LH (HQ2.out.step HX5.out)
     have HL5:Hid (Blk (w4.alloc (.cells #[.slice a4 n4 c4,.slice b4 m4 d4] 33)) b 3 (rowVals (last.set sd (nn+1)))):=LH (HL2.out.step HX5.out)
     have OS5:Hid (OwnS (w4.alloc (.cells #[.slice a4 n4 c4,.slice b4 m4 d4] 33)) w2.heap.size (.agg #[.slice a4 n4 c4,.slice b4 m4 d4]) U):=LH (OS.out.keep ((Below.refl _ _).alloc (Nat.le_refl _) _))
     have HT5:Hid (Blk (w4.alloc (.cells #[.slice a4 n4 c4,.slice b4 m4 d4] 33)) w4.heap.size 33 [.slice a4 n4 c4,.slice b4 m4 d4]):=LH (Blk.new rfl)
     clear HX4 HQ4 OS
     try clear HTT
     try clear v0 v1 vz vl
     clear u0 u1 u2 u3 u4 u5 uz
     generalize (w4.alloc (.cells #[.slice a4 n4 c4,.slice b4 m4 d4] 33))=w5 at HX5 HQ5 HL5 OS5 HT5 ⊢
     obtain ⟨⟨u0,u1,u2⟩,⟨u3,u4,u5⟩,uz⟩:=cells6 HQ5.out
     obtain ⟨v0,v1,vz⟩:=cells2 HT5.out
     have vl:=HT5.out.lt
     have ul:=HQ5.out.lt         )
   |(show Exit.then _ _ _ _ ((w4.setCell ⟨w2.heap.size,0,none⟩ (.slice a4 n4 c4)).setCell ⟨w2.heap.size,1,none⟩ (.slice b4 m4 d4))
     have HX5:Hid (Below w2.heap.size w2 ((w4.setCell ⟨w2.heap.size,0,none⟩ (.slice a4 n4 c4)).setCell ⟨w2.heap.size,1,none⟩ (.slice b4 m4 d4))):=LH ((HX4.out.setCell (Nat.le_refl _) _).setCell (Nat.le_refl _) _)
     have HQ5:Hid (Blk ((w4.setCell ⟨w2.heap.size,0,none⟩ (.slice a4 n4 c4)).setCell ⟨w2.heap.size,1,none⟩ (.slice b4 m4 d4)) g 74 [.int .i64 ck,wv,dv,ta,tc,.slice (some ⟨b,0,none⟩) 6 6]):=LH (HQ2.out.step HX5.out)
     have HL5:Hid (Blk ((w4.setCell ⟨w2.heap.size,0,none⟩ (.slice a4 n4 c4)).setCell ⟨w2.heap.size,1,none⟩ (.slice b4 m4 d4)) b 3 (rowVals (last.set sd (nn+1)))):=LH (HL2.out.step HX5.out)
     have OS5:Hid (OwnS ((w4.setCell ⟨w2.heap.size,0,none⟩ (.slice a4 n4 c4)).setCell ⟨w2.heap.size,1,none⟩ (.slice b4 m4 d4)) w2.heap.size (.agg #[.slice a4 n4 c4,.slice b4 m4 d4]) U):=LH (OS.out.box2 HTT.out)
     have HT5:Hid (Blk ((w4.setCell ⟨w2.heap.size,0,none⟩ (.slice a4 n4 c4)).setCell ⟨w2.heap.size,1,none⟩ (.slice b4 m4 d4)) w2.heap.size 33 [.slice a4 n4 c4,.slice b4 m4 d4]):=LH ((HTT.out.set_ 0 _).set_ 1 _)
     clear HX4 HQ4 OS
     try clear HTT
     try clear v0 v1 vz vl
     clear u0 u1 u2 u3 u4 u5 uz
     generalize ((w4.setCell ⟨w2.heap.size,0,none⟩ (.slice a4 n4 c4)).setCell ⟨w2.heap.size,1,none⟩ (.slice b4 m4 d4))=w5 at HX5 HQ5 HL5 OS5 HT5 ⊢
     obtain ⟨⟨u0,u1,u2⟩,⟨u3,u4,u5⟩,uz⟩:=cells6 HQ5.out
     obtain ⟨v0,v1,vz⟩:=cells2 HT5.out
     have vl:=HT5.out.lt
     have ul:=HQ5.out.lt         )
 all_goals
  by_cases hx:x=0
  ·have hxb:(x == 0)=true:=by simpa using hx
   have HE3:=LH (show onTopM ⟨kd,⟨i1,gl,t1,k1,bo⟩,ci,ct,ml,cp,cw,cn⟩ last m=(last.set sd (nn+1),u) by rw [HE2.out,if_pos hx])
   have HU2:=LH (show U=streamM u by rw [HU.out,if_pos hx])
   clear hx HE2
   go_wp2_with fail
   refine bodyPost_end (v:=.tuple #[]) (by simp [results,Tryz.results46,go_sem]) rfl ⟨rfl,?_,?_,?_⟩
   ·rw [HE3.out]
    have hfar:∀ k,k≠g→((w5.setCell ⟨g,3,none⟩ (.slice a4 n4 c4)).setCell ⟨g,4,none⟩ (.slice b4 m4 d4)).heap[k]?=w5.heap[k]?:=fun k hk=>(heap_set _ _ _ _ k hk).trans (heap_set _ _ _ _ k hk)
    have kf:Kp g b w2 ((w5.setCell ⟨g,3,none⟩ (.slice a4 n4 c4)).setCell ⟨g,4,none⟩ (.slice b4 m4 d4)):=((Kp.below HX5.out).trans Kp.set1).trans Kp.set1
    have os:=OwnS.agree OS5.out (fun k hk _=>hfar k (by omega))
    refine ⟨wv,dv,.slice a4 n4 c4,.slice b4 m4 d4,by rw [← HCK.out];exact (HQ5.out.set_ 3 _).set_ 4 _,(HL5.out.far (fun e=>HGB.out e.symm) _).far (fun e=>HGB.out e.symm) _,HGB.out,by rw [← HCK.out];exact S12.out.go kf,?_⟩
    rw [← HU2.out]
    exact Stab.st os gl3 bl3
   ·exact (K2.out.trans (Kp.below HX5.out)).trans (Kp.set1.trans Kp.set1)
   ·exact ((Below.step HB2.out HX5.out HB2.out.size).setCell hg _).setCell hg _
  ·have hxb:(x == 0)=false:=by simpa using hx
   have HE3:=LH (show onTopM ⟨kd,⟨i1,gl,t1,k1,bo⟩,ci,ct,ml,cp,cw,cn⟩ last m=(last.set sd (nn+1),m) by rw [HE2.out,if_neg hx])
   clear hx HE2
   go_wp2_with fail
   refine bodyPost_end (v:=.tuple #[]) (by simp [results,Tryz.results46,go_sem]) rfl ⟨rfl,?_,K2.out.trans (Kp.below HX5.out),Below.step HB2.out HX5.out HB2.out.size⟩
   rw [HE3.out]
   exact ⟨wv,dv,ta,tc,by rw [← HCK.out];exact HQ5.out,HL5.out,HGB.out,by rw [← HCK.out];exact S12.out.go (Kp.below HX5.out),S22.out.go (Kp.below HX5.out)⟩
end Go.Proofs.YtdfmcgekfogpbabGreatDoor
