/-
  Proved here: The given statement TopSameOrder, walked: of honest logs any two group
-/
import Derived.Test.YtkkohllhebdlcaaGreatDoorY44
set_option maxRecDepth 100000
namespace Go.Proofs.YtkkohllhebdlcaaGreatDoor.TopSameOrder
open Go.RowKit
set_option maxHeartbeats 16000000 in
set_option maxRecDepth 100000 in
theorem walk {v:Value} {m:List (List ByteArray)} {w:World} (hty:ErrTy w) (h:LogsR w v m) (hs:∀ l∈m,∀ s∈l,s.size≤maxLen):Calls Tryz.prog 3 #[v] w (LawEnd w):=by
 obtain ⟨i0,hi,hz0,hz1,hz2⟩:=info_parts info_tks
 have KH:Hid (∀ W,Below w.heap.size w W→Calls Tryz.prog 6 #[v] W (HonestEnd m W)):=fun W hW=>honest_any (h.below hW) hs
 have KG:Hid (∀ W,Below w.heap.size w W→Calls Tryz.prog 5 #[v] W (TopGreatEnd W)):=fun W hW=>topGreat_any (h.below hW)
 obtain ⟨a,cap,rfl,hmx⟩:=h.shape
 obtain ⟨n,hn⟩:∃ n,n=m.length:=⟨_,rfl⟩
 have KP:Hid (∀ (k:Nat) (u:Value) (W:World),k < n→k < 4→Below w.heap.size w W→SliceR W u 1 strCell (m.getD k [])→(cmdsP (m.getD k [])).2=0→Calls Tryz.prog 7 #[.int .i64 (k:Int),u] W (PlayEnd 0 (playR (k:Int) (m.getD k [])) W)):=fun k u W hk h4 hW hu hx=>by
  have:=play_any (g:=(k:Int)) (hty.below hW) hu (by
   have hkm:k < m.length:=by omega
   refine hs _ ?_
   rw [show m.getD k []=m[k] by simp [List.getD,hkm]]
   exact List.getElem_mem hkm)
  rw [playX,if_neg (by omega),hx] at this
  exact this
 have KD:Hid (Calls Tryz.prog 4 #[] w fun e w'=>e=.returned (.bool true)∧Below w.heap.size w w'):=deliv_any hty
 have HS:=LH h
 have HN:=LH hn
 have HA:Hid (0 < n→∃ b off,a=some ⟨b,off,none⟩):=fun hp=>by
  obtain ⟨us,h1,h2,_⟩:=h
  obtain ⟨a',cap',e,_,_,_,h5⟩:=h1
  obtain ⟨b,off,e2,_⟩:=h5 (by omega)
  injection e with e1 _ _
  exact ⟨b,off,e1.trans e2⟩
 rw [← hn] at hmx HS KH KG ⊢
 unfold maxLen at hmx
 clear h hn hs hty
 go_enter Tryz.func3,Tryz.ntmps3
 go_wp2_with fail
 refine KD.out.mono ?_
 rintro e w1 ⟨rfl,hb⟩
 have HB1:=LH hb
 clear hb KD
 go_wp2_with fail
 refine (KG.out _ HB1.out).mono ?_
 rintro e w2 ⟨⟨z,rfl⟩,rfl⟩
 cases z
 rotate_left
 ·go_wp2_with fail
  go_ret
  exact ⟨rfl,HB1.out⟩
 clear KG
 go_wp2_with fail
 refine (KH.out _ HB1.out).mono ?_
 rintro e w2 ⟨z,x,rfl,hb,hok⟩
 have HB2:Hid (Below w.heap.size w w2):=below_step HB1.out hb
 have HOK:=LH hok
 clear hb hok KH HB1
 by_cases hx:x=0
 rotate_left
 ·have hxb:(x != 0)=true:=by simpa using hx
  clear hx
  go_wp2_with fail
  go_ret
  exact ⟨rfl,HB2.out⟩
 subst hx
 cases z
 ·clear HOK
  go_wp2_with fail
  go_ret
  exact ⟨rfl,HB2.out⟩
 have hon:=HOK.out rfl rfl
 have HON:=LH hon
 have h4:n≤4:=by rw [HN.out];exact hon.four
 clear hon HOK
 go_wp2_with fail
 go_loopg [6,7,8,9,10] n (fun gh pv gv _ _ _ wr=>∃ (k:Nat) (pa:Option Addr) (pc:Nat) (ps:List (List Tk)),k≤n∧gh=n - k∧gv=.int .i64 (k:Int)∧pv=.slice pa k pc∧Hid (ps.length=k)∧Hid (ps++putFrom k (m.drop k)=putF m)∧Hid (OwnPut wr w.heap.size (.slice pa k pc) ps)∧Hid (Below w.heap.size w wr))
 case atStart=>exact ⟨0,none,0,[],Nat.zero_le _,rfl,rfl,rfl,rfl,rfl,LH (OwnPut.nil _ _),HB2⟩
 case round =>
  clear HB2
  obtain ⟨k,pa,pc,ps,hk,rfl,rfl,rfl,HL,HE,HO,HB⟩:=hrel
  by_cases hlt:k < n
  ·have hk0:(0:Int)≤(k:Int):=by omega
   have hk1:(k:Int) < (n:Int):=by omega
   obtain ⟨b,off,rfl⟩:=HA.out (by omega)
   obtain ⟨ua,uc,c0,hr⟩:=LogsR.at_ (HS.out.below HB.out) (i:=k) (by rw [← HN.out];exact hlt)
   have KT:=LH (KP.out k _ wr hlt (by omega) HB.out hr (HON.out.ok k (by rw [← HN.out];exact hlt)))
   obtain ⟨un,hun⟩:∃ un,un=(m.getD k []).length:=⟨_,rfl⟩
   rw [← hun] at c0 KT
   have hdr:m.drop k=m.getD k [] :: m.drop (k+1):=by
    have hkl:k < m.length:=by rw [← HN.out];exact hlt
    rw [List.drop_eq_getElem_cons hkl]
    simp [List.getD,hkl]
   have he:=HE.out
   rw [hdr,putFrom] at he
   obtain ⟨R,hR⟩:∃ R,R=playR (k:Int) (m.getD k []):=⟨_,rfl⟩
   rw [← hR] at he KT
   have HE2:=LH he
   clear hr hun hdr he HE hR
   go_wp2_with fail
   refine KT.out.mono ?_
   rintro e w3 ⟨ck,wa,wn,wc,da,dn,dc,ta,tn,tc,ca,cn,cc,la,ln,lc,qa,qn,qc,rfl,hb,hr⟩
   obtain ⟨hqn,hot,-,-⟩:=hr rfl
   have HB3:Hid (Below w.heap.size w w3):=below_step HB.out hb
   have HO3:=LH (HO.out.keep hb)
   have HT3:Hid (OwnTk w3 w.heap.size (.slice qa qn qc) R.2):=LH (ownsRow_le hot HB.out.size)
   obtain ⟨vs,hvs,hrow,hall⟩:=HO3.out
   rw [HL.out] at hrow
   have HVS:=LH hvs
   have HROW:=LH hrow
   have HALL:=LH hall
   clear hb hr hqn hot KT c0 HO HB hvs hrow hall
   go_upto_region 14 with fail
   have hA:Below w3.heap.size w3 (w3.alloc (.cells #[.int .i64 ck,.slice wa wn wc,.slice da dn dc,.slice ta tn tc,.slice ca cn cc,.slice la ln lc] 39)):=(Below.refl _ _).alloc (Nat.le_refl _) _
   have HB4:Hid (Below w.heap.size w (w3.alloc (.cells #[.int .i64 ck,.slice wa wn wc,.slice da dn dc,.slice ta tn tc,.slice ca cn cc,.slice la ln lc] 39))):=below_step HB3.out hA
   have HT4:Hid (OwnTk (w3.alloc (.cells #[.int .i64 ck,.slice wa wn wc,.slice da dn dc,.slice ta tn tc,.slice ca cn cc,.slice la ln lc] 39)) w.heap.size (.slice qa qn qc) R.2):=LH (ownsRow_keep HT3.out hA)
   have HROW4:=LH (ownsRow_keep HROW.out hA)
   have HALL4:Hid (∀ p∈vs,OwnTk (w3.alloc (.cells #[.int .i64 ck,.slice wa wn wc,.slice da dn dc,.slice ta tn tc,.slice ca cn cc,.slice la ln lc] 39)) w.heap.size p.1 p.2):=LH (fun p hp=>ownsRow_keep (HALL.out p hp) hA)
   clear hA HB3 HO3 HT3 HROW HALL
   generalize (w3.alloc (.cells #[.int .i64 ck,.slice wa wn wc,.slice da dn dc,.slice ta tn tc,.slice ca cn cc,.slice la ln lc] 39))=w4 at HB4 HT4 HROW4 HALL4 ⊢
   go_wp2_with (at_builtin;go_must (refine wpList_append_own _ rfl _ _ 28 rfl w.heap.size 40 i0 _ 1 24 Tryz.underlying28 hi hz0 hz1 hz2 rfl (by decide) _ _ _ rfl (ownsRow_keep HROW4.out ((Below.refl _ _).alloc (Nat.le_refl _) _)) ⟨w4.heap.size,0,none⟩ 1 1 [.slice qa qn qc] rfl rfl ?_ (by intro v hv;simp at hv;subst hv;rfl) (by unfold maxLen;omega) (by omega) (by have:=HB4.out.size;simp;omega) ?_))
   ·exact news_1 _ rfl
   ·intro v' w5 hown2 hgrow _
    have hbw:Below w4.heap.size w4 (w4.alloc (.cells #[.slice qa qn qc] 40)):=(Below.refl _ _).alloc (Nat.le_refl _) _
    have HO5:=LH (OwnPut.snoc (u:=.slice qa qn qc) HVS.out (ownsRow_keep HROW4.out hbw) (fun p hp=>ownsRow_keep (HALL4.out p hp) hbw) (ownsRow_keep HT4.out hbw) hgrow hown2 HL.out.symm)
    have HB5:Hid (Below w.heap.size w w5):=LH (grown_below (below_step HB4.out hbw) hgrow (by have:=HB4.out.size;have:=hbw.size;omega) (fun j hj=>(HROW4.out.lt j hj).1))
    obtain ⟨a',c',hv'⟩:=row_shape hown2
    subst hv'
    clear hown2 hgrow hbw HROW4 HALL4 HT4 HB4
    go_wp2_with fail
    go_roundg (n - (k+1))
    case measure=>omega
    case rel =>
     refine ⟨k+1,a',c',ps++[R.2],by omega,rfl,by go_num,rfl,?_,?_,HO5,HB5⟩
     ·refine LH ?_
      rw [List.length_append,HL.out]
      rfl
     ·refine LH ?_
      rw [List.append_assoc]
      exact HE2.out
  ·obtain rfl:k=n:=by omega
   have hlt':¬ (k:Int) < (k:Int):=by omega
   have he:=HE.out
   rw [List.drop_eq_nil_of_le (by rw [← HN.out];exact Nat.le_refl _),putFrom,List.append_nil] at he
   subst he
   have HKM:=LH (show k=m.length from HN.out)
   clear HE hlt' KP HA HS HN
   go_wp2_with fail
   go_loopg [11,12,13,14,15] k (fun gh av _ _ _ _ wr=>∃ (p:Nat),p≤k∧gh=k - p∧av=.int .i64 (p:Int)∧Hid (OwnPut wr w.heap.size (.slice pa k pc) (putF m))∧Hid (Below w.heap.size w wr))
   case atStart=>exact ⟨0,Nat.zero_le _,rfl,rfl,HO,HB⟩
   case round =>
    clear HO HB
    obtain ⟨p,hp,rfl,rfl,HO,HB⟩:=hrel
    by_cases hpl:p < k
    ·have hp0:(0:Int)≤(p:Int):=by omega
     have hp1:(p:Int) < (k:Int):=by omega
     go_wp2_with fail
     go_loopg [12,13,14,15] p (fun gh bv _ _ _ wr=>∃ (q:Nat),q≤p∧gh=p - q∧bv=.int .i64 (q:Int)∧Hid (OwnPut wr w.heap.size (.slice pa k pc) (putF m))∧Hid (Below w.heap.size w wr))
     case atStart=>exact ⟨0,Nat.zero_le _,rfl,rfl,HO,HB⟩
     case round =>
      clear HO HB
      obtain ⟨q,hq,rfl,rfl,HO,HB⟩:=hrel
      by_cases hql:q < p
      ·have hq0:(0:Int)≤(q:Int):=by omega
       have hq1:(q:Int) < (p:Int):=by omega
       have hq2:(q:Int) < (k:Int):=by omega
       have hpm:p < m.length:=by rw [← HKM.out];omega
       have hqm:q < m.length:=by rw [← HKM.out];omega
       obtain ⟨gb,off,u1,rfl,c1,o1⟩:=HO.out.at_ (i:=p) (by rw [putF,putFrom_len];exact hpm)
       obtain ⟨gb',off',u2,e2,c2,o2⟩:=HO.out.at_ (i:=q) (by rw [putF,putFrom_len];exact hqm)
       obtain ⟨rfl,rfl⟩:gb=gb'∧off=off':=by simpa using e2
       have f1:=putF_few HON.out hpm
       have f2:=putF_few HON.out hqm
       have hsm:=pair_same HON.out hpm hqm
       obtain ⟨A,hA⟩:∃ A,A=(putF m).getD p []:=⟨_,rfl⟩
       obtain ⟨B,hB⟩:∃ B,B=(putF m).getD q []:=⟨_,rfl⟩
       rw [← hA] at o1 f1 hsm
       rw [← hB] at o2 f2 hsm
       obtain ⟨L,hL⟩:∃ L,L=bothQ A B:=⟨_,rfl⟩
       rw [← hL] at hsm
       obtain ⟨a1,d1,rfl⟩:=row_shape o1
       obtain ⟨a2,d2,rfl⟩:=row_shape o2
       obtain ⟨ln,hln⟩:∃ ln,ln=L.length:=⟨_,rfl⟩
       obtain ⟨n1,hn1⟩:∃ n1,n1=A.length:=⟨_,rfl⟩
       obtain ⟨n2,hn2⟩:∃ n2,n2=B.length:=⟨_,rfl⟩
       have hgl:gb < wr.heap.size:=World.block_lt_of_cell? wr _ c1
       have K1:Hid (∀ W,Below wr.heap.size wr W→Calls Tryz.prog 8 #[.slice a1 n1 d1,.slice a2 n2 d2] W fun e W'=>∃ xa xc,e=.returned (.slice xa ln xc)∧OwnI W' W.heap.size (.slice xa ln xc) L∧Below W.heap.size W W'):=LH fun W hW=>by
        have:=both_any ((sliceR_of_owns tkCs_len o1).below tkCs_len hW) ((sliceR_of_owns tkCs_len o2).below tkCs_len hW) f1 f2
        rw [← hL] at this
        rw [hn1,hn2]
        refine this.mono ?_
        rintro e W' ⟨xa,xc,e1,e2,e3⟩
        rw [← hln] at e1 e2
        exact ⟨xa,xc,e1,e2,e3⟩
       have K2:Hid (∀ W,Below wr.heap.size wr W→Calls Tryz.prog 8 #[.slice a2 n2 d2,.slice a1 n1 d1] W fun e W'=>∃ xa xc,e=.returned (.slice xa ln xc)∧OwnI W' W.heap.size (.slice xa ln xc) L∧Below W.heap.size W W'):=LH fun W hW=>by
        have:=both_any ((sliceR_of_owns tkCs_len o2).below tkCs_len hW) ((sliceR_of_owns tkCs_len o1).below tkCs_len hW) f2 f1
        rw [← hsm] at this
        rw [hn1,hn2]
        refine this.mono ?_
        rintro e W' ⟨xa,xc,e1,e2,e3⟩
        rw [← hln] at e1 e2
        exact ⟨xa,xc,e1,e2,e3⟩
       rw [← hn1] at c1
       rw [← hn2] at c2
       have HLN:=LH hln
       have hl6:ln≤1000000:=by
        have:=bothQ_len A B
        rw [← hL] at this
        omega
       clear hA hB hL hsm o1 o2 f1 f2 e2 hln hn1 hn2 hpm hqm
       go_upto_region 23 with fail
       have KC:Hid (∀ W':World,Below wr.heap.size wr W'→(W'.cell? ⟨gb,off+p,none⟩=some (.slice a1 n1 d1)∧W'.cell? ⟨gb,off+q,none⟩=some (.slice a2 n2 d2))):=fun W' hb=>by
        have c:=fun (p:Addr) (hp:p.block < wr.heap.size)=>hb.cell hp
        exact ⟨(c _ hgl).trans c1,(c _ hgl).trans c2⟩
       have KT:=KC.out wr (Below.refl _ _)
       have HR:Hid (Below wr.heap.size wr wr):=LH (Below.refl _ _)
       clear c1 c2
       go_region_held3 (fun W'=>W'.cell? ⟨gb,off+p,none⟩=some (.slice a1 n1 d1)∧W'.cell? ⟨gb,off+q,none⟩=some (.slice a2 n2 d2))
        (first|with_reducible exact KT|(refine KC.out _ ?_;(repeat (first|with_reducible (first|exact HR.out|exact Below.refl _ _|apply Below.drew|apply below_alloc)|((first|with_reducible refine Below.alloc ?_ ?_ _|with_reducible refine Below.setCell ?_ ?_ _);rotate_left;focus (first|(simp <;> omega)|omega))));done))
        (first
         |(go_at_call 8;(with_reducible refine Calls.mono (K1.out _ ?_) ?_);(focus (repeat (first|with_reducible (first|exact HR.out|exact Below.refl _ _|apply Below.drew|apply below_alloc)|((first|with_reducible refine Below.alloc ?_ ?_ _|with_reducible refine Below.setCell ?_ ?_ _);rotate_left;focus (first|(simp <;> omega)|omega)))));rintro e wk1 ⟨xa,xc,rfl,ox,hb⟩;have OX:=LH ox;have HU:Hid (Below wr.heap.size wr wk1):=below_step (by repeat (first|with_reducible (first|exact HR.out|exact Below.refl _ _|apply Below.drew|apply below_alloc)|((first|with_reducible refine Below.alloc ?_ ?_ _|with_reducible refine Below.setCell ?_ ?_ _);rotate_left;focus (first|(simp <;> omega)|omega)))) hb;have HR:=HU;clear hb ox)
         |(go_at_call 8;(with_reducible refine Calls.mono (K2.out _ ?_) ?_);(focus (repeat (first|with_reducible (first|exact HR.out|exact Below.refl _ _|apply Below.drew|apply below_alloc)|((first|with_reducible refine Below.alloc ?_ ?_ _|with_reducible refine Below.setCell ?_ ?_ _);rotate_left;focus (first|(simp <;> omega)|omega)))));rintro e wk2 ⟨ya,yc,rfl,oy,hb⟩;have OY:=LH oy;have HU:Hid (Below wr.heap.size wr wk2):=below_step (by repeat (first|with_reducible (first|exact HR.out|exact Below.refl _ _|apply Below.drew|apply below_alloc)|((first|with_reducible refine Below.alloc ?_ ?_ _|with_reducible refine Below.setCell ?_ ?_ _);rotate_left;focus (first|(simp <;> omega)|omega)))) hb;have HX2:=LH hb;have HR:=HU;clear hb oy))
       have HX:=LH (IntsR.below (OwnI.reads OX.out) HX2.out)
       have HY:=LH (OwnI.reads OY.out)
       have HO2:=LH (HO.out.keep HR.out)
       have HB2:Hid (Below w.heap.size w wk2):=below_step HB.out HR.out
       clear OX OY HX2 HR KC KT K1 K2 hgl
       go_wp2_with fail
       go_loopg [15] ln (fun gh iv wr=>∃ (i:Nat),i≤ln∧gh=ln - i∧iv=.int .i64 (i:Int)∧Hid (IntsR wr (.slice xa ln xc) L)∧Hid (IntsR wr (.slice ya ln yc) L)∧Hid (OwnPut wr w.heap.size (.slice (some ⟨gb,off,none⟩) k pc) (putF m))∧Hid (Below w.heap.size w wr))
       case atStart=>exact ⟨0,Nat.zero_le _,rfl,rfl,HX,HY,HO2,HB2⟩
       case round =>
        clear HX HY HO2 HB2 HO HB
        obtain ⟨i,hil,rfl,rfl,HX,HY,HO,HB⟩:=hrel
        by_cases hlt:i < ln
        ·have hj0:(0:Int)≤(i:Int):=by omega
         have hj1:(i:Int) < (ln:Int):=by omega
         obtain ⟨xa',xc',e1,-,-,-,hx5⟩:=HX.out.shape
         obtain ⟨ya',yc',e2,-,-,-,hy5⟩:=HY.out.shape
         obtain ⟨xb,xo,f1,hx6⟩:=hx5 (by rw [← HLN.out];omega)
         obtain ⟨yb,yo,f2,hy6⟩:=hy5 (by rw [← HLN.out];omega)
         obtain rfl:xa=some ⟨xb,xo,none⟩:=by
          rw [f1] at e1
          simp at e1
          exact e1.1
         obtain rfl:ya=some ⟨yb,yo,none⟩:=by
          rw [f2] at e2
          simp at e2
          exact e2.1
         have c1:=hx6 i (by rw [← HLN.out];exact hlt)
         have c2:=hy6 i (by rw [← HLN.out];exact hlt)
         have b1:xb < wr.heap.size:=World.block_lt_of_cell? wr _ c1
         have b2:yb < wr.heap.size:=World.block_lt_of_cell? wr _ c2
         obtain ⟨r,hr⟩:∃ r,r=L.getD i 0:=⟨_,rfl⟩
         rw [← hr] at c1 c2
         have hrr:(r != r)=false:=by simp
         clear e1 e2 hx5 hy5 f1 f2 hx6 hy6 hr
         go_wp2_with fail
         go_region
         have hd:Below wr.heap.size wr wr.drew:=(Below.refl _ _).drew
         have HX2:=LH (IntsR.below HX.out hd)
         have HY2:=LH (IntsR.below HY.out hd)
         have HO2:=LH (HO.out.keep hd)
         have HB2:Hid (Below w.heap.size w wr.drew):=below_step HB.out hd
         clear hd HX HY HO HB c1 c2 b1 b2
         generalize wr.drew=wd at HX2 HY2 HO2 HB2 ⊢
         go_wp2_with fail
         go_roundg (ln - (i+1))
         case measure=>omega
         case rel=>exact ⟨i+1,by omega,rfl,by go_num,HX2,HY2,HO2,HB2⟩
        ·obtain rfl:i=ln:=by omega
         have hlt':¬ (i:Int) < (i:Int):=by omega
         go_wp2_with fail
         go_roundg (p - (q+1))
         case measure=>omega
         case rel=>exact ⟨q+1,by omega,rfl,by go_num,HO,HB⟩
      ·obtain rfl:q=p:=by omega
       have hlt':¬ (q:Int) < (q:Int):=by omega
       go_wp2_with fail
       go_roundg (k - (q+1))
       case measure=>omega
       case rel=>exact ⟨q+1,by omega,rfl,by go_num,HO,HB⟩
    ·obtain rfl:p=k:=by omega
     have hlt':¬ (p:Int) < (p:Int):=by omega
     go_wp2_with fail
     go_ret
     exact ⟨rfl,HB.out⟩
end Go.Proofs.YtkkohllhebdlcaaGreatDoor.TopSameOrder
