/-
  Proved here: skeen.Check: which clocks may be. No condition but that the clock read
-/
import Derived.Test.YtkkohllhebdlcaaGreatDoorY19
set_option maxRecDepth 100000
namespace Go.Proofs.YtkkohllhebdlcaaGreatDoor
open Go.RowKit
theorem chkD_cons (ck:Int) (last:Option (Int × Int)) (seen:List Int) (x:Int × Int) (l:List (Int × Int)):chkD ck last seen (x :: l)=(okSt x && !decide (x.1 < 1) && !decide (ck < x.1) && (match last with|none=>true|some y=>lessB y.1 y.2 x.1 x.2) && !decide (x.2∈seen) && chkD ck (some x) (x.2 :: seen) l):=rfl
theorem chkW_cons (ck:Int) (ids:List Int) (d:Option (Int × Int)) (prev:Option Int) (y:Wt) (l:List Wt):chkW ck ids d prev (y :: l)=(msgB y.msg && !decide (y.time < 1) && !decide (ck < y.time) && (match prev with|none=>true|some p=>!decide (y.msg.id≤p)) && !decide (y.msg.id∈ids) && (match d with|none=>true|some x=>lessB x.1 x.2 y.time y.msg.id) && chkW ck ids d (some y.msg.id) l):=rfl
theorem field_fin (yi:Int) (a:Option Addr) (n c:Nat) (yt:Int) (yk yb:ByteArray) (tm:Int) (fn:Bool) (w:World):Sem.run Tryz.prog (Instr.field 65 (.agg #[.int .i64 yi,.slice a n c,.int .i64 yt,.string yk,.string yb,.int .i64 tm,.bool fn]) 2) w=.ok (.bool fn) w:=by kernel_rfl
theorem drop_cons' {α:Type} {l:List α} {k:Nat} (h:k < l.length):l.drop k=l[k] :: l.drop (k+1):=List.drop_eq_getElem_cons h
set_option maxHeartbeats 32000000 in
set_option maxRecDepth 100000 in
theorem skChk_body {ck:Int} {wl:List Wt} {dl:List (Int × Int)} {pl:List (Value × Wt)} {a b:Option Addr} {n c dn d:Nat} {w:World} {r:Int} (hn:n=wl.length) (hdn:dn=dl.length) (hpl:pl.map (·.2)=wl) (hw:WtsR w (.slice a n c) pl) (hgi:∀ p∈pl,IntsR w p.1 p.2.msg.groups) (hd:SliceR w (.slice b dn d) 2 stCells dl)
  (h0:0≤ck) (h1:ck≤1073741824) (h2:n≤200) (h3:dn≤200) (hr:r=if (chkD ck none [] dl && (chkW ck (dl.map (·.2)) dl.getLast? none wl && !minS wl))=true then 0 else 8) :
  Calls Tryz.prog 52 #[.agg #[.int .i64 ck,.slice a n c,.slice b dn d]] w fun e w'=>e=.returned (.int .i64 r)∧Below w.heap.size w w':=by
 have WT:=LH hw
 have GI:=LH hgi
 have HPL:=LH hpl
 have HN:=LH hn
 have HDN:=LH hdn
 have HR:=LH hr
 have h2':(n:Int)≤200:=by omega
 have h3':(dn:Int)≤200:=by omega
 have hmm:=@run_makeMap Tryz.prog
 have hff:=field_fin
 have DC:Hid (0 < dn→∃ g off,b=some ⟨g,off,none⟩∧∀ i (hi:i < dl.length),w.cell? ⟨g,off+i * 2,none⟩=some (.int .i64 (dl[i]).1)∧w.cell? ⟨g,off+i * 2+1,none⟩=some (.int .i64 (dl[i]).2)):=by
  intro hp
  obtain ⟨a',cap',e1,_,_,_,h5⟩:=hd
  obtain ⟨g,off,ha,hat⟩:=h5 (by omega)
  refine ⟨g,off,by cases e1;exact ha,fun i hi=>⟨hat i hi 0 (by omega),hat i hi 1 (by omega)⟩⟩
 clear hw hgi hd hpl hn hdn hr
 go_enter Tryz.func52,Tryz.ntmps52
 go_wp2_with fail
 go_loopg [33] dn (fun gh i wr=>∃ (k:Nat) (la:Int × Int),k≤dn∧gh=dn - k∧i=.int .i64 (k:Int) ∧
  Hid (k=0∨(dl.take k).getLast?=some la)∧Hid (chkD ck none [] dl=chkD ck (dl.take k).getLast? ((dl.take k).map (·.2)).reverse (dl.drop k)) ∧
  Hid (SeenI Tryz.prog 3 3 wr (w.heap.size+1) k ((dl.take k).map (·.2)).reverse)∧Hid (Below w.heap.size w wr)∧Hid (Blk wr w.heap.size 32 [.int .i64 ck,.slice a n c,.slice b dn d])∧Hid (Blk wr (w.heap.size+2) 104 [.int .i64 la.1,.int .i64 la.2]))
 case atStart =>
  refine ⟨0,(0,0),Nat.zero_le _,rfl,rfl,LH (Or.inl rfl),LH rfl,LH ?_,LH ?_,LH ?_,LH ?_⟩
  ·have e:(w.alloc (.cells #[.int .i64 ck,.slice a n c,.slice b dn d] 32)).heap.size=w.heap.size+1:=by simp
   rw [← e]
   exact (SeenI.made _ _ _ _).same (Below.heap_alloc _ _ _ (by simp))
  ·repeat (first|with_reducible (first|exact Below.refl _ _|apply Below.drew|apply below_alloc)|((first|with_reducible refine Below.alloc ?_ ?_ _|with_reducible refine Below.setCell ?_ ?_ _);rotate_left;focus (first|(simp <;> omega)|omega)))
  ·repeat (first|with_reducible exact Below.refl _ _|((with_reducible apply Blk.new);focus (first|rfl|(simp <;> omega)))|with_reducible (first|apply Blk.drew|apply Blk.alloc|apply Blk.set_)|((with_reducible apply Blk.far);rotate_left;focus (first|(simp <;> omega)|omega)))
  ·repeat (first|with_reducible exact Below.refl _ _|((with_reducible apply Blk.new);focus (first|rfl|(simp <;> omega)))|with_reducible (first|apply Blk.drew|apply Blk.alloc|apply Blk.set_)|((with_reducible apply Blk.far);rotate_left;focus (first|(simp <;> omega)|omega)))
 case round =>
  obtain ⟨k,⟨l1,l2⟩,hk,rfl,rfl,HLA,HCH,HS,HB,HQ,HL⟩:=hrel
  simp only at HL
  obtain ⟨q0,q1,q2,qz⟩:=cells3 HQ.out
  obtain ⟨p0,p1,pz⟩:=cells2 HL.out
  have sl:=HB.out.size
  have ql:=HQ.out.lt
  have pl':=HL.out.lt
  have sb:=HS.out.lt
  by_cases hlt:k < dn
  ·have hk0:(0:Int)≤(k:Int):=by omega
   have hk1:(k:Int) < (dn:Int):=by omega
   obtain ⟨g,off,hb0,hat⟩:=DC.out (by omega)
   subst hb0
   have hkl:k < dl.length:=by rw [← HDN.out];exact hlt
   obtain ⟨c0,c1⟩:=hat k hkl
   obtain ⟨x,hx⟩:∃ x,x=dl[k]:=⟨_,rfl⟩
   rw [← hx] at c0 c1
   have HTK:Hid (dl.take (k+1)=dl.take k++[x]):=by rw [List.take_succ_eq_append_getElem hkl,hx];exact LH rfl
   have hc2:=HCH.out
   rw [drop_cons' hkl,← hx,chkD_cons] at hc2
   obtain ⟨t,i⟩:=x
   simp only at c0 c1
   have c0:=keep HB.out c0
   have c1:=keep HB.out c1
   obtain ⟨LS,hLS⟩:∃ LS,LS=(dl.take k).getLast?:=⟨_,rfl⟩
   obtain ⟨SN,hSN⟩:∃ SN,SN=((dl.take k).map (·.2)).reverse:=⟨_,rfl⟩
   rw [← hLS,← hSN] at hc2
   have HC2:=LH hc2
   clear hc2
   rw [← hLS] at HLA
   rw [← hSN] at HS
   have HLS:=LH hLS
   have HSN:=LH hSN
   obtain ⟨q,hq⟩:∃ q,q=okSt (t,i):=⟨_,rfl⟩
   have HQT:=LH hq
   have KS:Hid (∀ W,Calls Tryz.prog 78 #[.agg #[.int .i64 t,.int .i64 i]] W fun e w'=>e=.returned (.int .i64 (if q then 0 else 8))∧Below W.heap.size W w'):=fun W=>by rw [hq];exact stcheck_any (t,i) W
   have KL:Hid (∀ W,Calls Tryz.prog 79 #[.agg #[.int .i64 l1,.int .i64 l2],.agg #[.int .i64 t,.int .i64 i]] W fun e w'=>e=.returned (.bool (lessB l1 l2 t i))∧Below W.heap.size W w'):=fun W=>less_any l1 l2 t i W
   clear hat hkl hx hLS hSN hq HCH
   go_wp2_with fail
   refine (KS.out _).mono ?_
   rintro e w2 ⟨rfl,hb⟩
   have HX2:Hid (Below wr.heap.size wr w2):=below_step (by repeat (first|with_reducible (first|exact Below.refl _ _|apply Below.drew|apply below_alloc)|((first|with_reducible refine Below.alloc ?_ ?_ _|with_reducible refine Below.setCell ?_ ?_ _);rotate_left;focus (first|(simp <;> omega)|omega)))) hb
   have HT2:Hid (Blk w2 wr.heap.size 104 [.int .i64 t,.int .i64 i]):=LH (Blk.step (by repeat (first|with_reducible exact Blk.new rfl|((with_reducible apply Blk.new);focus (first|rfl|(simp <;> omega)))|with_reducible (first|apply Blk.drew|apply Blk.alloc|apply Blk.set_)|((with_reducible apply Blk.far);rotate_left;focus (first|(simp <;> omega)|omega)))) hb)
   have HQ2:=LH (HQ.out.step HX2.out)
   have HL2:=LH (HL.out.step HX2.out)
   have HS2:=LH (HS.out.below HX2.out)
   have HB2:Hid (Below w.heap.size w w2):=LH (Below.step HB.out HX2.out sl)
   clear hb KS c0 c1 q0 q1 q2 qz p0 p1 pz HX2 HQ HL HS HB ql sb
   obtain ⟨q0,q1,q2,qz⟩:=cells3 HQ2.out
   obtain ⟨p0,p1,pz⟩:=cells2 HL2.out
   obtain ⟨t0,t1,tz⟩:=cells2 HT2.out
   cases q
   ·have HE:Hid (r=8):=by rw [HR.out,HC2.out,← HQT.out];exact LH rfl
    go_wp2_with fail
    go_ret
    exact ⟨by rw [HE.out];rfl,HB2.out⟩
   have hok:0≤t∧t≤1073741824∧0≤i∧i < 6291456:=of_decide_eq_true HQT.out.symm
   have hsm:(Lit.int .i64 i).wf=true:=wf_small ⟨by omega,by omega⟩
   have HSM:=LH hsm
   clear hsm
   by_cases b1:t < 1
   ·have HE:Hid (r=8):=by rw [HR.out,HC2.out,← HQT.out,decide_eq_true b1];exact LH rfl
    go_wp2_with fail
    go_ret
    exact ⟨by rw [HE.out];rfl,HB2.out⟩
   by_cases b2:ck < t
   ·have HE:Hid (r=8):=by rw [HR.out,HC2.out,← HQT.out,decide_eq_false b1,decide_eq_true b2];exact LH rfl
    go_wp2_with fail
    go_ret
    exact ⟨by rw [HE.out];rfl,HB2.out⟩
   have B1:Hid (decide (t < 1)=false):=LH (decide_eq_false b1)
   have B2:Hid (decide (ck < t)=false):=LH (decide_eq_false b2)
   rcases Nat.eq_zero_or_pos k with hz|hz
   ·subst hz
    have hLN:LS=none:=by rw [HLS.out];rfl
    subst hLN
    clear HLA KL
    have hz0:=zero_intC w2
    have HRS:Hid (i∈SN→r=8):=fun hm=>by rw [HR.out,HC2.out,← HQT.out,B1.out,B2.out,decide_eq_true hm];rfl
    have HRG:Hid (i ∉ SN→chkD ck none [] dl=chkD ck (some (t,i)) (i :: SN) (dl.drop (0+1))):=fun hm=>by rw [HC2.out,← HQT.out,B1.out,B2.out,decide_eq_false hm];rfl
    by_cases hm:i∈SN
    ·have look:=HS2.out.look (tm:=187) Tryz.underlying3 Tryz.underlying187 Tryz.underlying3 hz0 HSM.out 1 (Or.inl ⟨hm,rfl⟩)
     have HE:Hid (r=8):=LH (HRS.out hm)
     clear hm HRS HRG
     go_wp2_with fail
     go_ret
     exact ⟨by rw [HE.out];rfl,HB2.out⟩
    have look:=HS2.out.look (tm:=187) Tryz.underlying3 Tryz.underlying187 Tryz.underlying3 hz0 HSM.out 0 (Or.inr ⟨hm,rfl⟩)
    have HG:=LH (HRG.out hm)
    obtain ⟨w5,hst1,hs5,hg5⟩:=(show SeenI Tryz.prog 3 3 w2.drew (w.heap.size+1) 0 SN from HS2.out).store (tm:=187) Tryz.underlying3 Tryz.underlying187 Tryz.underlying3 (by unfold maxLen;omega) HSM.out
    have ha6:SeenI Tryz.prog 3 3 ((w2.drew.setCell ⟨w.heap.size+2,0,none⟩ (.int .i64 t)).setCell ⟨w.heap.size+2,1,none⟩ (.int .i64 i)) (w.heap.size+1) 0 SN:=HS2.out.same ((heap_set _ _ _ _ _ (by omega)).trans (heap_set _ _ _ _ _ (by omega)))
    obtain ⟨w6,hst2,hs6,hg6⟩:=ha6.store (tm:=187) Tryz.underlying3 Tryz.underlying187 Tryz.underlying3 (by unfold maxLen;omega) HSM.out
    have HS5:=LH hs5
    have HS6:=LH hs6
    have hl5:Blk w5 (w.heap.size+2) 104 [.int .i64 l1,.int .i64 l2]:=(show Blk w2.drew _ _ _ from HL2.out).grown hg5 (by simp)
    have hq5:Blk w5 w.heap.size 32 [.int .i64 ck,.slice a n c,.slice (some ⟨g,off,none⟩) dn d]:=(show Blk w2.drew _ _ _ from HQ2.out).grown hg5 (by simp)
    have hb5:Below w.heap.size w w5:=grown_below (show Below w.heap.size w w2.drew from HB2.out.drew) hg5 HB2.out.size (fun j hj=>by cases hj;omega)
    have hl6:Blk w6 (w.heap.size+2) 104 [.int .i64 t,.int .i64 i]:=(show Blk ((w2.drew.setCell ⟨w.heap.size+2,0,none⟩ (.int .i64 t)).setCell ⟨w.heap.size+2,1,none⟩ (.int .i64 i)) _ _ _ from (HL2.out.set_ 0 _).set_ 1 _).grown hg6 (by simp)
    have hq6:Blk w6 w.heap.size 32 [.int .i64 ck,.slice a n c,.slice (some ⟨g,off,none⟩) dn d]:=(show Blk ((w2.drew.setCell ⟨w.heap.size+2,0,none⟩ (.int .i64 t)).setCell ⟨w.heap.size+2,1,none⟩ (.int .i64 i)) _ _ _ from (HQ2.out.far (by omega) _).far (by omega) _).grown hg6 (by simp)
    have hb6:Below w.heap.size w w6:=grown_below (show Below w.heap.size w ((w2.drew.setCell ⟨w.heap.size+2,0,none⟩ (.int .i64 t)).setCell ⟨w.heap.size+2,1,none⟩ (.int .i64 i)) from (HB2.out.drew.setCell (p:=⟨w.heap.size+2,_,none⟩) (by simp) _).setCell (p:=⟨w.heap.size+2,_,none⟩) (by simp) _) hg6 (by have:=HB2.out.size;simpa using this) (fun j hj=>by cases hj;omega)
    have HH5:=LH (And.intro hl5 (And.intro hq5 hb5))
    have HH6:=LH (And.intro hl6 (And.intro hq6 hb6))
    have ht5:Blk w5 wr.heap.size 104 [.int .i64 t,.int .i64 i]:=(show Blk w2.drew _ _ _ from HT2.out).grown hg5 (by simp;omega)
    obtain ⟨v0,v1,vz⟩:=cells2 hl5
    obtain ⟨x0,x1,xz⟩:=cells2 ht5
    clear ht5 hs5 hs6 hg5 hg6 hq5 hb5 hl6 hq6 hb6 ha6 hl5 hm HRS HRG
    go_wp2_with fail
    go_region
    all_goals
     go_wp2_with fail
     go_roundg (dn - (0+1))
     case measure=>omega
     case rel =>
      refine ⟨0+1,(t,i),by omega,rfl,by go_num,LH (Or.inr (by rw [HTK.out];simp)),LH ?_,LH ?_,LH ?_,LH ?_,LH ?_⟩
      ·rw [HG.out,HTK.out,HSN.out];simp
      ·have e:((dl.take (0+1)).map (·.2)).reverse=i :: SN:=by rw [HTK.out,HSN.out];simp
       rw [e]
       first|exact HS6.out|exact HS5.out.same ((heap_set _ _ _ _ _ (by omega)).trans (heap_set _ _ _ _ _ (by omega)))
      ·first|exact HH6.out.2.2|exact (HH5.out.2.2.setCell (p:=⟨w.heap.size+2,_,none⟩) (by simp) _).setCell (p:=⟨w.heap.size+2,_,none⟩) (by simp) _
      ·first|exact HH6.out.2.1|exact (HH5.out.2.1.far (by omega) _).far (by omega) _
      ·first|exact HH6.out.1|exact (HH5.out.1.set_ 0 _).set_ 1 _
   ·have hkp:(0:Int) < (k:Int):=by omega
    have hLN:LS=some (l1,l2):=HLA.out.elim (fun h=>by omega) (fun h=>h)
    subst hLN
    obtain ⟨lv,hlv⟩:∃ lv,lv=lessB l1 l2 t i:=⟨_,rfl⟩
    rw [← hlv] at KL
    have HLV:=LH hlv
    clear hlv HLA
    go_wp2_with fail
    refine (KL.out _).mono ?_
    rintro e w3 ⟨rfl,hb⟩
    have HX3:Hid (Below w2.heap.size w2 w3):=below_step (by repeat (first|with_reducible (first|exact Below.refl _ _|apply Below.drew|apply below_alloc)|((first|with_reducible refine Below.alloc ?_ ?_ _|with_reducible refine Below.setCell ?_ ?_ _);rotate_left;focus (first|(simp <;> omega)|omega)))) hb
    have HT3:=LH (HT2.out.step HX3.out)
    have HQ3:=LH (HQ2.out.step HX3.out)
    have HL3:=LH (HL2.out.step HX3.out)
    have HS3:=LH (HS2.out.below HX3.out)
    have HB3:Hid (Below w.heap.size w w3):=LH (Below.step HB2.out HX3.out HB2.out.size)
    clear hb KL q0 q1 q2 qz p0 p1 pz t0 t1 tz HX3 HQ2 HL2 HS2 HB2 HT2
    obtain ⟨q0,q1,q2,qz⟩:=cells3 HQ3.out
    obtain ⟨p0,p1,pz⟩:=cells2 HL3.out
    obtain ⟨t0,t1,tz⟩:=cells2 HT3.out
    cases lv
    ·have HE:Hid (r=8):=by rw [HR.out,HC2.out,← HQT.out,B1.out,B2.out];simp only [← HLV.out];exact LH rfl
     go_wp2_with fail
     go_ret
     exact ⟨by rw [HE.out];rfl,HB3.out⟩
    have hz0:=zero_intC w3
    have HRS:Hid (i∈SN→r=8):=fun hm=>by rw [HR.out,HC2.out,← HQT.out,B1.out,B2.out,decide_eq_true hm];simp only [← HLV.out];rfl
    have HRG:Hid (i ∉ SN→chkD ck none [] dl=chkD ck (some (t,i)) (i :: SN) (dl.drop (k+1))):=fun hm=>by rw [HC2.out,← HQT.out,B1.out,B2.out,decide_eq_false hm];simp only [← HLV.out];rfl
    by_cases hm:i∈SN
    ·have look:=HS3.out.look (tm:=187) Tryz.underlying3 Tryz.underlying187 Tryz.underlying3 hz0 HSM.out 1 (Or.inl ⟨hm,rfl⟩)
     have HE:Hid (r=8):=LH (HRS.out hm)
     clear hm HRS HRG
     go_wp2_with fail
     go_ret
     exact ⟨by rw [HE.out];rfl,HB3.out⟩
    have look:=HS3.out.look (tm:=187) Tryz.underlying3 Tryz.underlying187 Tryz.underlying3 hz0 HSM.out 0 (Or.inr ⟨hm,rfl⟩)
    have HG:=LH (HRG.out hm)
    obtain ⟨w5,hst1,hs5,hg5⟩:=(show SeenI Tryz.prog 3 3 w3.drew (w.heap.size+1) k SN from HS3.out).store (tm:=187) Tryz.underlying3 Tryz.underlying187 Tryz.underlying3 (by unfold maxLen;omega) HSM.out
    have ha6:SeenI Tryz.prog 3 3 ((w3.drew.setCell ⟨w.heap.size+2,0,none⟩ (.int .i64 t)).setCell ⟨w.heap.size+2,1,none⟩ (.int .i64 i)) (w.heap.size+1) k SN:=HS3.out.same ((heap_set _ _ _ _ _ (by omega)).trans (heap_set _ _ _ _ _ (by omega)))
    obtain ⟨w6,hst2,hs6,hg6⟩:=ha6.store (tm:=187) Tryz.underlying3 Tryz.underlying187 Tryz.underlying3 (by unfold maxLen;omega) HSM.out
    have HS5:=LH hs5
    have HS6:=LH hs6
    have hl5:Blk w5 (w.heap.size+2) 104 [.int .i64 l1,.int .i64 l2]:=(show Blk w3.drew _ _ _ from HL3.out).grown hg5 (by simp)
    have hq5:Blk w5 w.heap.size 32 [.int .i64 ck,.slice a n c,.slice (some ⟨g,off,none⟩) dn d]:=(show Blk w3.drew _ _ _ from HQ3.out).grown hg5 (by simp)
    have hb5:Below w.heap.size w w5:=grown_below (show Below w.heap.size w w3.drew from HB3.out.drew) hg5 HB3.out.size (fun j hj=>by cases hj;omega)
    have hl6:Blk w6 (w.heap.size+2) 104 [.int .i64 t,.int .i64 i]:=(show Blk ((w3.drew.setCell ⟨w.heap.size+2,0,none⟩ (.int .i64 t)).setCell ⟨w.heap.size+2,1,none⟩ (.int .i64 i)) _ _ _ from (HL3.out.set_ 0 _).set_ 1 _).grown hg6 (by simp)
    have hq6:Blk w6 w.heap.size 32 [.int .i64 ck,.slice a n c,.slice (some ⟨g,off,none⟩) dn d]:=(show Blk ((w3.drew.setCell ⟨w.heap.size+2,0,none⟩ (.int .i64 t)).setCell ⟨w.heap.size+2,1,none⟩ (.int .i64 i)) _ _ _ from (HQ3.out.far (by omega) _).far (by omega) _).grown hg6 (by simp)
    have hb6:Below w.heap.size w w6:=grown_below (show Below w.heap.size w ((w3.drew.setCell ⟨w.heap.size+2,0,none⟩ (.int .i64 t)).setCell ⟨w.heap.size+2,1,none⟩ (.int .i64 i)) from (HB3.out.drew.setCell (p:=⟨w.heap.size+2,_,none⟩) (by simp) _).setCell (p:=⟨w.heap.size+2,_,none⟩) (by simp) _) hg6 (by have:=HB3.out.size;simpa using this) (fun j hj=>by cases hj;omega)
    have HH5:=LH (And.intro hl5 (And.intro hq5 hb5))
    have HH6:=LH (And.intro hl6 (And.intro hq6 hb6))
    have ht5:Blk w5 wr.heap.size 104 [.int .i64 t,.int .i64 i]:=(show Blk w3.drew _ _ _ from HT3.out).grown hg5 (by simp;omega)
    obtain ⟨v0,v1,vz⟩:=cells2 hl5
    obtain ⟨x0,x1,xz⟩:=cells2 ht5
    clear ht5 hs5 hs6 hg5 hg6 hq5 hb5 hl6 hq6 hb6 ha6 hl5 hm HRS HRG
    go_wp2_with fail
    go_region
    all_goals
     go_wp2_with fail
     go_roundg (dn - (k+1))
     case measure=>omega
     case rel =>
      refine ⟨k+1,(t,i),by omega,rfl,by go_num,LH (Or.inr (by rw [HTK.out];simp)),LH ?_,LH ?_,LH ?_,LH ?_,LH ?_⟩
      ·rw [HG.out,HTK.out,HSN.out];simp
      ·have e:((dl.take (k+1)).map (·.2)).reverse=i :: SN:=by rw [HTK.out,HSN.out];simp
       rw [e]
       first|exact HS6.out|exact HS5.out.same ((heap_set _ _ _ _ _ (by omega)).trans (heap_set _ _ _ _ _ (by omega)))
      ·first|exact HH6.out.2.2|exact (HH5.out.2.2.setCell (p:=⟨w.heap.size+2,_,none⟩) (by simp) _).setCell (p:=⟨w.heap.size+2,_,none⟩) (by simp) _
      ·first|exact HH6.out.2.1|exact (HH5.out.2.1.far (by omega) _).far (by omega) _
      ·first|exact HH6.out.1|exact (HH5.out.1.set_ 0 _).set_ 1 _
  ·obtain rfl:k=dn:=by omega
   have hlt':¬ (k:Int) < (k:Int):=by omega
   have hNB:(dl.take k)=dl:=by rw [HDN.out];exact List.take_length
   have hcd:=HCH.out
   rw [show dl.drop k=[] by rw [HDN.out];exact List.drop_length] at hcd
   have HCD:Hid (chkD ck none [] dl=true):=LH hcd
   have hs0:=HS.out
   rw [hNB] at hs0 HLA
   have HSD:=LH hs0
   have HMEM:Hid (∀ j,j∈(dl.map (·.2)).reverse↔j∈dl.map (·.2)):=LH (fun j=>List.mem_reverse)
   obtain ⟨dn,hdn'⟩:∃ dn,dn=k:=⟨_,rfl⟩
   subst hdn'
   obtain ⟨wz,hwz⟩:∃ wz,wz=wr:=⟨_,rfl⟩
   subst hwz
   have HDL:Hid (dn=0→dl.getLast?=none):=fun h=>by rw [List.getLast?_eq_none_iff];exact List.length_eq_zero_iff.1 (by rw [← HDN.out];omega)
   have HDL2:Hid (0 < dn→dl.getLast?=some (l1,l2)):=fun h=>HLA.out.resolve_left (by omega)
   clear hcd hs0 HS HLA HCH hNB hlt' hk DC
   go_wp2_with fail
   clear q0 q1 q2 qz p0 p1 pz sb
   go_loopg [78] n (fun gh i wr=>∃ (k:Nat),k≤n∧gh=n - k∧i=.int .i64 (k:Int)∧Hid (chkW ck (dl.map (·.2)) dl.getLast? none wl=chkW ck (dl.map (·.2)) dl.getLast? ((wl.take k).getLast?.map (·.msg.id)) (wl.drop k))∧Hid (Below wz.heap.size wz wr))
   case atStart=>exact ⟨0,Nat.zero_le _,rfl,rfl,LH rfl,LH (by repeat (first|with_reducible (first|exact Below.refl _ _|apply Below.drew|apply below_alloc)|((first|with_reducible refine Below.alloc ?_ ?_ _|with_reducible refine Below.setCell ?_ ?_ _);rotate_left;focus (first|(simp <;> omega)|omega))))⟩
   case round =>
    obtain ⟨k,hk,rfl,rfl,HC,HX⟩:=hrel
    have HQX:=LH (HQ.out.step HX.out)
    have HLX:=LH (HL.out.step HX.out)
    have HBX:=LH (Below.step HB.out HX.out sl)
    have sx:=HX.out.size
    by_cases hlt:k < n
    ·have hk0:(0:Int)≤(k:Int):=by omega
     have hk1:(k:Int) < (n:Int):=by omega
     have hll:pl.length=n:=by rw [HN.out,← HPL.out,List.length_map]
     obtain ⟨aa,cap',e1,hcap,hmx,hat0⟩:=WT.out.shape
     rw [hll] at e1
     obtain ⟨rfl,rfl⟩:a=aa∧c=cap':=by simpa using e1
     obtain ⟨gw,off,rfl,hat⟩:=hat0 (by omega)
     clear hat0
     have hkp:k < pl.length:=by omega
     have hkl:k < wl.length:=by rw [← HN.out];exact hlt
     obtain ⟨p,hp⟩:∃ p,p=pl[k]:=⟨_,rfl⟩
     have hwy:wl[k]=p.2:=by
      have:wl[k]?=some p.2:=by rw [← HPL.out,List.getElem?_map,List.getElem?_eq_getElem hkp,hp];rfl
      rw [List.getElem?_eq_getElem hkl] at this
      exact Option.some.inj this
     have hA:=hat k hkp
     rw [← hp] at hA
     have GM:=LH (GI.out p (by rw [hp];exact List.getElem_mem hkp))
     have HTK:Hid (wl.take (k+1)=wl.take k++[p.2]):=by rw [List.take_succ_eq_append_getElem hkl,hwy];exact LH rfl
     have hc2:=HC.out
     rw [drop_cons' hkl,hwy,chkW_cons] at hc2
     have HPV:Hid (0 < k→∃ pid,(wl.take k).getLast?.map (·.msg.id)=some pid∧w.cell? ⟨gw,off+(k - 1) * 7,none⟩=some (.int .i64 pid)):=fun h0=>by
      have h1:=hat (k - 1) (by omega)
      refine ⟨(pl[k - 1]'(by omega)).2.msg.id,?_,h1.1.1⟩
      have h2:(wl.take k).getLast?=some (pl[k - 1]'(by omega)).2:=by
       rw [List.getLast?_eq_getElem?,List.length_take,Nat.min_eq_left (by omega),List.getElem?_take,if_pos (by omega),← HPL.out,List.getElem?_map,List.getElem?_eq_getElem (by omega)];rfl
      rw [h2];rfl
     have HPN:Hid (k=0→(wl.take k).getLast?.map (·.msg.id)=none):=fun h=>by rw [h];rfl
     have hA2:=hA.keep HBX.out
     obtain ⟨⟨x0,x1,x2,x3⟩,x4,x5,x6⟩:=hA2
     obtain ⟨u,⟨⟨yi,yg,yt,yk,yb⟩,tm,fn⟩⟩:=p
     obtain ⟨ua,ucap,hu,_⟩:=GM.out.shape
     simp only at hu x0 x1 x2 x3 x4 x5 x6 hc2 GM
     subst hu
     obtain ⟨gn,hgn⟩:∃ gn,gn=yg.length:=⟨_,rfl⟩
     rw [← hgn] at x1 GM
     obtain ⟨mq,hmq⟩:∃ mq,mq=msgB ⟨yi,yg,yt,yk,yb⟩:=⟨_,rfl⟩
     rw [← hmq] at hc2
     have HMQ:=LH hmq
     obtain ⟨PV,hPV⟩:∃ PV,PV=(wl.take k).getLast?.map (·.msg.id):=⟨_,rfl⟩
     rw [← hPV] at hc2 HPV HPN
     have HC2:=LH hc2
     have KM:Hid (∀ W,Below w.heap.size w W→Calls Tryz.prog 80 #[.agg #[.int .i64 yi,.slice ua gn ucap,.int .i64 yt,.string yk,.string yb]] W fun e W'=>e=.returned (.int .i64 (if mq then 0 else 120))∧Below W.heap.size W W'):=fun W hW=>by
      rw [hmq,hgn]
      exact chkMsg_any (m:=⟨yi,yg,yt,yk,yb⟩) ⟨ua,ucap,rfl,by have:=GM.out.below hW;rw [hgn] at this;exact this⟩ rfl
     have KO:Hid (∀ W,Calls Tryz.prog 81 #[.agg #[.int .i64 yi,.slice ua gn ucap,.int .i64 yt,.string yk,.string yb,.int .i64 tm,.bool fn]] W fun e W'=>e=.returned (.agg #[.int .i64 tm,.int .i64 yi])∧Below W.heap.size W W'):=fun W=>of_any ua gn ucap ⟨⟨yi,yg,yt,yk,yb⟩,tm,fn⟩ W
     obtain ⟨lv,hlv⟩:∃ lv,lv=lessB l1 l2 tm yi:=⟨_,rfl⟩
     have HLV:=LH hlv
     have KLS:Hid (∀ W,Calls Tryz.prog 79 #[.agg #[.int .i64 l1,.int .i64 l2],.agg #[.int .i64 tm,.int .i64 yi]] W fun e W'=>e=.returned (.bool lv)∧Below W.heap.size W W'):=fun W=>by rw [hlv];exact less_any l1 l2 tm yi W
     obtain ⟨q0,q1,q2,qz⟩:=cells3 HQX.out
     obtain ⟨p0,p1,pz⟩:=cells2 HLX.out
     have hgw:=World.block_lt_of_cell? wr _ x0
     have hgw:gw < wr.heap.size:=hgw
     have kx:=HQX.out.lt
     have lx:=HLX.out.lt
     clear hat hA hkp hkl hwy hc2 hgn hmq hlv hPV hp e1 hll hcap hmx HC
     go_wp2_with fail
     refine at_code (C:=fun W=>Hid (Below wr.heap.size wr W)∧Hid (Blk W wr.heap.size 65 [.int .i64 yi,.slice ua gn ucap,.int .i64 yt,.string yk,.string yb,.int .i64 tm,.bool fn])) ⟨LH (by repeat (first|with_reducible (first|exact Below.refl _ _|apply Below.drew|apply below_alloc)|((first|with_reducible refine Below.alloc ?_ ?_ _|with_reducible refine Below.setCell ?_ ?_ _);rotate_left;focus (first|(simp <;> omega)|omega)))),LH (by repeat (first|with_reducible exact Blk.new rfl|((with_reducible apply Blk.new);focus (first|rfl|(simp <;> omega)))|with_reducible (first|apply Blk.drew|apply Blk.alloc|apply Blk.set_)|((with_reducible apply Blk.far);rotate_left;focus (first|(simp <;> omega)|omega))))⟩ (fun W ⟨HXW0,HTW⟩=>?_)
     have HXW:Hid (Below w.heap.size w W):=LH (Below.step HBX.out HXW0.out HBX.out.size)
     have HXR:Hid (Below wz.heap.size wz W):=LH (Below.step HX.out HXW0.out sx)
     obtain ⟨⟨⟨t0,t1,t2,t3⟩,t4,t5,t6⟩,tz⟩:=cells7 HTW.out
     have tl:=HTW.out.lt
     replace q0:=keep HXW0.out q0
     replace q1:=keep HXW0.out q1
     replace q2:=keep HXW0.out q2
     replace p0:=keep HXW0.out p0
     replace p1:=keep HXW0.out p1
     have kw:w.heap.size < W.heap.size:=by omega
     have lw:w.heap.size+2 < W.heap.size:=by omega
     have gw':gw < W.heap.size:=by omega
     have LKB:Hid ((Lit.int .i64 yi).wf=true→∀ cc:Int,((yi∈dl.map (·.2)∧cc=1)∨(yi ∉ dl.map (·.2)∧cc=0))→∀ wq,Below W.heap.size W wq→(Instr.lookup 187 (.map (some (w.heap.size+1))) (.int .i64 yi) false).run Tryz.prog wq=.ok (.int .i64 cc) wq):=fun hwf cc hcc wq hq =>
      ((HSD.out.below HXR.out).below hq).look (tm:=187) Tryz.underlying3 Tryz.underlying187 Tryz.underlying3 (zero_intC wq) hwf cc (by rw [HMEM.out];exact hcc)
     clear x0 x1 x2 x3 x4 x5 x6 HSD HTW
     cases mq
     case false =>
      have LOOK:Hid True:=LH trivial
      have HE:Hid (r=8):=by rw [HR.out,HCD.out,HC2.out];simp [LH]
      refine wp_region_below (by kernel_rfl) (by kernel_rfl) ?_
      repeat
       with_reducible refine wpQuiet_step (fun K hK=>?_)
       first
        |refine quiet_not (by rfl) (hK _ ?_)
        |refine quiet_any (by rfl) ?_
         apply Exists.intro
         refine ⟨fun wq hq=>?_,hK _ ?_⟩
         ·obtain ⟨qc,_⟩:=bcell hq.out
          go_simp
          first
           |done
           |(with_reducible rfl)
           |(first|(go_at_call 80;exact call_in hq.out (KM.out _ (Below.step HXW.out hq.out HXW.out.size)))|(go_at_call 81;exact call_in hq.out (KO.out _))|(go_at_call 79;exact call_in hq.out (KLS.out _))|(have look:=LOOK.out _ hq.out;go_simp;first|done|(with_reducible rfl)))
       clear hK K
       simp only [Act.put,List.setIfInBounds_toArray,List.set_cons_zero,List.set_cons_succ]
      refine wpQuiet_nil ?_
      intro w5 hb5
      have HX5:Hid (Below wz.heap.size wz w5):=LH (Below.step HXR.out hb5 HXR.out.size)
      clear hb5
      go_wp2_with fail
      go_ret
      exact ⟨by rw [HE.out];rfl,Below.step HB.out HX5.out sl⟩
     have hyi:smallI yi∧(Lit.int .i64 yi).wf=true:=by
      have h1:=HMQ.out
      have h2:idB yi=true:=by
       have h3:=h1.symm
       simp only [msgB,Bool.and_eq_true] at h3
       exact h3.2.1
      have h4:smallI yi:=by
       simp only [idB,inB,Bool.and_eq_true,decide_eq_true_eq] at h2
       exact ⟨by omega,by omega⟩
      exact ⟨h4,wf_small h4⟩
     have LKC:=LH (LKB.out hyi.2)
     clear LKB hyi
     by_cases b1:tm < 1
     ·have B1:decide (tm < 1)=true:=decide_eq_true b1
      have LOOK:Hid True:=LH trivial
      have HE:Hid (r=8):=by rw [HR.out,HCD.out,HC2.out];simp [B1,LH]
      refine wp_region_below (by kernel_rfl) (by kernel_rfl) ?_
      repeat
       with_reducible refine wpQuiet_step (fun K hK=>?_)
       first
        |refine quiet_not (by rfl) (hK _ ?_)
        |refine quiet_any (by rfl) ?_
         apply Exists.intro
         refine ⟨fun wq hq=>?_,hK _ ?_⟩
         ·obtain ⟨qc,_⟩:=bcell hq.out
          go_simp
          first
           |done
           |(with_reducible rfl)
           |(first|(go_at_call 80;exact call_in hq.out (KM.out _ (Below.step HXW.out hq.out HXW.out.size)))|(go_at_call 81;exact call_in hq.out (KO.out _))|(go_at_call 79;exact call_in hq.out (KLS.out _))|(have look:=LOOK.out _ hq.out;go_simp;first|done|(with_reducible rfl)))
       clear hK K
       simp only [Act.put,List.setIfInBounds_toArray,List.set_cons_zero,List.set_cons_succ]
      refine wpQuiet_nil ?_
      intro w5 hb5
      have HX5:Hid (Below wz.heap.size wz w5):=LH (Below.step HXR.out hb5 HXR.out.size)
      clear hb5
      go_wp2_with fail
      go_ret
      exact ⟨by rw [HE.out];rfl,Below.step HB.out HX5.out sl⟩
     have B1:decide (tm < 1)=false:=decide_eq_false b1
     by_cases b2:ck < tm
     ·have B2:decide (ck < tm)=true:=decide_eq_true b2
      have LOOK:Hid True:=LH trivial
      have HE:Hid (r=8):=by rw [HR.out,HCD.out,HC2.out];simp [B1,B2,LH]
      refine wp_region_below (by kernel_rfl) (by kernel_rfl) ?_
      repeat
       with_reducible refine wpQuiet_step (fun K hK=>?_)
       first
        |refine quiet_not (by rfl) (hK _ ?_)
        |refine quiet_any (by rfl) ?_
         apply Exists.intro
         refine ⟨fun wq hq=>?_,hK _ ?_⟩
         ·obtain ⟨qc,_⟩:=bcell hq.out
          go_simp
          first
           |done
           |(with_reducible rfl)
           |(first|(go_at_call 80;exact call_in hq.out (KM.out _ (Below.step HXW.out hq.out HXW.out.size)))|(go_at_call 81;exact call_in hq.out (KO.out _))|(go_at_call 79;exact call_in hq.out (KLS.out _))|(have look:=LOOK.out _ hq.out;go_simp;first|done|(with_reducible rfl)))
       clear hK K
       simp only [Act.put,List.setIfInBounds_toArray,List.set_cons_zero,List.set_cons_succ]
      refine wpQuiet_nil ?_
      intro w5 hb5
      have HX5:Hid (Below wz.heap.size wz w5):=LH (Below.step HXR.out hb5 HXR.out.size)
      clear hb5
      go_wp2_with fail
      go_ret
      exact ⟨by rw [HE.out];rfl,Below.step HB.out HX5.out sl⟩
     have B2:decide (ck < tm)=false:=decide_eq_false b2
     clear b1 b2
     rcases Nat.eq_zero_or_pos k with hz|hz
     ·subst hz
      have hpv:PV=none:=HPN.out rfl
      subst hpv
      clear HPN HPV
      by_cases b4:yi∈dl.map (·.2)
      ·have LOOK:=LH (LKC.out 1 (Or.inl ⟨b4,rfl⟩))
       have B4:decide (yi∈dl.map (·.2))=true:=decide_eq_true b4
       clear LKC b4
       have HE:Hid (r=8):=by rw [HR.out,HCD.out,HC2.out];simp [B1,B2,B4,LH]
       refine wp_region_below (by kernel_rfl) (by kernel_rfl) ?_
       repeat
        with_reducible refine wpQuiet_step (fun K hK=>?_)
        first
         |refine quiet_not (by rfl) (hK _ ?_)
         |refine quiet_any (by rfl) ?_
          apply Exists.intro
          refine ⟨fun wq hq=>?_,hK _ ?_⟩
          ·obtain ⟨qc,_⟩:=bcell hq.out
           go_simp
           first
            |done
            |(with_reducible rfl)
            |(first|(go_at_call 80;exact call_in hq.out (KM.out _ (Below.step HXW.out hq.out HXW.out.size)))|(go_at_call 81;exact call_in hq.out (KO.out _))|(go_at_call 79;exact call_in hq.out (KLS.out _))|(have look:=LOOK.out _ hq.out;go_simp;first|done|(with_reducible rfl)))
        clear hK K
        simp only [Act.put,List.setIfInBounds_toArray,List.set_cons_zero,List.set_cons_succ]
       refine wpQuiet_nil ?_
       intro w5 hb5
       have HX5:Hid (Below wz.heap.size wz w5):=LH (Below.step HXR.out hb5 HXR.out.size)
       clear hb5
       go_wp2_with fail
       go_ret
       exact ⟨by rw [HE.out];rfl,Below.step HB.out HX5.out sl⟩
      have LOOK:=LH (LKC.out 0 (Or.inr ⟨b4,rfl⟩))
      have B4:decide (yi∈dl.map (·.2))=false:=decide_eq_false b4
      clear LKC b4
      rcases Nat.eq_zero_or_pos dn with hd|hd
      ·have DLN:=HDL.out hd
       have hdz:¬ (0:Int) < (dn:Int):=by omega
       have hdy:decide ((0:Int) < (dn:Int))=false:=decide_eq_false hdz
       have hdw:¬ 0 < dn:=by omega
       have hdv:decide (0 < dn)=false:=decide_eq_false hdw
       clear HDL HDL2 hd
       have HE:Hid (chkW ck (dl.map (·.2)) dl.getLast? none wl=chkW ck (dl.map (·.2)) dl.getLast? (some yi) (wl.drop (0+1))):=by rw [HC2.out];simp [B1,B2,B4,DLN,LH]
       refine wp_region_below (by kernel_rfl) (by kernel_rfl) ?_
       repeat
        with_reducible refine wpQuiet_step (fun K hK=>?_)
        first
         |refine quiet_not (by rfl) (hK _ ?_)
         |refine quiet_any (by rfl) ?_
          apply Exists.intro
          refine ⟨fun wq hq=>?_,hK _ ?_⟩
          ·obtain ⟨qc,_⟩:=bcell hq.out
           go_simp
           first
            |done
            |(with_reducible rfl)
            |(first|(go_at_call 80;exact call_in hq.out (KM.out _ (Below.step HXW.out hq.out HXW.out.size)))|(go_at_call 81;exact call_in hq.out (KO.out _))|(go_at_call 79;exact call_in hq.out (KLS.out _))|(have look:=LOOK.out _ hq.out;go_simp;first|done|(with_reducible rfl)))
        clear hK K
        simp only [Act.put,List.setIfInBounds_toArray,List.set_cons_zero,List.set_cons_succ]
       refine wpQuiet_nil ?_
       intro w5 hb5
       have HX5:Hid (Below wz.heap.size wz w5):=LH (Below.step HXR.out hb5 HXR.out.size)
       clear hb5
       go_wp2_with fail
       go_roundg (n - (0+1))
       case measure=>omega
       case rel=>exact ⟨0+1,by omega,rfl,by go_num,LH (by rw [HE.out,HTK.out];simp),HX5⟩
      ·have hdp:(0:Int) < (dn:Int):=by omega
       have DLS:=HDL2.out hd
       clear HDL HDL2
       cases lv
       ·have hlv:=HLV.out.symm
        have HE:Hid (r=8):=by rw [HR.out,HCD.out,HC2.out];simp [B1,B2,B4,DLS,hlv,LH]
        refine wp_region_below (by kernel_rfl) (by kernel_rfl) ?_
        repeat
         with_reducible refine wpQuiet_step (fun K hK=>?_)
         first
          |refine quiet_not (by rfl) (hK _ ?_)
          |refine quiet_any (by rfl) ?_
           apply Exists.intro
           refine ⟨fun wq hq=>?_,hK _ ?_⟩
           ·obtain ⟨qc,_⟩:=bcell hq.out
            go_simp
            first
             |done
             |(with_reducible rfl)
             |(first|(go_at_call 80;exact call_in hq.out (KM.out _ (Below.step HXW.out hq.out HXW.out.size)))|(go_at_call 81;exact call_in hq.out (KO.out _))|(go_at_call 79;exact call_in hq.out (KLS.out _))|(have look:=LOOK.out _ hq.out;go_simp;first|done|(with_reducible rfl)))
         clear hK K
         simp only [Act.put,List.setIfInBounds_toArray,List.set_cons_zero,List.set_cons_succ]
        refine wpQuiet_nil ?_
        intro w5 hb5
        have HX5:Hid (Below wz.heap.size wz w5):=LH (Below.step HXR.out hb5 HXR.out.size)
        clear hb5
        go_wp2_with fail
        go_ret
        exact ⟨by rw [HE.out];rfl,Below.step HB.out HX5.out sl⟩
       ·have hlv:=HLV.out.symm
        have HE:Hid (chkW ck (dl.map (·.2)) dl.getLast? none wl=chkW ck (dl.map (·.2)) dl.getLast? (some yi) (wl.drop (0+1))):=by rw [HC2.out];simp [B1,B2,B4,DLS,hlv,LH]
        refine wp_region_below (by kernel_rfl) (by kernel_rfl) ?_
        repeat
         with_reducible refine wpQuiet_step (fun K hK=>?_)
         first
          |refine quiet_not (by rfl) (hK _ ?_)
          |refine quiet_any (by rfl) ?_
           apply Exists.intro
           refine ⟨fun wq hq=>?_,hK _ ?_⟩
           ·obtain ⟨qc,_⟩:=bcell hq.out
            go_simp
            first
             |done
             |(with_reducible rfl)
             |(first|(go_at_call 80;exact call_in hq.out (KM.out _ (Below.step HXW.out hq.out HXW.out.size)))|(go_at_call 81;exact call_in hq.out (KO.out _))|(go_at_call 79;exact call_in hq.out (KLS.out _))|(have look:=LOOK.out _ hq.out;go_simp;first|done|(with_reducible rfl)))
         clear hK K
         simp only [Act.put,List.setIfInBounds_toArray,List.set_cons_zero,List.set_cons_succ]
        refine wpQuiet_nil ?_
        intro w5 hb5
        have HX5:Hid (Below wz.heap.size wz w5):=LH (Below.step HXR.out hb5 HXR.out.size)
        clear hb5
        go_wp2_with fail
        go_roundg (n - (0+1))
        case measure=>omega
        case rel=>exact ⟨0+1,by omega,rfl,by go_num,LH (by rw [HE.out,HTK.out];simp),HX5⟩
     ·have hkp:(0:Int) < (k:Int):=by omega
      obtain ⟨pid,hpv,hpc⟩:=HPV.out hz
      subst hpv
      obtain ⟨j,hj⟩:∃ j,k=j+1:=⟨k - 1,by omega⟩
      have y0:=keep HXW.out hpc
      rw [hj,Nat.add_sub_cancel] at y0
      have hsub:(k:Int) - 1=(j:Int):=by omega
      have hwj:IntKind.i64.wrap (j:Int)=(j:Int):=by rw [IntKind.wrap_i64];omega
      have hj0:(0:Int)≤(j:Int):=by omega
      have hj1:(j:Int) < (n:Int):=by omega
      clear HPN HPV hpc hj
      by_cases b3:yi≤pid
      ·have B3:decide (yi≤pid)=true:=decide_eq_true b3
       have LOOK:Hid True:=LH trivial
       have HE:Hid (r=8):=by rw [HR.out,HCD.out,HC2.out];simp [B1,B2,B3,LH]
       refine wp_region_below (by kernel_rfl) (by kernel_rfl) ?_
       repeat
        with_reducible refine wpQuiet_step (fun K hK=>?_)
        first
         |refine quiet_not (by rfl) (hK _ ?_)
         |refine quiet_any (by rfl) ?_
          apply Exists.intro
          refine ⟨fun wq hq=>?_,hK _ ?_⟩
          ·obtain ⟨qc,_⟩:=bcell hq.out
           go_simp
           first
            |done
            |(with_reducible rfl)
            |(first|(go_at_call 80;exact call_in hq.out (KM.out _ (Below.step HXW.out hq.out HXW.out.size)))|(go_at_call 81;exact call_in hq.out (KO.out _))|(go_at_call 79;exact call_in hq.out (KLS.out _))|(have look:=LOOK.out _ hq.out;go_simp;first|done|(with_reducible rfl)))
        clear hK K
        simp only [Act.put,List.setIfInBounds_toArray,List.set_cons_zero,List.set_cons_succ]
       refine wpQuiet_nil ?_
       intro w5 hb5
       have HX5:Hid (Below wz.heap.size wz w5):=LH (Below.step HXR.out hb5 HXR.out.size)
       clear hb5
       go_wp2_with fail
       go_ret
       exact ⟨by rw [HE.out];rfl,Below.step HB.out HX5.out sl⟩
      have B3:decide (yi≤pid)=false:=decide_eq_false b3
      clear b3
      by_cases b4:yi∈dl.map (·.2)
      ·have LOOK:=LH (LKC.out 1 (Or.inl ⟨b4,rfl⟩))
       have B4:decide (yi∈dl.map (·.2))=true:=decide_eq_true b4
       clear LKC b4
       have HE:Hid (r=8):=by rw [HR.out,HCD.out,HC2.out];simp [B1,B2,B4,B3,LH]
       refine wp_region_below (by kernel_rfl) (by kernel_rfl) ?_
       repeat
        with_reducible refine wpQuiet_step (fun K hK=>?_)
        first
         |refine quiet_not (by rfl) (hK _ ?_)
         |refine quiet_any (by rfl) ?_
          apply Exists.intro
          refine ⟨fun wq hq=>?_,hK _ ?_⟩
          ·obtain ⟨qc,_⟩:=bcell hq.out
           go_simp
           first
            |done
            |(with_reducible rfl)
            |(first|(go_at_call 80;exact call_in hq.out (KM.out _ (Below.step HXW.out hq.out HXW.out.size)))|(go_at_call 81;exact call_in hq.out (KO.out _))|(go_at_call 79;exact call_in hq.out (KLS.out _))|(have look:=LOOK.out _ hq.out;go_simp;first|done|(with_reducible rfl)))
        clear hK K
        simp only [Act.put,List.setIfInBounds_toArray,List.set_cons_zero,List.set_cons_succ]
       refine wpQuiet_nil ?_
       intro w5 hb5
       have HX5:Hid (Below wz.heap.size wz w5):=LH (Below.step HXR.out hb5 HXR.out.size)
       clear hb5
       go_wp2_with fail
       go_ret
       exact ⟨by rw [HE.out];rfl,Below.step HB.out HX5.out sl⟩
      have LOOK:=LH (LKC.out 0 (Or.inr ⟨b4,rfl⟩))
      have B4:decide (yi∈dl.map (·.2))=false:=decide_eq_false b4
      clear LKC b4
      rcases Nat.eq_zero_or_pos dn with hd|hd
      ·have DLN:=HDL.out hd
       have hdz:¬ (0:Int) < (dn:Int):=by omega
       have hdy:decide ((0:Int) < (dn:Int))=false:=decide_eq_false hdz
       have hdw:¬ 0 < dn:=by omega
       have hdv:decide (0 < dn)=false:=decide_eq_false hdw
       clear HDL HDL2 hd
       have HE:Hid (chkW ck (dl.map (·.2)) dl.getLast? none wl=chkW ck (dl.map (·.2)) dl.getLast? (some yi) (wl.drop (k+1))):=by rw [HC2.out];simp [B1,B2,B4,DLN,B3,LH]
       refine wp_region_below (by kernel_rfl) (by kernel_rfl) ?_
       repeat
        with_reducible refine wpQuiet_step (fun K hK=>?_)
        first
         |refine quiet_not (by rfl) (hK _ ?_)
         |refine quiet_any (by rfl) ?_
          apply Exists.intro
          refine ⟨fun wq hq=>?_,hK _ ?_⟩
          ·obtain ⟨qc,_⟩:=bcell hq.out
           go_simp
           first
            |done
            |(with_reducible rfl)
            |(first|(go_at_call 80;exact call_in hq.out (KM.out _ (Below.step HXW.out hq.out HXW.out.size)))|(go_at_call 81;exact call_in hq.out (KO.out _))|(go_at_call 79;exact call_in hq.out (KLS.out _))|(have look:=LOOK.out _ hq.out;go_simp;first|done|(with_reducible rfl)))
        clear hK K
        simp only [Act.put,List.setIfInBounds_toArray,List.set_cons_zero,List.set_cons_succ]
       refine wpQuiet_nil ?_
       intro w5 hb5
       have HX5:Hid (Below wz.heap.size wz w5):=LH (Below.step HXR.out hb5 HXR.out.size)
       clear hb5
       go_wp2_with fail
       go_roundg (n - (k+1))
       case measure=>omega
       case rel=>exact ⟨k+1,by omega,rfl,by go_num,LH (by rw [HE.out,HTK.out];simp),HX5⟩
      ·have hdp:(0:Int) < (dn:Int):=by omega
       have DLS:=HDL2.out hd
       clear HDL HDL2
       cases lv
       ·have hlv:=HLV.out.symm
        have HE:Hid (r=8):=by rw [HR.out,HCD.out,HC2.out];simp [B1,B2,B4,DLS,hlv,B3,LH]
        refine wp_region_below (by kernel_rfl) (by kernel_rfl) ?_
        repeat
         with_reducible refine wpQuiet_step (fun K hK=>?_)
         first
          |refine quiet_not (by rfl) (hK _ ?_)
          |refine quiet_any (by rfl) ?_
           apply Exists.intro
           refine ⟨fun wq hq=>?_,hK _ ?_⟩
           ·obtain ⟨qc,_⟩:=bcell hq.out
            go_simp
            first
             |done
             |(with_reducible rfl)
             |(first|(go_at_call 80;exact call_in hq.out (KM.out _ (Below.step HXW.out hq.out HXW.out.size)))|(go_at_call 81;exact call_in hq.out (KO.out _))|(go_at_call 79;exact call_in hq.out (KLS.out _))|(have look:=LOOK.out _ hq.out;go_simp;first|done|(with_reducible rfl)))
         clear hK K
         simp only [Act.put,List.setIfInBounds_toArray,List.set_cons_zero,List.set_cons_succ]
        refine wpQuiet_nil ?_
        intro w5 hb5
        have HX5:Hid (Below wz.heap.size wz w5):=LH (Below.step HXR.out hb5 HXR.out.size)
        clear hb5
        go_wp2_with fail
        go_ret
        exact ⟨by rw [HE.out];rfl,Below.step HB.out HX5.out sl⟩
       ·have hlv:=HLV.out.symm
        have HE:Hid (chkW ck (dl.map (·.2)) dl.getLast? none wl=chkW ck (dl.map (·.2)) dl.getLast? (some yi) (wl.drop (k+1))):=by rw [HC2.out];simp [B1,B2,B4,DLS,hlv,B3,LH]
        refine wp_region_below (by kernel_rfl) (by kernel_rfl) ?_
        repeat
         with_reducible refine wpQuiet_step (fun K hK=>?_)
         first
          |refine quiet_not (by rfl) (hK _ ?_)
          |refine quiet_any (by rfl) ?_
           apply Exists.intro
           refine ⟨fun wq hq=>?_,hK _ ?_⟩
           ·obtain ⟨qc,_⟩:=bcell hq.out
            go_simp
            first
             |done
             |(with_reducible rfl)
             |(first|(go_at_call 80;exact call_in hq.out (KM.out _ (Below.step HXW.out hq.out HXW.out.size)))|(go_at_call 81;exact call_in hq.out (KO.out _))|(go_at_call 79;exact call_in hq.out (KLS.out _))|(have look:=LOOK.out _ hq.out;go_simp;first|done|(with_reducible rfl)))
         clear hK K
         simp only [Act.put,List.setIfInBounds_toArray,List.set_cons_zero,List.set_cons_succ]
        refine wpQuiet_nil ?_
        intro w5 hb5
        have HX5:Hid (Below wz.heap.size wz w5):=LH (Below.step HXR.out hb5 HXR.out.size)
        clear hb5
        go_wp2_with fail
        go_roundg (n - (k+1))
        case measure=>omega
        case rel=>exact ⟨k+1,by omega,rfl,by go_num,LH (by rw [HE.out,HTK.out];simp),HX5⟩
    ·obtain rfl:k=n:=by omega
     have hlt':¬ (k:Int) < (k:Int):=by omega
     obtain ⟨q0,q1,q2,qz⟩:=cells3 HQX.out
     have kx:=HQX.out.lt
     have hc:=HC.out
     rw [show wl.drop k=[] by rw [HN.out];exact List.drop_length] at hc
     have HCW:Hid (chkW ck (dl.map (·.2)) dl.getLast? none wl=true):=LH hc
     clear hc HC
     rcases Nat.eq_zero_or_pos k with hz|hz
     ·have hwl:wl=[]:=List.length_eq_zero_iff.1 (by rw [← HN.out];exact hz)
      have HE:Hid (r=0):=by rw [HR.out,HCD.out,HCW.out,hwl];exact LH rfl
      have HZ:Hid (k=0):=LH hz
      subst hz
      clear hwl
      go_wp2_with fail
      go_ret
      exact ⟨by rw [HE.out];rfl,HBX.out⟩
     ·have hll:pl.length=k:=by rw [HN.out,← HPL.out,List.length_map]
      cases pl with
      |nil=>simp at hll;omega
      |cons p0 pt =>
       obtain ⟨p,hp⟩:∃ p,p=minP p0 pt:=⟨_,rfl⟩
       have KMn:Hid (Calls Tryz.prog 82 #[.slice a k c,.func (.func 83) #[] #[]] wr fun e w'=>e=.returned (pv p)∧Below wr.heap.size wr w'):=min_any (w:=wr) (r:=p) (WT.out.below HBX.out) hp
       have hx:minS wl=p.2.fin:=by rw [hp,minP_snd,← HPL.out];rfl
       have HE:Hid (r=if p.2.fin=true then 8 else 0):=by
        rw [HR.out,HCD.out,HCW.out,hx]
        cases p.2.fin <;> exact LH rfl
       have hnn:(0:Int) < (k:Int):=by omega
       have hpm:p∈p0 :: pt:=by rw [hp];exact minP_mem _ _
       obtain ⟨sa,sn,sc,hsl⟩:=WT.out.2 p hpm
       obtain ⟨u,⟨⟨yi,yg,yt,yk,yb⟩,tm,fn⟩⟩:=p
       simp only at hsl HE
       subst hsl
       have hpv:pv (.slice sa sn sc,(⟨⟨yi,yg,yt,yk,yb⟩,tm,fn⟩:Wt))=.agg #[.int .i64 yi,.slice sa sn sc,.int .i64 yt,.string yk,.string yb,.int .i64 tm,.bool fn]:=rfl
       clear hx hp hpm hll hz
       go_wp2_with fail
       refine KMn.out.mono ?_
       rintro e w5 ⟨rfl,hb⟩
       rw [hpv]
       have HB5:Hid (Below w.heap.size w w5):=LH (Below.step HBX.out hb HBX.out.size)
       clear hb KMn hpv
       cases fn
       all_goals
        go_wp2_with fail
        go_ret
        exact ⟨by rw [HE.out];rfl,HB5.out⟩
end Go.Proofs.YtkkohllhebdlcaaGreatDoor
