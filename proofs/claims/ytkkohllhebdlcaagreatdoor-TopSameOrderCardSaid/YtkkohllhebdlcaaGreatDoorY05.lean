/-
  Proved here: Texts that belong together; the remark at the head of each says what i
-/
import Derived.Test.YtkkohllhebdlcaaGreatDoorProg
import Derived.Test.YtkkohllhebdlcaaGreatDoorY01
import Derived.Deep.LoopGhost
set_option maxRecDepth 100000
set_option maxRecDepth 100000
/-
  topic.entry: whether an entry may be. No condition.
-/
namespace Go.Proofs.YtkkohllhebdlcaaGreatDoor
open Go.RowKit
theorem entry_yes (o i:Int) (k b:ByteArray) (w:World) (h1:0≤i) (h2:i < 6291456) (h3:k.size≤16) (h4:b.size≤64) :
  Calls Tryz.prog 126 #[.agg #[.int .i64 o,.int .i64 i,.string k,.string b]] w fun e w'=>e=.returned (.bool true)∧Below w.heap.size w w':=by
 have d3:(k.size:Int)≤16:=by omega
 have d4:(b.size:Int)≤64:=by omega
 go_enter Tryz.func126,Tryz.ntmps126
 go_wp2_with fail
 go_ret
 exact ⟨rfl,(Below.refl _ _).alloc (Nat.le_refl _) _⟩
theorem entry_no (o i:Int) (k b:ByteArray) (w:World) (h:¬ (0≤i∧i < 6291456∧k.size≤16∧b.size≤64)) :
  Calls Tryz.prog 126 #[.agg #[.int .i64 o,.int .i64 i,.string k,.string b]] w fun e w'=>e=.returned (.bool false)∧Below w.heap.size w w':=by
 by_cases h1:i < 0
 ·clear h
  go_enter Tryz.func126,Tryz.ntmps126
  go_wp2_with fail
  go_ret
  exact ⟨rfl,(Below.refl _ _).alloc (Nat.le_refl _) _⟩
 ·have h1':0≤i:=by omega
  by_cases h2:6291456≤i
  ·clear h
   go_enter Tryz.func126,Tryz.ntmps126
   go_wp2_with fail
   go_ret
   exact ⟨rfl,(Below.refl _ _).alloc (Nat.le_refl _) _⟩
  ·have h2':i < 6291456:=by omega
   by_cases h3:k.size≤16
   ·have h4:¬ b.size≤64:=fun h4=>h ⟨h1',h2',h3,h4⟩
    have d3:(k.size:Int)≤16:=by omega
    have d4:(64:Int) < (b.size:Int):=by omega
    have d5:decide ((b.size:Int)≤64)=false:=by simp;omega
    clear h h3 h4
    go_enter Tryz.func126,Tryz.ntmps126
    go_wp2_with fail
    go_ret
    exact ⟨rfl,(Below.refl _ _).alloc (Nat.le_refl _) _⟩
   ·have d3:(16:Int) < (k.size:Int):=by omega
    clear h h3
    go_enter Tryz.func126,Tryz.ntmps126
    go_wp2_with fail
    go_ret
    exact ⟨rfl,(Below.refl _ _).alloc (Nat.le_refl _) _⟩
theorem entry_any (x:Ent) (w:World) :
  Calls Tryz.prog 126 #[.agg #[.int .i64 x.off,.int .i64 x.id,.string x.key,.string x.body]] w fun e w'=>e=.returned (.bool (decide (Top.okEnt x)))∧Below w.heap.size w w':=by
 by_cases h:Top.okEnt x
 ·rw [decide_eq_true h]
  exact entry_yes _ _ _ _ w h.1 h.2.1 h.2.2.1 h.2.2.2
 ·rw [decide_eq_false h]
  exact entry_no _ _ _ _ w h
end Go.Proofs.YtkkohllhebdlcaaGreatDoor
/-
  topic.Check: whether a topic may be. No condition but that the topic reads.
-/
namespace Go.Proofs.YtkkohllhebdlcaaGreatDoor
open Go.RowKit
theorem head_no {t:Top} (h:¬ Top.head t):t.next < 0∨(0≤t.next∧(1073741824 < t.next∨(t.next≤1073741824∧(t.base < 0∨(0≤t.base∧(t.next < t.base∨(t.base≤t.next∧(t.mark < 0∨(0≤t.mark∧(t.next < t.mark∨(t.mark≤t.next∧(200:Int) < (t.ents.length:Int)))))))))))):=by
 unfold Top.head at h
 omega
set_option maxHeartbeats 2000000 in
theorem check_head (b n m:Int) (a:Option Addr) (l cap:Nat) (w:World)
  (h:n < 0∨(0≤n∧(1073741824 < n∨(n≤1073741824∧(b < 0∨(0≤b∧(n < b∨(b≤n∧(m < 0∨(0≤m∧(n < m∨(m≤n∧(200:Int) < (l:Int))))))))))))) :
  Calls Tryz.prog 121 #[.agg #[.int .i64 b,.int .i64 n,.int .i64 m,.slice a l cap]] w fun e w'=>e=.returned (.int .i64 8)∧Below w.heap.size w w':=by
 rcases h with h1|⟨h1,h2|⟨h2,h3|⟨h3,h4|⟨h4,h5|⟨h5,h6|⟨h6,h7⟩⟩⟩⟩⟩⟩
 all_goals
  go_enter Tryz.func121,Tryz.ntmps121
  go_wp2_with fail
  go_ret
  exact ⟨rfl,(Below.refl _ _).alloc (Nat.le_refl _) _⟩
theorem zero_int (w:World):(zeroValue 3).run Tryz.prog w=.ok (.int .i64 0) w:=by kernel_rfl
set_option maxHeartbeats 8000000 in
set_option maxRecDepth 100000 in
theorem check_some (t:Top) (a:Option Addr) (cap n:Nat) (w:World) (hn:n=t.ents.length) (hh:Top.head t) (hc:0 < n→∃ bb off,a=some ⟨bb,off,none⟩∧EntsAt w bb off t.ents) (hk:∀ x∈t.ents,x.key.size≤maxLen) (c:Int) (hm:(Top.chk t (t.base - 1) [] t.ents∧c=0)∨(¬ Top.chk t (t.base - 1) [] t.ents∧c=8)) :
  Calls Tryz.prog 121 #[.agg #[.int .i64 t.base,.int .i64 t.next,.int .i64 t.mark,.slice a n cap]] w fun e w'=>e=.returned (.int .i64 c)∧Below w.heap.size w w':=by
 obtain ⟨h1,h2,h3,h4,h5,h6,h7⟩:=hh
 have HC:=LH hc
 have HN:=LH hn
 have HK:=LH hk
 have HM:=LH hm
 obtain ⟨base,hbase⟩:∃ base,base=t.base:=⟨_,rfl⟩
 obtain ⟨next,hnext⟩:∃ next,next=t.next:=⟨_,rfl⟩
 obtain ⟨mark,hmark⟩:∃ mark,mark=t.mark:=⟨_,rfl⟩
 rw [← hn] at h7
 rw [← hbase,← hnext,← hmark]
 rw [← hbase] at h3 h4
 rw [← hnext] at h1 h2 h4 h6
 rw [← hmark] at h5 h6
 have HBS:=LH hbase
 have HNX:=LH hnext
 have HMK:=LH hmark
 clear hc hn hk hm hbase hnext hmark
 have n1:(n:Int)≤200:=by omega
 have hmm:=@run_makeMap Tryz.prog
 go_enter Tryz.func121,Tryz.ntmps121
 go_wp2_with fail
 go_loopg [4,52] n (fun g l i wr=>∃ (k:Nat) (last:Int) (seen:List ByteArray),k≤n∧g=n - k∧i=.int .i64 (k:Int)∧l=.int .i64 last∧(base - 1≤last∧last < next)∧Hid (Top.chk t last seen (t.ents.drop k)↔Top.chk t (t.base - 1) [] t.ents) ∧
  Hid (Seen Tryz.prog 9 3 wr (w.heap.size+1) k seen)∧Hid (Below w.heap.size w wr) ∧
  Hid (((wr.cell? ⟨w.heap.size,0,none⟩=some (.int .i64 base)∧wr.cell? ⟨w.heap.size,1,none⟩=some (.int .i64 next))∧wr.cell? ⟨w.heap.size,2,none⟩=some (.int .i64 mark))∧w.heap.size+2≤wr.heap.size))
 case atStart =>
  refine ⟨0,_,[],Nat.zero_le _,rfl,rfl,rfl,⟨by omega,by omega⟩,by rw [HBS.out];exact Iff.rfl,?_,?_,?_⟩
  ·have e:(w.alloc (.cells #[.int .i64 base,.int .i64 next,.int .i64 mark,.slice a n cap] 156)).heap.size=w.heap.size+1:=by simp
   show Seen _ _ _ _ _ _ _
   rw [← e]
   exact Seen.made _ _ _ _
  ·exact ((Below.refl _ _).alloc (Nat.le_refl _) _).alloc (by simp) _
  ·exact ⟨⟨⟨by go_simp,by go_simp⟩,by go_simp⟩,by simp⟩
 case round =>
  obtain ⟨k,last,seen,hk,rfl,rfl,rfl,⟨hlb,hln⟩,hch,hseen,hb,hbox⟩:=hrel
  obtain ⟨⟨⟨t0,t1⟩,t2⟩,hsz⟩:=hbox.out
  have HSZ:=LH hsz
  clear hbox hsz
  obtain ⟨l1,hl1⟩:∃ l1,l1=last+1:=⟨_,rfl⟩
  have hlw:IntKind.i64.wrap (last+1)=l1:=by rw [hl1];exact IntWalk.i64_in _ (by omega)
  have HL1:=LH hl1
  clear hl1
  by_cases hlt:k < n
  ·have hk0:(0:Int)≤(k:Int):=by omega
   have hk1:(k:Int) < (n:Int):=by omega
   obtain ⟨bb,off,ha,hcc⟩:=HC.out (by omega)
   subst ha
   have cc:=hcc k (by rw [← HN.out];exact hlt)
   clear hcc
   obtain ⟨x,hx⟩:∃ x,x=t.ents.getD k default:=⟨_,rfl⟩
   rw [← hx] at cc
   have c0:=keep hb.out cc.1.1.1
   have c1:=keep hb.out cc.1.1.2
   have c2:=keep hb.out cc.1.2
   have c3:=keep hb.out cc.2
   have HX:=LH hx
   clear cc hx
   obtain ⟨g,hg⟩:∃ g,g=decide (Top.okEnt x):=⟨_,rfl⟩
   have L:∀ w,Calls Tryz.prog 126 #[.agg #[.int .i64 x.off,.int .i64 x.id,.string x.key,.string x.body]] w fun e w'=>e=.returned (.bool g)∧Below w.heap.size w w':=fun w=>by
    rw [hg];exact entry_any x w
   have HL:=LH L
   have HG:=LH hg
   clear L hg
   go_wp2_with fail
   refine (HL.out _).mono ?_
   rintro e w2 ⟨rfl,hb2⟩
   have h12:Below wr.heap.size wr w2:=((Below.refl _ _).alloc (Nat.le_refl _) _).trans (hb2.mono (by simp))
   have e0:=keep hb2 (a:=⟨wr.heap.size,0,none⟩) (v:=.int .i64 x.off) (by go_simp)
   have e2:=keep hb2 (a:=⟨wr.heap.size,2,none⟩) (v:=.string x.key) (by go_simp)
   have f0:=keep h12 t0
   have f1:=keep h12 t1
   have f2:=keep h12 t2
   have HS2:=LH (hseen.out.below h12)
   have HB2:=LH (hb.out.trans (h12.mono hb.out.size))
   have hw2:wr.heap.size≤w2.heap.size:=h12.size
   have HSZ2:=LH (show w.heap.size+2≤w2.heap.size from Nat.le_trans HSZ.out hw2)
   have HDR:=LH (show t.ents.drop k=x :: t.ents.drop (k+1) by
    have hkl:k < t.ents.length:=by rw [← HN.out];exact hlt
    rw [HX.out,List.drop_eq_getElem_cons hkl]
    simp [List.getD,hkl])
   have HW2:=LH hw2
   have HKX:=LH (show x.key.size≤maxLen by
    have hkl:k < t.ents.length:=by rw [← HN.out];exact hlt
    refine HK.out x ?_
    have e:t.ents.getD k default=t.ents[k]:=by simp [List.getD,hkl]
    rw [HX.out,e];exact List.getElem_mem hkl)
   have hmk2:=@zero_int w2
   have ZI:=LH hmk2
   clear c0 c1 c2 c3 t0 t1 t2 hb2 h12 hw2 hseen hb hmk2
   have bad:(¬ (Top.okEnt x∧last < x.off∧x.off < next∧x.off≤max (last+1) mark∧(x.off < mark→x.key ∉ seen)))→c=8:=by
    intro hno
    rcases HM.out with ⟨h,_⟩|⟨_,h⟩
    ·exfalso
     have h':=hch.out.2 h
     rw [HDR.out] at h'
     rw [HNX.out,HMK.out] at hno
     exact hno h'.1
    ·exact h
   have BAD:=LH bad
   have good:(Top.okEnt x∧last < x.off∧x.off < next∧x.off≤max (last+1) mark∧(x.off < mark→x.key ∉ seen)) →
     (Top.chk t x.off (if x.off < t.mark then x.key :: seen else seen) (t.ents.drop (k+1))↔Top.chk t (t.base - 1) [] t.ents):=by
    intro hyes
    rw [HNX.out,HMK.out] at hyes
    rw [← hch.out,HDR.out]
    exact ⟨fun h=>⟨hyes,h⟩,fun h=>h.2⟩
   have GOOD:=LH good
   clear bad good
   cases g
   ·have hc8:c=8:=BAD.out (fun h=>of_decide_eq_false HG.out.symm h.1)
    have HC8:=LH hc8
    clear hc8
    go_wp2_with fail
    go_ret
    exact ⟨by rw [HC8.out];rfl,HB2.out⟩
   ·by_cases x1:x.off≤last
    ·have HC8:=LH (show c=8 from BAD.out (fun h=>by have:=h.2.1;omega))
     go_wp2_with fail
     go_ret
     exact ⟨by rw [HC8.out];rfl,HB2.out⟩
    ·have x1':last < x.off:=by omega
     by_cases x2:next≤x.off
     ·have HC8:=LH (show c=8 from BAD.out (fun h=>by have:=h.2.2.1;omega))
      go_wp2_with fail
      go_ret
      exact ⟨by rw [HC8.out];rfl,HB2.out⟩
     ·have x2':x.off < next:=by omega
      by_cases x4:l1 < mark
      ·have HMX:=LH (show max (last+1) mark=mark by have:=HL1.out;omega)
       by_cases x3:mark < x.off
       ·have HC8:=LH (show c=8 from BAD.out (fun h=>by have h3:=h.2.2.2.1;rw [HMX.out] at h3;omega))
        go_wp2_with fail
        go_ret
        exact ⟨by rw [HC8.out];rfl,HB2.out⟩
       ·have x3':x.off≤mark:=by omega
        by_cases x5:x.off < mark
        ·by_cases x6:x.key∈seen
         ·have HC8:=LH (show c=8 from BAD.out (fun h=>h.2.2.2.2 x5 x6))
          have look:=HS2.out.look Tryz.underlying9 Tryz.underlying240 Tryz.underlying3 ZI.out HKX.out 1 (Or.inl ⟨x6,rfl⟩)
          clear x6
          go_wp2_with fail
          go_ret
          exact ⟨by rw [HC8.out];rfl,HB2.out⟩
         ·have HG2:=LH (GOOD.out ⟨of_decide_eq_true HG.out.symm,x1',x2',by rw [HMX.out];exact x3',fun _=>x6⟩)
          have look:=HS2.out.look Tryz.underlying9 Tryz.underlying240 Tryz.underlying3 ZI.out HKX.out 0 (Or.inr ⟨x6,rfl⟩)
          obtain ⟨w3,hst,hs3,hg3⟩:=HS2.out.store (tm:=240) Tryz.underlying9 Tryz.underlying240 Tryz.underlying3 (by unfold maxLen;omega) HKX.out
          have HS3:=LH hs3
          have g0:=hg3.cell e0 (by have:=HSZ.out;simp;omega)
          have m0:=hg3.cell f0 (by simp)
          have m1:=hg3.cell f1 (by simp)
          have m2:=hg3.cell f2 (by simp)
          have HB3:=LH (HB2.out.grown hg3 (Nat.le_trans (by omega) HSZ2.out) (fun j hj=>by cases hj;omega))
          have HSZ3:=LH (Nat.le_trans HSZ2.out hg3.size)
          have HXM:=LH x5
          clear hs3 hg3 x6
          go_wp2_with fail
          go_roundg (n - (k+1))
          case measure=>omega
          case rel =>
           refine ⟨k+1,x.off,x.key :: seen,by omega,rfl,by go_num,rfl,⟨by omega,x2'⟩,?_,HS3,HB3,⟨⟨m0,m1⟩,m2⟩,HSZ3.out⟩
           have:=HG2.out
           rw [if_pos (by rw [← HMK.out];exact HXM.out)] at this
           exact this
        ·have HG2:=LH (GOOD.out ⟨of_decide_eq_true HG.out.symm,x1',x2',by rw [HMX.out];exact x3',fun h=>absurd h x5⟩)
         have HXM:=LH x5
         go_wp2_with fail
         go_roundg (n - (k+1))
         case measure=>omega
         case rel =>
          refine ⟨k+1,x.off,seen,by omega,rfl,by go_num,rfl,⟨by omega,x2'⟩,?_,HS2.out.mono (by omega),HB2,⟨⟨f0,f1⟩,f2⟩,HSZ2.out⟩
          have:=HG2.out
          rw [if_neg (by rw [← HMK.out];have:=HXM.out;omega)] at this
          exact this
      ·have HMX:=LH (show max (last+1) mark=l1 by have:=HL1.out;omega)
       by_cases x3:l1 < x.off
       ·have HC8:=LH (show c=8 from BAD.out (fun h=>by have h3:=h.2.2.2.1;rw [HMX.out] at h3;omega))
        go_wp2_with fail
        go_ret
        exact ⟨by rw [HC8.out];rfl,HB2.out⟩
       ·have x3':x.off≤l1:=by omega
        have x5:¬ x.off < mark:=by have:=HL1.out;omega
        have HG2:=LH (GOOD.out ⟨of_decide_eq_true HG.out.symm,x1',x2',by rw [HMX.out];exact x3',fun h=>absurd h x5⟩)
        have HXM:=LH x5
        go_wp2_with fail
        go_roundg (n - (k+1))
        case measure=>omega
        case rel =>
         refine ⟨k+1,x.off,seen,by omega,rfl,by go_num,rfl,⟨by omega,x2'⟩,?_,HS2.out.mono (by omega),HB2,⟨⟨f0,f1⟩,f2⟩,HSZ2.out⟩
         have:=HG2.out
         rw [if_neg (by rw [← HMK.out];have:=HXM.out;omega)] at this
         exact this
  ·obtain rfl:k=n:=by omega
   have hlt':¬ (k:Int) < (k:Int):=by omega
   have HEND:=LH (show (max (last+1) mark=next∧c=0)∨(max (last+1) mark≠next∧c=8) by
    have h0:t.ents.drop k=[]:=by rw [HN.out];exact List.drop_length
    have h1:=hch.out
    rw [h0] at h1
    have h2:Top.chk t last seen []↔max (last+1) mark=next:=by rw [HMK.out,HNX.out];exact Iff.rfl
    rcases HM.out with ⟨h,hc⟩|⟨h,hc⟩
    ·exact Or.inl ⟨h2.1 (h1.2 h),hc⟩
    ·exact Or.inr ⟨fun h'=>h (h1.1 (h2.2 h')),hc⟩)
   by_cases x4:l1 < mark
   ·have HMX:=LH (show max (last+1) mark=mark by have:=HL1.out;omega)
    by_cases x5:mark=next
    ·have hd:(mark != next)=false:=by simpa using x5
     have HC0:=LH (show c=0 by
      rcases HEND.out with ⟨_,h⟩|⟨h,_⟩
      ·exact h
      ·rw [HMX.out] at h;exact absurd x5 h)
     clear x5
     go_wp2_with fail
     go_ret
     exact ⟨by rw [HC0.out];rfl,hb.out⟩
    ·have hd:(mark != next)=true:=by simpa using x5
     have HC0:=LH (show c=8 by
      rcases HEND.out with ⟨h,_⟩|⟨_,h⟩
      ·rw [HMX.out] at h;exact absurd h x5
      ·exact h)
     clear x5
     go_wp2_with fail
     go_ret
     exact ⟨by rw [HC0.out];rfl,hb.out⟩
   ·have HMX:=LH (show max (last+1) mark=l1 by have:=HL1.out;omega)
    by_cases x5:l1=next
    ·have hd:(l1 != next)=false:=by simpa using x5
     have HC0:=LH (show c=0 by
      rcases HEND.out with ⟨_,h⟩|⟨h,_⟩
      ·exact h
      ·rw [HMX.out] at h;exact absurd x5 h)
     clear x5
     go_wp2_with fail
     go_ret
     exact ⟨by rw [HC0.out];rfl,hb.out⟩
    ·have hd:(l1 != next)=true:=by simpa using x5
     have HC0:=LH (show c=8 by
      rcases HEND.out with ⟨h,_⟩|⟨_,h⟩
      ·rw [HMX.out] at h;exact absurd h x5
      ·exact h)
     clear x5
     go_wp2_with fail
     go_ret
     exact ⟨by rw [HC0.out];rfl,hb.out⟩
theorem check_any {v:Value} {t:Top} {w:World} (h:TopR w v t) (hk:∀ x∈t.ents,x.key.size≤maxLen) (c:Int) (hc:(t.may∧c=0)∨(¬ t.may∧c=8)) :
  Calls Tryz.prog 121 #[v] w fun e w'=>e=.returned (.int .i64 c)∧Below w.heap.size w w':=by
 obtain ⟨a,cap,rfl,hs⟩:=h
 by_cases hh:Top.head t
 ·obtain ⟨_,_,hd⟩:=hs.ents
  refine check_some t a cap _ w rfl hh hd hk c ?_
  rw [Top.may_iff] at hc
  rcases hc with ⟨h1,h2⟩|⟨h1,h2⟩
  ·exact Or.inl ⟨h1.2,h2⟩
  ·exact Or.inr ⟨fun h=>h1 ⟨hh,h⟩,h2⟩
 ·rcases hc with ⟨h1,h2⟩|⟨h1,h2⟩
  ·exact absurd ((Top.may_iff t).1 h1).1 hh
  ·rw [h2]
   exact check_head _ _ _ _ _ _ w (head_no hh)
end Go.Proofs.YtkkohllhebdlcaaGreatDoor
/-
  topic.Check in two words: it may be, it may not. No condition but that the topic reads.
-/
namespace Go.Proofs.YtkkohllhebdlcaaGreatDoor
open Go.RowKit
theorem check_yes {v:Value} {t:Top} {w:World} (h:TopR w v t) (hk:∀ x∈t.ents,x.key.size≤maxLen) (hm:t.may) :
  Calls Tryz.prog 121 #[v] w fun e w'=>e=.returned (.int .i64 0)∧Below w.heap.size w w':=check_any h hk 0 (Or.inl ⟨hm,rfl⟩)
theorem check_no {v:Value} {t:Top} {w:World} (h:TopR w v t) (hk:∀ x∈t.ents,x.key.size≤maxLen) (hm:¬ t.may) :
  Calls Tryz.prog 121 #[v] w fun e w'=>e=.returned (.int .i64 8)∧Below w.heap.size w w':=check_any h hk 8 (Or.inr ⟨hm,rfl⟩)
end Go.Proofs.YtkkohllhebdlcaaGreatDoor
