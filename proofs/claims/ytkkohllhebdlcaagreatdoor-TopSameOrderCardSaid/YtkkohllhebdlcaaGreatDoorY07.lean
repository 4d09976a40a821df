/-
  Proved here: Own rows apart from one another, over what grows and what is stored. N command.in, command.id, command.CheckMessage. No condition. slices.IndexFunc at entries with keep.Trim's closure: the first entry  Plain law of what is kept: of entries that rise, those from an offset  Plain: what is let go, how much room there is; topics that a call retu Rows that a law writes over; two topics held against eac
-/
import Derived.Test.YtkkohllhebdlcaaGreatDoorProg
import Derived.Test.YtkkohllhebdlcaaGreatDoorY03
set_option maxRecDepth 100000
namespace Go.Proofs.YtkkohllhebdlcaaGreatDoor
open Go.RowKit Go.Deep
theorem rows_ne {w:World} {b1 b2:Nat} {e1 e2:TypeId} {s1 s2 n1 n2 k:Nat} {v1 v2:Value} {xs1 xs2:List Value} (h1:w.ownsRow b1 e1 s1 v1 n1 xs1) (h2:w.ownsRow b2 e2 s2 v2 n2 xs2) (he:e1≠e2) (hk:v2.ownBlock=some k):v1.ownBlock≠some k:=by
 rcases rows_apart h1 h2 he with h|h
 ·rw [h];simp
 ·rw [hk] at h;exact h
theorem ownsRow_grown {w w':World} {B k s n:Nat} {e:TypeId} {v:Value} {xs:List Value} {row:Option Nat} (h:w.ownsRow B e s v n xs) (hg:w.grownBy w' row) (hk:row=some k→v.ownBlock≠some k) (hs:row=none∨row=some k):w'.ownsRow B e s v n xs :=
 ⟨h.1,h.2.elim Or.inl (fun ⟨g,cp,cur,hv,hB,hh,q⟩=>Or.inr ⟨g,cp,cur,hv,hB,(hg.block g (Array.getElem?_eq_some_iff.1 hh).1 (fun e=>by
  rcases hs with h0|h0
  ·rw [h0] at e;cases e
  ·exact hk h0 (by rw [hv,← h0,← e];rfl))).trans hh,q⟩)⟩
theorem ownsRow_grown' {w w':World} {B s n:Nat} {e:TypeId} {v:Value} {xs:List Value} {row:Option Nat} (h:w.ownsRow B e s v n xs) (hg:w.grownBy w' row) (hk:∀ k,row=some k→v.ownBlock≠some k):w'.ownsRow B e s v n xs:=by
 cases row with
 |none=>exact ownsRow_grown (k:=0) h hg (fun e=>by cases e) (Or.inl rfl)
 |some k=>exact ownsRow_grown h hg (fun _=>hk k rfl) (Or.inr rfl)
theorem row_far {w w':World} {B s n g:Nat} {e:TypeId} {v:Value} {xs:List Value} (h:w.ownsRow B e s v n xs) (hh:∀ b,b≠g→w'.heap[b]?=w.heap[b]?) (hv:v.ownBlock≠some g):w'.ownsRow B e s v n xs :=
 ⟨h.1,h.2.elim Or.inl (fun ⟨g',cp,cur,hv',hB,hg,q⟩=>Or.inr ⟨g',cp,cur,hv',hB,(hh g' (fun e=>hv (by rw [hv',e];rfl))).trans hg,q⟩)⟩
theorem row_blk {w:World} {B s n g:Nat} {e t:TypeId} {v:Value} {xs cs:List Value} (h:w.ownsRow B e s v n xs) (hb:Blk w g t cs) (he:e≠t):v.ownBlock≠some g:=by
 rcases h.2 with ⟨rfl,_⟩|⟨g1,c1,cur1,rfl,_,hh1,_⟩
 ·simp [Value.ownBlock]
 ·intro hg
  have:g1=g:=by simpa [Value.ownBlock] using hg
  subst this
  rw [hb] at hh1
  simp at hh1
  exact he hh1.2.symm
end Go.Proofs.YtkkohllhebdlcaaGreatDoor
namespace Go.Proofs.YtkkohllhebdlcaaGreatDoor
open Go.RowKit
theorem cellsM5 {w:World} {g:Nat} {t:TypeId} {a b c d e:Value} (h:Blk w g t [a,b,c,d,e]):w.cell? ⟨g,0,none⟩=some a∧w.cell? ⟨g,1,none⟩=some b∧w.cell? ⟨g,2,none⟩=some c∧w.cell? ⟨g,3,none⟩=some d∧w.cell? ⟨g,4,none⟩=some e∧∀ o,w.frozen? ⟨g,o,none⟩=false:=⟨h.cell 0,h.cell 1,h.cell 2,h.cell 3,h.cell 4,h.free⟩
theorem inB_any (n lo hi:Int) (w:World):Calls Tryz.prog 102 #[.int .i64 n,.int .i64 lo,.int .i64 hi] w fun e w'=>e=.returned (.bool (inB n lo hi))∧w=w':=by
 by_cases h1:lo≤n
 ·by_cases h2:n≤hi
  ·rw [show inB n lo hi=true by simp [inB,h1,h2]]
   go_enter Tryz.func102,Tryz.ntmps102
   go_wp2
   go_ret
   exact ⟨rfl,rfl⟩
  ·rw [show inB n lo hi=false by simp [inB,h2]]
   go_enter Tryz.func102,Tryz.ntmps102
   go_wp2
   go_ret
   exact ⟨rfl,rfl⟩
 ·rw [show inB n lo hi=false by simp [inB,h1]]
  go_enter Tryz.func102,Tryz.ntmps102
  go_wp2
  go_ret
  exact ⟨rfl,rfl⟩
theorem idB_any (n:Int) (w:World):Calls Tryz.prog 101 #[.int .i64 n] w fun e w'=>e=.returned (.bool (idB n))∧w=w':=by
 go_enter Tryz.func101,Tryz.ntmps101
 go_wp2_with fail
 refine Calls.mono (inB_any n 0 6291455 _) ?_
 rintro e w1 ⟨rfl,rfl⟩
 go_wp2_with fail
 go_ret
 exact ⟨rfl,rfl⟩
set_option maxHeartbeats 2000000 in
set_option maxRecDepth 100000 in
theorem chkMsg_few {a:Option Addr} {n cap:Nat} {id topic:Int} {key body:ByteArray} {gs:List Int} {w:World} (h:IntsR w (.slice a n cap) gs) (hn:n=gs.length) (h4:¬ (1≤n∧n≤4)) :
  Calls Tryz.prog 80 #[.agg #[.int .i64 id,.slice a n cap,.int .i64 topic,.string key,.string body]] w fun e w'=>e=.returned (.int .i64 120)∧Below w.heap.size w w':=by
 obtain ⟨a',cap',hv,hcap,hmx,hnn,hd⟩:=h.shape
 injection hv with e1 e2 e3
 subst e1
 subst e3
 clear e2
 rw [← hn] at hcap hd
 have HD:=LH hd
 unfold maxLen at hmx
 have hn63:(n:Int)≤9223372036854775807:=by omega
 clear hd hn hnn h
 by_cases h1:1≤n
 rotate_left
 all_goals
  first
   |(have h2:(1:Int)≤(n:Int):=(by omega);have h3:¬ (n:Int)≤4:=(by omega);clear h1 h4;go_enter Tryz.func80,Tryz.ntmps80;go_wp2_with fail)
   |(have h2:¬ (1:Int)≤(n:Int):=(by omega);clear h1 h4;go_enter Tryz.func80,Tryz.ntmps80;go_wp2_with fail)
  go_loopg [3,4,5,19] n (fun g t3 _ _ i wr=>∃ k:Nat,k≤n∧g=n - k∧i=.int .i64 (k:Int)∧t3=.bool false∧Hid (Below w.heap.size w wr)∧Hid (Blk wr w.heap.size 56 [.int .i64 id,.slice a n cap,.int .i64 topic,.string key,.string body]))
  case atStart=>exact ⟨0,Nat.zero_le _,rfl,rfl,rfl,below_alloc (Below.refl _ _),Blk.new rfl⟩
  case round =>
   obtain ⟨k,hk,rfl,rfl,rfl,HB,HQ⟩:=hrel
   obtain ⟨q0,q1,q2,q3,q4,qz⟩:=cellsM5 HQ.out
   have ql:=HQ.out.lt
   by_cases hlt:k < n
   ·have hk0:(0:Int)≤(k:Int):=by omega
    have hk1:(k:Int) < (n:Int):=by omega
    obtain ⟨bb,off,rfl,hat⟩:=HD.out (by omega)
    have c0:=keep HB.out (hat k hlt)
    clear hat
    go_wp2_with fail
    go_roundg (n - (k+1))
    case measure=>omega
    case rel=>exact ⟨k+1,by omega,rfl,by go_num,rfl,HB,HQ⟩
   ·obtain rfl:k=n:=by omega
    have hlt':¬ (k:Int) < (k:Int):=by omega
    go_wp2_with fail
    go_ret
    exact ⟨rfl,HB.out⟩
set_option maxHeartbeats 4000000 in
set_option maxRecDepth 100000 in
theorem chkMsg_loop {a:Option Addr} {n cap:Nat} {id topic c:Int} {key body:ByteArray} {gs:List Int} {w:World} (h:IntsR w (.slice a n cap) gs) (hn:n=gs.length) (h4:1≤n∧n≤4)
  (hc:c=if (okG gs n && (idB id && (inB topic 0 3 && (decide (key.size≤16) && decide (body.size≤64)))))=true then 0 else 120) :
  Calls Tryz.prog 80 #[.agg #[.int .i64 id,.slice a n cap,.int .i64 topic,.string key,.string body]] w fun e w'=>e=.returned (.int .i64 c)∧Below w.heap.size w w':=by
 obtain ⟨a',cap',hv,hcap,hmx,hnn,hd⟩:=h.shape
 injection hv with e1 e2 e3
 subst e1
 subst e3
 clear e2
 rw [← hn] at hcap hd
 have HD:=LH hd
 have HC:=LH hc
 unfold maxLen at hmx
 have h2:(1:Int)≤(n:Int):=by omega
 have h3:(n:Int)≤4:=by omega
 obtain ⟨bb,off,rfl,-⟩:=hd (by omega)
 clear hd hn hnn h hc h4
 go_enter Tryz.func80,Tryz.ntmps80
 go_wp2_with fail
 go_loopg [3,4,5,19] n (fun g t3 _ _ i wr=>∃ (k:Nat) (t:Bool),k≤n∧g=n - k∧i=.int .i64 (k:Int)∧t3=.bool t∧Hid (t=okG gs k)∧Hid (Below w.heap.size w wr)∧Hid (Blk wr w.heap.size 56 [.int .i64 id,.slice (some ⟨bb,off,none⟩) n cap,.int .i64 topic,.string key,.string body]))
 case atStart=>exact ⟨0,true,Nat.zero_le _,rfl,rfl,rfl,rfl,below_alloc (Below.refl _ _),Blk.new rfl⟩
 case round =>
  obtain ⟨k,t,hk,rfl,rfl,rfl,HT,HB,HQ⟩:=hrel
  obtain ⟨q0,q1,q2,q3,q4,qz⟩:=cellsM5 HQ.out
  have ql:=HQ.out.lt
  by_cases hlt:k < n
  ·have hk0:(0:Int)≤(k:Int):=by omega
   have hk1:(k:Int) < (n:Int):=by omega
   have HAT:Hid (∀ i,i < n→wr.cell? ⟨bb,off+i,none⟩=some (.int .i64 (gs.getD i 0))):=LH (fun i hi=>by
    obtain ⟨_,_,e,hat⟩:=HD.out (by omega)
    cases e
    exact keep HB.out (hat i hi))
   have c0:=HAT.out k hlt
   obtain ⟨y,hy⟩:∃ y,y=gs.getD k 0:=⟨_,rfl⟩
   rw [← hy] at c0
   obtain ⟨z,hz⟩:∃ z:Bool,z=inB y 0 3:=⟨_,rfl⟩
   have HZ:=LH hz
   have HOK:=LH (show okG gs (k+1)=(t && (z && (decide (k=0) || decide (gs.getD (k - 1) 0 < y)))) by rw [okG,HT.out,hz,hy])
   clear hy hz
   cases t
   ·go_wp2_with fail
    go_roundg (n - (k+1))
    case measure=>omega
    case rel=>exact ⟨k+1,false,by omega,rfl,by go_num,rfl,LH (by rw [HOK.out];rfl),HB,HQ⟩
   ·cases z
    ·go_wp2_with fail
     refine Calls.mono (inB_any y 0 3 _) ?_
     rintro e w1 ⟨rfl,rfl⟩
     rw [← HZ.out]
     go_wp2_with fail
     go_roundg (n - (k+1))
     case measure=>omega
     case rel=>exact ⟨k+1,false,by omega,rfl,by go_num,rfl,LH (by rw [HOK.out];rfl),HB,HQ⟩
    ·by_cases hkz:k=0
     ·have hk00:((k:Int) == 0)=true:=by simp [hkz]
      have HO2:=LH (show true=okG gs (k+1) by rw [HOK.out,hkz];rfl)
      clear hkz
      go_wp2_with fail
      refine Calls.mono (inB_any y 0 3 _) ?_
      rintro e w1 ⟨rfl,rfl⟩
      rw [← HZ.out]
      go_wp2_with fail
      go_roundg (n - (k+1))
      case measure=>omega
      case rel=>exact ⟨k+1,true,by omega,rfl,by go_num,rfl,HO2,HB,HQ⟩
     ·obtain ⟨j,hj⟩:∃ j,k=j+1:=⟨k - 1,by omega⟩
      have c1:=HAT.out j (by omega)
      obtain ⟨x,hx⟩:∃ x,x=gs.getD j 0:=⟨_,rfl⟩
      rw [← hx] at c1
      have hk00:((k:Int) == 0)=false:=by simp;omega
      have hsub:(k:Int) - 1=(j:Int):=by omega
      have hj0:(0:Int)≤(j:Int):=by omega
      have hj1:(j:Int) < (n:Int):=by omega
      have HO2:=LH (show decide (x < y)=okG gs (k+1) by rw [HOK.out,hj,Nat.add_sub_cancel,← hx];simp)
      clear hx HOK hkz hj
      go_wp2_with fail
      refine Calls.mono (inB_any y 0 3 _) ?_
      rintro e w1 ⟨rfl,rfl⟩
      rw [← HZ.out]
      by_cases hxy:x < y
      ·have HO3:=LH (show true=okG gs (k+1) by rw [← HO2.out];simp [hxy])
       clear HO2
       go_wp2_with fail
       go_roundg (n - (k+1))
       case measure=>omega
       case rel=>exact ⟨k+1,true,by omega,rfl,by go_num,rfl,HO3,HB,HQ⟩
      ·have HO3:=LH (show false=okG gs (k+1) by rw [← HO2.out];simp [hxy])
       clear HO2
       go_wp2_with fail
       go_roundg (n - (k+1))
       case measure=>omega
       case rel=>exact ⟨k+1,false,by omega,rfl,by go_num,by first|rfl|rw [decide_eq_false (by omega)],HO3,HB,HQ⟩
  ·obtain rfl:k=n:=by omega
   have hlt':¬ (k:Int) < (k:Int):=by omega
   have HC2:=LH (show c=if (t && (idB id && (inB topic 0 3 && (decide (key.size≤16) && decide (body.size≤64)))))=true then 0 else 120 by rw [HC.out,HT.out])
   clear HT
   cases t
   ·obtain rfl:c=120:=by rw [HC2.out];rfl
    clear HC2 HC
    go_wp2_with fail
    go_ret
    exact ⟨rfl,HB.out⟩
   ·obtain ⟨z1,hz1⟩:∃ z:Bool,z=idB id:=⟨_,rfl⟩
    obtain ⟨z2,hz2⟩:∃ z:Bool,z=inB topic 0 3:=⟨_,rfl⟩
    rw [← hz1,← hz2] at HC2
    have HZ1:=LH hz1
    have HZ2:=LH hz2
    clear hz1 hz2
    cases z1
    ·obtain rfl:c=120:=by rw [HC2.out];rfl
     clear HC2 HC
     go_wp2_with fail
     refine Calls.mono (idB_any id _) ?_
     rintro e w1 ⟨rfl,rfl⟩
     rw [← HZ1.out]
     go_wp2_with fail
     go_ret
     exact ⟨rfl,HB.out⟩
    ·cases z2
     ·obtain rfl:c=120:=by rw [HC2.out];rfl
      clear HC2 HC
      go_wp2_with fail
      refine Calls.mono (idB_any id _) ?_
      rintro e w1 ⟨rfl,rfl⟩
      rw [← HZ1.out]
      go_wp2_with fail
      refine Calls.mono (inB_any topic 0 3 _) ?_
      rintro e w1 ⟨rfl,rfl⟩
      rw [← HZ2.out]
      go_wp2_with fail
      go_ret
      exact ⟨rfl,HB.out⟩
     ·by_cases hk16:key.size≤16
      ·by_cases hb64:body.size≤64
       ·have hk17:¬ (16:Int) < (key.size:Int):=by omega
        have hb65:¬ (64:Int) < (body.size:Int):=by omega
        obtain rfl:c=0:=by rw [HC2.out];simp [hk16,hb64]
        clear HC2 HC hk16 hb64
        go_wp2_with fail
        refine Calls.mono (idB_any id _) ?_
        rintro e w1 ⟨rfl,rfl⟩
        rw [← HZ1.out]
        go_wp2_with fail
        refine Calls.mono (inB_any topic 0 3 _) ?_
        rintro e w1 ⟨rfl,rfl⟩
        rw [← HZ2.out]
        go_wp2_with fail
        go_ret
        exact ⟨rfl,HB.out⟩
       ·have hk17:¬ (16:Int) < (key.size:Int):=by omega
        have hb65:(64:Int) < (body.size:Int):=by omega
        obtain rfl:c=120:=by rw [HC2.out];simp [hb64]
        clear HC2 HC hk16 hb64
        go_wp2_with fail
        refine Calls.mono (idB_any id _) ?_
        rintro e w1 ⟨rfl,rfl⟩
        rw [← HZ1.out]
        go_wp2_with fail
        refine Calls.mono (inB_any topic 0 3 _) ?_
        rintro e w1 ⟨rfl,rfl⟩
        rw [← HZ2.out]
        go_wp2_with fail
        go_ret
        exact ⟨rfl,HB.out⟩
      ·have hk17:(16:Int) < (key.size:Int):=by omega
       obtain rfl:c=120:=by rw [HC2.out];simp [hk16]
       clear HC2 HC hk16
       go_wp2_with fail
       refine Calls.mono (idB_any id _) ?_
       rintro e w1 ⟨rfl,rfl⟩
       rw [← HZ1.out]
       go_wp2_with fail
       refine Calls.mono (inB_any topic 0 3 _) ?_
       rintro e w1 ⟨rfl,rfl⟩
       rw [← HZ2.out]
       go_wp2_with fail
       go_ret
       exact ⟨rfl,HB.out⟩
theorem chkMsg_any {v:Value} {m:PM} {w:World} (h:MsgR w v m) {c:Int} (hc:c=if msgB m=true then 0 else 120):Calls Tryz.prog 80 #[v] w fun e w'=>e=.returned (.int .i64 c)∧Below w.heap.size w w':=by
 obtain ⟨a,cap,rfl,hg⟩:=h
 by_cases h4:1≤m.groups.length∧m.groups.length≤4
 ·refine chkMsg_loop hg rfl h4 ?_
  rw [hc,msgB,grpB]
  simp [h4]
 ·have:c=120:=by
   rw [hc,msgB,grpB]
   have:(decide (1≤m.groups.length) && decide (m.groups.length≤4))=false:=by simp;omega
   rw [this]
   rfl
  rw [this]
  exact chkMsg_few hg rfl h4
end Go.Proofs.YtkkohllhebdlcaaGreatDoor
namespace Go.Proofs.YtkkohllhebdlcaaGreatDoor
open Go.RowKit
theorem trim1 (x:Ent) (tb:Nat) (b:Int) (w:World) (hc:w.cell? ⟨tb,0,none⟩=some (.int .i64 b)) :
  Calls Tryz.prog 123 #[.agg #[.int .i64 x.off,.int .i64 x.id,.string x.key,.string x.body],.pointer (some ⟨tb,0,none⟩)] w fun e w'=>e=.returned (.bool (decide (b≤x.off)))∧Below w.heap.size w w':=by
 have hlt:=World.block_lt_of_cell? w _ hc
 have hlt':tb < w.heap.size:=hlt
 go_enter Tryz.func123,Tryz.ntmps123
 go_wp2_with fail
 go_ret
 exact ⟨rfl,(Below.refl _ _).alloc (Nat.le_refl _) _⟩
def FirstAt (l:List Ent) (b i:Int):Prop :=
 (i=-1∧∀ j,j < l.length→(l.getD j default).off < b)∨∃ k:Nat,k < l.length∧i=(k:Int)∧(∀ j,j < k→(l.getD j default).off < b)∧b≤(l.getD k default).off
def IdxEnd (l:List Ent) (b:Int) (w:World) (e:Ending) (w':World):Prop:=(∃ i:Int,e=.returned (.int .i64 i)∧FirstAt l b i)∧Below w.heap.size w w'
set_option maxHeartbeats 1000000 in
theorem idx18_any {v:Value} {l:List Ent} {w:World} (h:SliceR w v 4 entCells l) (tb:Nat) (b:Int) (hc:w.cell? ⟨tb,0,none⟩=some (.int .i64 b)) :
  Calls Tryz.prog 122 #[v,.func (.func 123) #[] #[.pointer (some ⟨tb,0,none⟩)]] w (IdxEnd l b w):=by
 obtain ⟨a,cap,hv,_⟩:=id h
 subst hv
 obtain ⟨⟨_,hcap⟩,⟨hmax,_⟩,hd⟩:=h.ents
 unfold maxLen at hmax
 have HT:=LH hc
 have HD:=LH hd
 obtain ⟨n,hn⟩:∃ n,n=l.length:=⟨_,rfl⟩
 rw [← hn] at HD hcap ⊢
 have HN:=LH hn
 clear hn hd h hc
 have hn':(n:Int)≤9223372036854775807:=by omega
 go_enter Tryz.func122,Tryz.ntmps122
 go_wp2_with fail
 go_loopg [5,8] n (fun g _ i wr=>∃ k:Nat,k≤n∧g=n - k∧i=.int .i64 (k:Int)∧Hid (∀ j,j < k→(l.getD j default).off < b)∧Hid (Below w.heap.size w wr))
 case atStart=>exact ⟨0,Nat.zero_le _,rfl,rfl,(fun j hj=>absurd hj (Nat.not_lt_zero _)),Below.refl _ _⟩
 case round =>
  obtain ⟨k,hk,rfl,rfl,hall,hb⟩:=hrel
  by_cases hlt:k < n
  ·have hk0:(0:Int)≤(k:Int):=by omega
   have hk1:(k:Int) < (n:Int):=by omega
   obtain ⟨bb,off,ha,h1⟩:=HD.out (by omega)
   subst ha
   have cc:=h1 k (by rw [← HN.out];exact hlt)
   clear h1
   obtain ⟨x,hx⟩:∃ x,x=l.getD k default:=⟨_,rfl⟩
   rw [← hx] at cc
   have HX:=LH hx
   have c0:=keep hb.out cc.1.1.1
   have c1:=keep hb.out cc.1.1.2
   have c2:=keep hb.out cc.1.2
   have c3:=keep hb.out cc.2
   clear hx cc
   obtain ⟨q,hq⟩:∃ q,q=decide (b≤x.off):=⟨_,rfl⟩
   have L:=trim1 x tb b wr (keep hb.out HT.out)
   rw [← hq] at L
   have HL:=LH L
   have HQ:=LH hq
   clear L hq
   cases q
   all_goals
    go_wp2_with fail
    refine HL.out.mono ?_
    rintro e w1 ⟨rfl,hb1⟩
    have HB2:=LH (hb.out.trans (hb1.mono hb.out.size))
    clear hb hb1 c0 c1 c2 c3
    go_wp2_with fail
   ·go_roundg (n - (k+1))
    case measure=>omega
    case rel =>
     refine ⟨k+1,by omega,rfl,by go_num,fun j hj=>?_,HB2⟩
     by_cases hjk:j < k
     ·exact hall.out j hjk
     ·obtain rfl:j=k:=by omega
      have:=of_decide_eq_false HQ.out.symm
      rw [HX.out] at this
      omega
   ·go_ret
    refine ⟨⟨k,rfl,Or.inr ⟨k,by rw [← HN.out];exact hlt,rfl,hall.out,?_⟩⟩,HB2.out⟩
    have:=of_decide_eq_true HQ.out.symm
    rw [HX.out] at this
    exact this
  ·obtain rfl:k=n:=by omega
   have hlt':¬ (k:Int) < (k:Int):=by omega
   go_wp2_with fail
   go_ret
   exact ⟨⟨-1,rfl,Or.inl ⟨rfl,by rw [← HN.out];exact hall.out⟩⟩,hb.out⟩
end Go.Proofs.YtkkohllhebdlcaaGreatDoor
namespace Go.Proofs.YtkkohllhebdlcaaGreatDoor
def rises (l:List Ent):Prop:=∀ i,i+1 < l.length→(l.getD i default).off < (l.getD (i+1) default).off
theorem rises_lt {l:List Ent} (h:rises l) {j:Nat}:∀ {k:Nat},j < k→k < l.length→(l.getD j default).off < (l.getD k default).off
 |0,hj,_=>absurd hj (Nat.not_lt_zero _)
 |k+1,hj,hk=>by
  by_cases hjk:j=k
  ·rw [hjk];exact h k hk
  ·have h1:=rises_lt h (j:=j) (k:=k) (by omega) (by omega)
   have h2:=h k hk
   omega
theorem may_rises {t:Top} (h:t.may):rises t.ents:=fun i hi=>by
 have:=(h.2.1 (i+1) hi).2.2.2.1 (by omega)
 simpa using this
theorem fromE_append (b:Int) (l m:List Ent):fromE b (l++m)=fromE b l++fromE b m:=List.filter_append ..
theorem fromE_none {b:Int} {l:List Ent} (h:∀ x∈l,x.off < b):fromE b l=[]:=by
 refine List.filter_eq_nil_iff.2 fun x hx=>?_
 have:=h x hx
 simp;omega
theorem fromE_all {b:Int} {l:List Ent} (h:∀ x∈l,b≤x.off):fromE b l=l:=List.filter_eq_self.2 fun x hx=>by simpa using h x hx
theorem getD_at {l:List Ent} {j:Nat} (h:j < l.length):l.getD j default=l[j]:=by simp [List.getD,h]
theorem drop_from {l:List Ent} {b i:Int} (hr:rises l) (h:FirstAt l b i):l.drop (if i < 0 then l.length else i.toNat)=fromE b l:=by
 rcases h with ⟨rfl,hall⟩|⟨k,hk,rfl,hlo,hhi⟩
 ·rw [if_pos (by omega),List.drop_length,fromE_none]
  intro x hx
  obtain ⟨j,hj,rfl⟩:=List.getElem_of_mem hx
  rw [← getD_at hj];exact hall j hj
 ·rw [if_neg (by omega),Int.toNat_natCast]
  conv=>rhs;rw [← List.take_append_drop k l]
  rw [fromE_append,fromE_none,fromE_all,List.nil_append]
  ·intro x hx
   obtain ⟨j,hj,rfl⟩:=List.getElem_of_mem hx
   rw [List.getElem_drop]
   have hj':k+j < l.length:=by simp at hj;omega
   rw [← getD_at hj']
   by_cases h0:j=0
   ·subst h0;exact hhi
   ·have:=rises_lt hr (j:=k) (k:=k+j) (by omega) hj'
    omega
  ·intro x hx
   obtain ⟨j,hj,rfl⟩:=List.getElem_of_mem hx
   rw [List.getElem_take]
   have hj':j < k:=by simp at hj;omega
   rw [← getD_at (by omega)]
   exact hlo j hj'
end Go.Proofs.YtkkohllhebdlcaaGreatDoor
namespace Go.Proofs.YtkkohllhebdlcaaGreatDoor
open Go.RowKit Go.WideShapes Go.ChangeShapes
def trimTo (t:Top) (tq:Int):Int:=max t.base (min tq t.next)
def trimP (t:Top) (tq:Int):Top × Int :=
 if t.may then (if tq < 0∨1073741824 < tq then (Top.zero,2) else (⟨trimTo t tq,t.next,t.mark,fromE (trimTo t tq) t.ents⟩,0)) else (Top.zero,8)
theorem trimP_bad {t:Top} {tq:Int} (h:¬ t.may):trimP t tq=(Top.zero,8):=by simp [trimP,h]
theorem trimP_arg {t:Top} {tq:Int} (h:t.may) (h':tq < 0∨1073741824 < tq):trimP t tq=(Top.zero,2):=by simp [trimP,h,h']
theorem trimP_yes {t:Top} {tq:Int} (h:t.may) (h':¬ (tq < 0∨1073741824 < tq)):trimP t tq=(⟨trimTo t tq,t.next,t.mark,fromE (trimTo t tq) t.ents⟩,0):=by simp [trimP,h,h']
def TopEnd1 (u:Top) (x:Int) (w:World) (e:Ending) (w':World):Prop :=
 ∃ a cap,e=.returned (.tuple #[.agg #[.int .i64 u.base,.int .i64 u.next,.int .i64 u.mark,.slice a u.ents.length cap],.int .i64 x]) ∧
  OwnE w' w.heap.size (.slice a u.ents.length cap) u.ents∧Below w.heap.size w w'
theorem topEnd1_zero {w w':World} {e:Ending} (x:Int) (h:e=.returned (.tuple #[.agg #[.int .i64 0,.int .i64 0,.int .i64 0,.slice none 0 0],.int .i64 x])) (hb:Below w.heap.size w w'):TopEnd1 Top.zero x w e w' :=
 ⟨none,0,h,World.ownsRow_nil _ _ _ _,hb⟩
end Go.Proofs.YtkkohllhebdlcaaGreatDoor
set_option maxRecDepth 100000
namespace Go.Proofs.YtkkohllhebdlcaaGreatDoor
open Go.RowKit
theorem cells_str:Tryz.prog.cellsOf 9=1:=by kernel_rfl
end Go.Proofs.YtkkohllhebdlcaaGreatDoor
namespace Go.Proofs.YtkkohllhebdlcaaGreatDoor
open Go.RowKit
abbrev OwnC (w:World) (base:Nat) (v:Value) (m:List (List Int)):Prop:=OwnRows 37 3 w base v m
theorem info_intC:(Tryz.prog.info? 3).map (fun i=>(i.zero,i.size,i.bytes))=some (some (.int .i64 0),1,8):=by kernel_rfl
theorem info_row:(Tryz.prog.info? 37).map (fun i=>(i.zero,i.size,i.bytes))=some (some (.slice none 0 0),1,24):=by kernel_rfl
theorem size_int:(Tryz.prog.info? 3).map (·.size)=some 1:=by kernel_rfl
def few (m:List (List Int)):Prop:=m.length≤1000∧∀ r∈m,r.length≤1000
theorem rowVals_one (r:List Int):∀ v∈rowVals r,v.oneCell'=true:=by
 intro v hv
 simp only [rowVals,List.mem_map] at hv
 obtain ⟨y,_,rfl⟩:=hv
 rfl
def TwinEnd (m:List (List Int)) (w:World) (e:Ending) (w':World):Prop:=∃ v',e=.returned v'∧OwnC w' w.heap.size v' m∧Below w.heap.size w w'
set_option maxHeartbeats 4000000 in
theorem twin_some (b off n cap:Nat) (us:List Value) (m:List (List Int)) (w:World) (hn:n=m.length) (hcap:n≤cap) (hm:n≤1000) (hfew:∀ r∈m,r.length≤1000)
  (hc:∀ i,i < n→w.cell? ⟨b,off+i,none⟩=some (us.getD i .nilIface)) (hr:∀ i,i < n→SliceR w (us.getD i .nilIface) 1 intCell (m.getD i [])) :
  Calls Tryz.prog 68 #[.slice (some ⟨b,off,none⟩) n cap] w (TwinEnd m w):=by
 obtain ⟨i0,hi,hz0,hz1,hz2⟩:=info_parts info_row
 obtain ⟨i1,gi,gz0,gz1,gz2⟩:=info_parts info_intC
 have HC:=LH hc
 have HR:=LH hr
 have HN:=LH hn
 have HF:=LH hfew
 have n0:(n:Int)≤1000:=by omega
 obtain ⟨B,hB⟩:∃ B,B=w.heap.size:=⟨_,rfl⟩
 have HB:=LH hB
 clear hn hc hr hfew hB
 go_enter Tryz.func68,Tryz.ntmps68
 go_wp2_with fail
 go_loopw [3,9] (fun o i wr=>∃ k:Nat,k≤n∧i=.int .i64 (k:Int)∧Hid (OwnC wr B o (m.take k))∧Hid (Below B w wr)) (fun _ i _=>n - (intOf i).toNat)
 case atStart=>exact ⟨0,Nat.zero_le _,rfl,OwnRows.nil _ _ _ _,Below.refl _ _⟩
 case round =>
  obtain ⟨k,hk,rfl,hown,hb⟩:=hrel
  by_cases hlt:k < n
  ·have hk0:(0:Int)≤(k:Int):=by omega
   have hk1:(k:Int) < (n:Int):=by omega
   have hbw:Below w.heap.size w wr:=by rw [← HB.out];exact hb.out
   have hBr:B≤wr.heap.size:=by rw [HB.out];exact hbw.size
   have c0:=keep hbw (HC.out k hlt)
   have r0:=(HR.out k hlt).below (fun _=>rfl) hbw
   obtain ⟨u,hu⟩:∃ u,u=us.getD k .nilIface:=⟨_,rfl⟩
   rw [← hu] at c0 r0
   clear hu
   obtain ⟨r,hr⟩:∃ r,r=m.getD k []:=⟨_,rfl⟩
   rw [← hr] at r0
   have hrl:r.length≤1000:=by
    have h1:=HN.out
    have:m.getD k []∈m:=by
     have e:m.getD k []=m[k]'(by omega):=by simp [List.getD,show k < m.length by omega]
     rw [e];exact List.getElem_mem _
    rw [hr]
    exact HF.out _ this
   have HRR:=LH hr
   clear hr
   have r1:=r0
   obtain ⟨ua,ucap,hua,huc,_,hun,hud⟩:=r1
   subst hua
   have R0:=LH r0
   obtain ⟨us',h1,h2,h3,h4⟩:=hown.out
   have HO4:=LH h4
   have HO1:=LH h1
   have HO2:=LH h2
   have HO3:=LH h3
   have HUD:=LH hud
   have hul:us'.length≤1000:=by
    rw [h2,List.length_take]
    have:=HN.out
    omega
   clear r0 hun hud hown h1 h2 h3 h4 hbw
   go_wp2_with (at_make;go_must (refine wpList_make_full _ rfl _ _ 37 rfl B 3 i1 (.int .i64 0) 1 Tryz.underlying37 gi gz0 gz1 .i64 .i64 _ _ r.length rfl rfl rfl rfl (by rw [gz2];omega) (by unfold maxLen;omega) hBr ?_))
   intro w1 hx hg1
   obtain ⟨cur,hcur,hcl⟩:∃ cur:List Value,w1.heap[wr.heap.size]?=some (.cells cur.toArray 3 (0,0))∧cur.length=r.length:=by
    rcases hx.2 with ⟨h0,_⟩|⟨g,cp,cr,e1,_,e2,_,_,e5,_⟩
    ·cases h0
    ·cases e1
     exact ⟨cr.toList,by simpa using e2,by simpa using e5⟩
   have HCU:=LH hcur
   have HFIT:=LH (show 0+(rowVals r).length≤cur.length by simp [rowVals,hcl])
   have HNN:=LH (show (rowVals r).length=Nat.min r.length r.length by simp [rowVals])
   clear hx hcur
   have hps:0 < (rowVals r).length→(some ⟨wr.heap.size,0,none⟩:Option Addr)=some ⟨wr.heap.size,0,none⟩∧∃ ad,ua=some ad∧∀ j v,(rowVals r)[j]?=some v→w1.cell? (ad.add j)=some v:=by
    intro hpos
    refine ⟨rfl,?_⟩
    have hpos':0 < r.length:=by simpa [rowVals] using hpos
    obtain ⟨ub,uoff,e1,_⟩:=HUD.out hpos'
    subst e1
    refine ⟨_,rfl,fun j v hv=>?_⟩
    exact (R0.out.below (fun _=>rfl) (belowGrown hg1)).flat (fun _=>rfl) (by omega) j v (by rw [← rowVals_flat];exact hv)
   have HPS:=LH hps
   clear hps
   go_wp2_with (with_reducible refine wpList_copy_splice (o:=⟨some 18,_,_,_,_,_⟩) rfl _ _ 37 37 rfl 3 Tryz.underlying37 size_int (some ⟨wr.heap.size,0,none⟩) ua r.length r.length r.length ucap rfl rfl wr.heap.size 0 cur 3 HCU.out (rowVals r) HNN.out HPS.out HFIT.out (rowVals_one r) wr.heap.size w1 (Below.refl _ _) (Nat.le_refl _) ?_)
   intro w2 hw2 hb2
   have hbr:Below wr.heap.size wr w2:=(belowGrown hg1).trans hb2
   have hx2:w2.ownsRow B 3 1 (.slice (some ⟨wr.heap.size,0,none⟩) r.length r.length) r.length (rowVals r):=by
    have h5:=hw2.out
    rw [splice_all cur (rowVals r) (by simp [rowVals,hcl])] at h5
    refine ⟨by simp [rowVals],Or.inr ⟨_,r.length,_,rfl,hBr,h5,Nat.le_refl _,by unfold maxLen;omega,by simp [rowVals],List.take_of_length_le (by simp [rowVals])⟩⟩
   have hO1:=ownsRow_keep HO1.out hbr
   have hO3:∀ i,i < (m.take k).length→w2.ownsRow B 3 1 (us'.getD i .nilIface) ((m.take k).getD i []).length (rowVals ((m.take k).getD i [])):=fun i hi=>ownsRow_keep (HO3.out i hi) hbr
   have HX2:=LH hx2
   have HQ1:=LH hO1
   have HQ3:=LH hO3
   have HBR:=LH hbr
   clear hx2 hO1 hO3 hbr hw2 hb2 hg1 c0
   go_wp2_with (at_builtin;go_must (refine wpList_append_own _ rfl _ _ 34 rfl B 37 i0 (.slice none 0 0) 1 24 Tryz.underlying34 hi hz0 hz1 hz2 rfl (by decide) _ us'.length us' rfl (HQ1.out.alloc _) ⟨w2.heap.size,0,none⟩ 1 1 [.slice (some ⟨wr.heap.size,0,none⟩) r.length r.length] rfl rfl ?_ (by intro v hv;simp at hv;subst hv;rfl) (by unfold maxLen;omega) (by omega) (by have:=HBR.out.size;simp;omega) ?_))
   ·intro j v hv
    match j,hv with
    |0,hv=>simp at hv;subst hv;simp [Addr.add]
   ·intro v' w3 hown3 hgrow3 _
    have R:=OwnRows.snoc (te:=37) (ti:=3) (by decide) (HQ1.out.alloc (.cells #[.slice (some ⟨wr.heap.size,0,none⟩) r.length r.length] 37)) HO2.out (fun i hi=>(HQ3.out i hi).alloc _) HO4.out (HX2.out.alloc _) (fun i hi j hj=>by have:=((HO3.out i hi).lt j hj).2;simp only [Value.ownBlock,ne_eq,Option.some.injEq];omega) hown3 hgrow3
    have hb3:Below B w w3:=by
     refine Below.grown (hb.out.trans ((HBR.out.mono hBr).trans ((Below.refl _ _).alloc (by have:=HBR.out.size;omega) _))) hgrow3 (by have:=HBR.out.size;simp;omega) (fun j hj=>?_)
     exact (HQ1.out.lt j hj).1
    have HR3:=LH R
    have HB3:=LH hb3
    clear hown3 hgrow3 R hb3
    go_wp2_with fail
    go_roundw
    case rel =>
     refine ⟨k+1,by omega,by go_num,?_,HB3⟩
     have e:m.take (k+1)=m.take k++[r]:=by
      have h1:=HN.out
      rw [List.take_succ_eq_append_getElem (by omega),HRR.out]
      simp [List.getD,show k < m.length by omega]
     show OwnC w3 B v' (m.take (k+1))
     rw [e]
     exact HR3.out
    case measure=>simp [intOf];omega
  ·obtain rfl:k=n:=by omega
   have hlt':¬ (k:Int) < (k:Int):=by omega
   go_wp2_with fail
   go_ret
   refine ⟨_,rfl,?_,?_⟩
   ·have e:m.take k=m:=by rw [HN.out];exact List.take_length
    have h1:=hown.out
    rw [e,HB.out] at h1
    exact h1
   ·rw [← HB.out];exact hb.out
theorem twin_none (a:Option Addr) (cap:Nat) (w:World):Calls Tryz.prog 68 #[.slice a 0 cap] w (TwinEnd [] w):=by
 go_enter Tryz.func68,Tryz.ntmps68
 go_wp2_with fail
 refine wp_loop_rounds 1 ?_
 rw [rounds_succ]
 go_wp2
 go_ret
 exact ⟨_,rfl,OwnRows.nil _ _ _ _,Below.refl _ _⟩
theorem twin_any {v:Value} {m:List (List Int)} {w:World} (h:RowsR w v m) (hf:few m):Calls Tryz.prog 68 #[v] w (TwinEnd m w):=by
 obtain ⟨us,h1,h2,h3⟩:=h
 obtain ⟨a,cap,rfl,hcap,hm,_,hc⟩:=h1.one (c:=fun u=>u) .nilIface
 by_cases hl:us.length=0
 ·have:m=[]:=List.length_eq_zero_iff.1 (by omega)
  subst this
  rw [hl]
  exact twin_none a cap w
 ·obtain ⟨b,off,rfl,hd⟩:=hc (by omega)
  exact twin_some b off _ cap us m w h2 hcap (by rw [h2];exact hf.1) hf.2 hd (fun i hi=>h3 i (by omega))
end Go.Proofs.YtkkohllhebdlcaaGreatDoor
set_option maxRecDepth 100000
namespace Go.Proofs.YtkkohllhebdlcaaGreatDoor
open Go.RowKit Go.Deep Go.WideShapes Go.ChangeShapes
theorem getD_lt {α:Type} {l:List α} {i:Nat} {d:α} (h:i < l.length):l.getD i d=l[i]:=by simp [List.getD,h]
structure Str where
 tops:List Top
 coms:List (List Int)
instance:Inhabited Top:=⟨Top.zero⟩
def topCells (p:Value × Top):List Value:=[.int .i64 p.2.base,.int .i64 p.2.next,.int .i64 p.2.mark,p.1]
theorem topCells_len (p:Value × Top):(topCells p).length=4:=rfl
def EntR (w:World) (u:Value) (t:Top):Prop:=∃ a cap,u=.slice a t.ents.length cap∧SliceR w u 4 entCells t.ents
def TopsR (w:World) (v:Value) (l:List Top):Prop:=∃ pl:List (Value × Top),pl.map (·.2)=l∧SliceR w v 4 topCells pl∧∀ p∈pl,EntR w p.1 p.2
def StrR (w:World) (v:Value) (s:Str):Prop:=∃ ta tc,v=.agg #[ta,tc]∧TopsR w ta s.tops∧RowsR w tc s.coms
theorem EntR.below {w w':World} {u:Value} {t:Top} (h:EntR w u t) (hb:Below w.heap.size w w'):EntR w' u t:=by
 obtain ⟨a,cap,h1,h2⟩:=h
 exact ⟨a,cap,h1,h2.below entCells_len hb⟩
theorem TopsR.below {w w':World} {v:Value} {l:List Top} (h:TopsR w v l) (hb:Below w.heap.size w w'):TopsR w' v l:=by
 obtain ⟨pl,h1,h2,h3⟩:=h
 exact ⟨pl,h1,h2.below topCells_len hb,fun p hp=>(h3 p hp).below hb⟩
theorem StrR.below {w w':World} {v:Value} {s:Str} (h:StrR w v s) (hb:Below w.heap.size w w'):StrR w' v s:=by
 obtain ⟨ta,tc,h1,h2,h3⟩:=h
 exact ⟨ta,tc,h1,h2.below hb,h3.below hb⟩
theorem topR_of {w:World} {u:Value} {t:Top} (h:EntR w u t):TopR w (.agg #[.int .i64 t.base,.int .i64 t.next,.int .i64 t.mark,u]) t:=by
 obtain ⟨a,cap,rfl,h2⟩:=h
 exact ⟨a,cap,rfl,h2⟩
def TopAt (w:World) (b o:Nat) (t:Top):Prop:=∃ ea ecap,(((w.cell? ⟨b,o,none⟩=some (.int .i64 t.base)∧w.cell? ⟨b,o+1,none⟩=some (.int .i64 t.next))∧w.cell? ⟨b,o+2,none⟩=some (.int .i64 t.mark)) ∧
 w.cell? ⟨b,o+3,none⟩=some (.slice ea t.ents.length ecap))∧TopR w (.agg #[.int .i64 t.base,.int .i64 t.next,.int .i64 t.mark,.slice ea t.ents.length ecap]) t
theorem TopsR.shape {w:World} {v:Value} {l:List Top} (h:TopsR w v l):∃ a cap,v=.slice a l.length cap∧l.length≤cap∧cap≤maxLen∧(a=none→cap=0) ∧
  (0 < l.length→∃ b off,a=some ⟨b,off,none⟩∧∀ i,i < l.length→TopAt w b (off+i * 4) (l.getD i default)):=by
 obtain ⟨pl,rfl,⟨a,cap,h1,h2,h3,h4,h5⟩,h6⟩:=h
 refine ⟨a,cap,by rw [List.length_map];exact h1,by rw [List.length_map];exact h2,h3,h4,fun hp=>?_⟩
 rw [List.length_map] at hp
 obtain ⟨b,off,ha,hd⟩:=h5 hp
 refine ⟨b,off,ha,fun i hi=>?_⟩
 rw [List.length_map] at hi
 have e:(pl.map (·.2)).getD i default=pl[i].2:=by simp [List.getD,hi]
 rw [e]
 have hE:=h6 _ (List.getElem_mem hi)
 obtain ⟨ea,ecap,hu,hs⟩:=id hE
 have hT:=topR_of hE
 rw [hu] at hT
 refine ⟨ea,ecap,⟨⟨⟨by simpa [topCells] using hd i hi 0 (by omega),by simpa [topCells,Nat.add_assoc] using hd i hi 1 (by omega)⟩,by simpa [topCells,Nat.add_assoc] using hd i hi 2 (by omega)⟩,?_⟩,hT⟩
 have h3:=hd i hi 3 (by omega)
 rw [Nat.add_assoc,h3]
 simp [topCells,hu]
theorem StrR.shape {w:World} {v:Value} {s:Str} (h:StrR w v s):∃ a cap b n c,v=.agg #[.slice a s.tops.length cap,.slice b n c]∧TopsR w (.slice a s.tops.length cap) s.tops∧RowsR w (.slice b n c) s.coms:=by
 obtain ⟨ta,tc,rfl,h2,h3⟩:=h
 obtain ⟨a,cap,rfl,_⟩:=h2.shape
 obtain ⟨b,n,c,rfl⟩:=h3.shape
 exact ⟨a,cap,b,n,c,rfl,h2,h3⟩
theorem TopAt.keep {w w':World} {b o:Nat} {t:Top} (h:TopAt w b o t) (hb:Below w.heap.size w w'):TopAt w' b o t:=by
 obtain ⟨ea,ecap,⟨⟨⟨h0,h1⟩,h2⟩,h3⟩,h4⟩:=h
 exact ⟨ea,ecap,⟨⟨⟨Go.Proofs.YtkkohllhebdlcaaGreatDoor.keep hb h0,Go.Proofs.YtkkohllhebdlcaaGreatDoor.keep hb h1⟩,Go.Proofs.YtkkohllhebdlcaaGreatDoor.keep hb h2⟩,Go.Proofs.YtkkohllhebdlcaaGreatDoor.keep hb h3⟩,h4.below hb⟩
def RowAt (w:World) (g o:Nat) (r:List Int):Prop:=∃ ra rcap,w.cell? ⟨g,o,none⟩=some (.slice ra r.length rcap)∧SliceR w (.slice ra r.length rcap) 1 intCell r
theorem RowsR.at_ {w:World} {b:Option Addr} {n c:Nat} {m:List (List Int)} (h:RowsR w (.slice b n c) m):(n=m.length∧n≤c∧c≤maxLen)∧(0 < n→∃ g off,b=some ⟨g,off,none⟩∧∀ i,i < n→RowAt w g (off+i) (m.getD i [])):=by
 obtain ⟨us,e1,e2,e3⟩:=h
 obtain ⟨a,cap,hv,hcap,hm,_,hc⟩:=e1.one (c:=fun u=>u) .nilIface
 cases hv
 refine ⟨⟨e2,hcap,hm⟩,fun hp=>?_⟩
 obtain ⟨g,off,rfl,hd⟩:=hc hp
 refine ⟨g,off,rfl,fun i hi=>?_⟩
 have h1:=hd i hi
 have h2:=e3 i (by omega)
 obtain ⟨ra,rcap,hu,_⟩:=id h2
 rw [hu] at h1 h2
 exact ⟨ra,rcap,h1,h2⟩
theorem RowAt.keep {w w':World} {g o:Nat} {r:List Int} (h:RowAt w g o r) (hb:Below w.heap.size w w'):RowAt w' g o r:=by
 obtain ⟨ra,rcap,h1,h2⟩:=h
 exact ⟨ra,rcap,Go.Proofs.YtkkohllhebdlcaaGreatDoor.keep hb h1,h2.below (fun _=>rfl) hb⟩
end Go.Proofs.YtkkohllhebdlcaaGreatDoor
namespace Go.Proofs.YtkkohllhebdlcaaGreatDoor
open Go.RowKit
def addP (t:Top) (id:Int) (k b:ByteArray):Top × Int × Int :=
 if t.may then
  (if id < 0∨6291456≤id then (Top.zero,0,2) else if 16 < k.size∨64 < b.size then (Top.zero,0,3) else if t.next=1073741824∨t.ents.length=200 then (Top.zero,0,9)
   else (⟨t.base,t.next+1,t.mark,t.ents++[⟨t.next,id,k,b⟩]⟩,t.next,0))
 else (Top.zero,0,8)
def TopEnd2 (u:Top) (x y:Int) (w:World) (e:Ending) (w':World):Prop :=
 ∃ a cap,e=.returned (.tuple #[.agg #[.int .i64 u.base,.int .i64 u.next,.int .i64 u.mark,.slice a u.ents.length cap],.int .i64 x,.int .i64 y]) ∧
  OwnE w' w.heap.size (.slice a u.ents.length cap) u.ents∧Below w.heap.size w w'
theorem topEnd2_zero {w w':World} {e:Ending} (x y:Int) (h:e=.returned (.tuple #[.agg #[.int .i64 0,.int .i64 0,.int .i64 0,.slice none 0 0],.int .i64 x,.int .i64 y])) (hb:Below w.heap.size w w'):TopEnd2 Top.zero x y w e w' :=
 ⟨none,0,h,World.ownsRow_nil _ _ _ _,hb⟩
theorem own_ne {W:World} {B b:Nat} {v:Value} {l:List Ent} (h:OwnE W B v l) (hb:b < B):v.ownBlock≠some b:=fun e=>by have:=(h.lt _ e).1;omega
theorem below_grown {a W w':World} {B:Nat} {v:Value} {l:List Ent} (h:Below a.heap.size a W) (hg:W.grownBy w' v.ownBlock) (ho:OwnE W B v l) (hB:a.heap.size≤B):Below a.heap.size a w' :=
 h.grown hg h.size (fun k hk=>Nat.le_trans hB (ho.lt k hk).1)
theorem news_ent (x:Ent) {W:World} {g:Nat} {t:TypeId} (hg:g=W.heap.size):∀ j u,(entCells x)[j]?=some u→(W.alloc (.cells #[.int .i64 x.off,.int .i64 x.id,.string x.key,.string x.body] t)).cell? ((⟨g,0,none⟩:Addr).add j)=some u:=by
 intro j u hu
 have hB:=Blk.new (w:=W) (t:=t) (cs:=entCells x) hg
 have h:=hB.cell j
 rw [show ((⟨g,0,none⟩:Addr).add j)=⟨g,j,none⟩ by unfold Addr.add;split <;> simp_all]
 rw [← hu]
 exact h
end Go.Proofs.YtkkohllhebdlcaaGreatDoor
namespace Go.Proofs.YtkkohllhebdlcaaGreatDoor
def addT (t:Top) (id:Int) (k b:ByteArray):Top:=⟨t.base,t.next+1,t.mark,t.ents++[⟨t.next,id,k,b⟩]⟩
theorem add_may {t:Top} {id:Int} {k b:ByteArray} (h:t.may) (h1:0≤id∧id < 6291456∧k.size≤16∧b.size≤64) (h2:t.next≠1073741824) (h3:t.ents.length≠200):(addT t id k b).may:=by
 obtain ⟨⟨a1,a2,a3,a4,a5,a6,a7⟩,hg,hw⟩:=h
 have hlen:(t.ents++[(⟨t.next,id,k,b⟩:Ent)]).length=t.ents.length+1:=by simp
 have hpre:∀ j,j < t.ents.length→(t.ents++[(⟨t.next,id,k,b⟩:Ent)]).getD j default=t.ents.getD j default:=fun j hj=>by simp [List.getD,List.getElem?_append_left hj]
 have hlast:(t.ents++[(⟨t.next,id,k,b⟩:Ent)]).getD t.ents.length default=⟨t.next,id,k,b⟩:=by simp [List.getD]
 refine ⟨⟨by show 0≤t.next+1;omega,by show t.next+1≤_;omega,a3,by show t.base≤t.next+1;omega,a5,by show t.mark≤t.next+1;omega,by show (t.ents++_).length≤200;rw [hlen];omega⟩,fun i hi=>?_,?_⟩
 ·have hi':i < t.ents.length+1:=by rw [← hlen];exact hi
  show Top.good ⟨t.base,t.next+1,t.mark,t.ents++[⟨t.next,id,k,b⟩]⟩ i
  unfold Top.good
  simp only
  by_cases hil:i < t.ents.length
  ·obtain ⟨g1,g2,g3,g4,g5⟩:=hg i hil
   rw [hpre i hil]
   refine ⟨g1,g2,by omega,fun h0=>?_,fun hm j hj=>?_⟩
   ·rw [hpre (i - 1) (by omega)];exact g4 h0
   ·rw [hpre j (by omega)];exact g5 hm j hj
  ·obtain rfl:i=t.ents.length:=by omega
   rw [hlast]
   refine ⟨h1,a4,by show t.next < t.next+1;omega,fun h0=>?_,fun hm=>?_⟩
   ·rw [hpre (t.ents.length - 1) (by omega)]
    exact (hg _ (by omega)).2.2.1
   ·exfalso
    have hm':t.next < t.mark:=hm
    omega
 ·show ((Top.whole ⟨t.base,t.next+1,t.mark,t.ents++[⟨t.next,id,k,b⟩]⟩ (t.ents++[⟨t.next,id,k,b⟩]):Nat):Int)=t.next+1 - max t.mark t.base
  have hw':((t.ents.countP fun x=>decide (t.mark≤x.off):Nat):Int)=t.next - max t.mark t.base:=hw
  have:Top.whole ⟨t.base,t.next+1,t.mark,t.ents++[⟨t.next,id,k,b⟩]⟩ (t.ents++[⟨t.next,id,k,b⟩])=(t.ents.countP fun x=>decide (t.mark≤x.off))+1:=by
   unfold Top.whole
   rw [List.countP_append]
   simp [a6]
  rw [this]
  omega
end Go.Proofs.YtkkohllhebdlcaaGreatDoor
namespace Go.Proofs.YtkkohllhebdlcaaGreatDoor
open Go.RowKit
set_option maxRecDepth 100000 in
theorem new_any (w:World):Calls Tryz.prog 64 #[] w fun e w'=>e=.returned (.agg #[.int .i64 0,.int .i64 0,.int .i64 0,.slice none 0 0])∧Below w.heap.size w w':=by
 go_enter Tryz.func64,Tryz.ntmps64
 go_wp2_with fail
 refine bodyPost_ret (v:=.agg #[.int .i64 0,.int .i64 0,.int .i64 0,.slice none 0 0]) (by simp [results,Tryz.results64,go_sem]) rfl ⟨rfl,?_⟩
 repeat (first|with_reducible (first|exact Below.refl _ _|apply Below.drew|apply below_alloc)|((first|with_reducible refine Below.alloc ?_ ?_ _|with_reducible refine Below.setCell ?_ ?_ _);rotate_left;focus (first|(simp <;> omega)|omega)))
end Go.Proofs.YtkkohllhebdlcaaGreatDoor
