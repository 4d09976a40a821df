/-
  Proved here: num.in, num.Get: a number off bytes. No condition. Plain: messages and commands with their lists, and how their values re stamp.Less and the document's: the order of stamps. No condition. Plain: what waits and what was delivered; how they read. No program in Own rows apart from one another, over what grows and what is stored. N quorum.Check: may members be. No condition. stamp.Check and the docume
-/
import Derived.Test.YtdfmcgekfogpbabGreatDoorProg
import Derived.Test.YtdfmcgekfogpbabGreatDoorY01
import Derived.Test.YtdfmcgekfogpbabGreatDoorY02
import Derived.Deep.LoopGhost
import Derived.StillTailTactics
set_option maxRecDepth 100000
namespace Go.Proofs.YtdfmcgekfogpbabGreatDoor
open Go.RowKit
def byteCell (x:Int):List Value:=[.int .u8 x]
def inN (n:Int):Bool:=decide (0≤n) && decide (n≤1099511627776)
theorem inN_any (n:Int) (w:World):Calls Tryz.prog 150 #[.int .i64 n] w fun e w'=>e=.returned (.bool (inN n))∧w=w':=by
 by_cases h1:0≤n
 ·by_cases h2:n≤1099511627776
  ·rw [show inN n=true by simp [inN,h1,h2]]
   go_enter Tryz.func150,Tryz.ntmps150
   go_wp2
   go_ret
   exact ⟨rfl,rfl⟩
  ·rw [show inN n=false by simp [inN,h2]]
   go_enter Tryz.func150,Tryz.ntmps150
   go_wp2
   go_ret
   exact ⟨rfl,rfl⟩
 ·rw [show inN n=false by simp [inN,h1]]
  go_enter Tryz.func150,Tryz.ntmps150
  go_wp2
  go_ret
  exact ⟨rfl,rfl⟩
def stepG (x y:Int) (k:Nat):Int:=bits BinOp.or IntKind.i64 x (wrap64 (wrap64 (bits BinOp.and IntKind.u8 y 127) * 2 ^ (7 * k)))
def getL:Int→Nat→List Int→Int × Int × Int
 |_,_,[]=>(0,0,8)
 |x,k,y :: l=>if 5 < k then (0,0,8) else if 127 < y then getL (stepG x y k) (k+1) l else if (y=0∧0 < k)∨inN (stepG x y k)=false then (0,0,8) else (stepG x y k,(k:Int)+1,0)
def getN (l:List Int):Int × Int × Int:=getL 0 0 l
theorem getL_cases:∀ (l:List Int) (x:Int) (k:Nat),getL x k l=(0,0,8)∨∃ n s,getL x k l=(n,s,0)∧(0≤n∧n≤1099511627776)∧(k:Int)+1≤s∧s≤(k:Int)+l.length
 |[],_,_=>Or.inl rfl
 |y :: l,x,k=>by
  rw [getL]
  split
  ·exact Or.inl rfl
  ·split
   ·rcases getL_cases l (stepG x y k) (k+1) with h|⟨n,s,h,h1,h2,h3⟩
    ·exact Or.inl h
    ·refine Or.inr ⟨n,s,h,h1,by omega,?_⟩
     simp only [List.length_cons];omega
   ·split
    ·exact Or.inl rfl
    ·rename_i h
     refine Or.inr ⟨_,_,rfl,?_,Int.le_refl _,?_⟩
     ·have:inN (stepG x y k)=true:=by
       cases hh:inN (stepG x y k)
       ·exact absurd (Or.inr hh) h
       ·rfl
      simpa [inN] using this
     ·simp only [List.length_cons];omega
theorem getN_cases (l:List Int):getN l=(0,0,8)∨∃ n s,getN l=(n,s,0)∧(0≤n∧n≤1099511627776)∧1≤s∧s≤(l.length:Int):=by
 rcases getL_cases l 0 0 with h|⟨n,s,h,h1,h2,h3⟩
 ·exact Or.inl h
 ·exact Or.inr ⟨n,s,h,h1,by omega,by omega⟩
def GetEnd (n s x:Int) (w:World) (e:Ending) (w':World):Prop:=e=.returned (.tuple #[.int .i64 n,.int .i64 s,.int .i64 x])∧w'=w
theorem drop_cons0 {l:List Int} {k:Nat} (h:k < l.length):l.drop k=l.getD k 0 :: l.drop (k+1):=by
 rw [List.drop_eq_getElem_cons h];simp [List.getD,h]
set_option maxHeartbeats 4000000 in
theorem getN_any {v:Value} {l:List Int} {w:World} {rn rs rx:Int} (h:SliceR w v 1 byteCell l) (hr:getN l=(rn,rs,rx)) :
  Calls Tryz.prog 132 #[v] w (GetEnd rn rs rx w):=by
 obtain ⟨a,cap,rfl,hcap,hmx,_,hd⟩:=h.one (c:=fun n=>.int .u8 n) 0
 obtain ⟨n,hn⟩:∃ n,n=l.length:=⟨_,rfl⟩
 rw [← hn] at hcap hd ⊢
 have HN:=LH hn
 have HD:=LH hd
 have HR:=LH (show getL 0 0 (l.drop 0)=(rn,rs,rx) from hr)
 unfold maxLen at hmx
 clear hd hn h hr
 go_enter Tryz.func132,Tryz.ntmps132
 go_wp2_with fail
 go_loopg [2,5,6,9] n (fun g n0 _ _ i wr=>∃ (k:Nat) (x:Int),k≤n∧g=n - k∧i=.int .i64 (k:Int)∧n0=.int .i64 x∧Hid (getL x k (l.drop k)=(rn,rs,rx))∧wr=w)
 case atStart=>exact ⟨0,0,Nat.zero_le _,rfl,rfl,rfl,HR,rfl⟩
 case round =>
  clear HR
  obtain ⟨k,x,hk,rfl,rfl,rfl,HR,rfl⟩:=hrel
  by_cases hlt:k < n
  ·have hk0:(0:Int)≤(k:Int):=by omega
   have hk1:(k:Int) < (n:Int):=by omega
   obtain ⟨b,off,rfl,hat⟩:=HD.out (by omega)
   have c0:=hat k hlt
   have hdr:=drop_cons0 (l:=l) (k:=k) (by rw [← HN.out];exact hlt)
   obtain ⟨y,hy⟩:∃ y,y=l.getD k 0:=⟨_,rfl⟩
   rw [← hy] at c0 hdr
   have HE:=HR.out
   rw [hdr,getL] at HE
   clear hat hy hdr
   by_cases h5:5 < k
   ·have h5':(5:Int) < (k:Int):=by omega
    rw [if_pos h5] at HE
    cases HE
    go_wp2_with fail
    exact bodyPost_ret (v:=.tuple #[.int .i64 (0),.int .i64 (0),.int .i64 (8)]) (by simp [results,Tryz.results132,go_sem]) rfl ⟨rfl,rfl⟩
   ·have h5':¬ (5:Int) < (k:Int):=by omega
    rw [if_neg h5] at HE
    by_cases hy:127 < y
    ·rw [if_pos hy] at HE
     have HE':=LH HE
     clear HE
     go_wp2_with fail
     go_roundg (n - (k+1))
     case measure=>omega
     case rel=>exact ⟨k+1,stepG x y k,by omega,rfl,by go_num,rfl,HE',rfl⟩
    ·rw [if_neg hy] at HE
     obtain ⟨z,hz⟩:∃ z,z=stepG x y k:=⟨_,rfl⟩
     have hz':bits BinOp.or IntKind.i64 x (wrap64 (wrap64 (bits BinOp.and IntKind.u8 y 127) * 2 ^ (7 * k)))=z:=hz.symm
     rw [← hz] at HE
     clear hz
     by_cases hb:y=0∧0 < k
     ·rw [if_pos (Or.inl hb)] at HE
      cases HE
      have hy0:(y == 0)=true:=by simp [hb.1]
      have hk00:(0:Int) < (k:Int):=by omega
      clear hb
      go_wp2_with fail
      exact bodyPost_ret (v:=.tuple #[.int .i64 (0),.int .i64 (0),.int .i64 (8)]) (by simp [results,Tryz.results132,go_sem]) rfl ⟨rfl,rfl⟩
     ·cases hi:inN z
      ·rw [if_pos (Or.inr hi)] at HE
       cases HE
       by_cases hy0:y=0
       ·have hy1:(y == 0)=true:=by simp [hy0]
        have hk00:¬ (0:Int) < (k:Int):=fun hh=>hb ⟨hy0,by omega⟩
        clear hb hy0
        go_wp2_with fail
        refine Calls.mono (inN_any _ _) ?_
        rintro e w1 ⟨rfl,rfl⟩
        rw [hi]
        go_wp2_with fail
        exact bodyPost_ret (v:=.tuple #[.int .i64 (0),.int .i64 (0),.int .i64 (8)]) (by simp [results,Tryz.results132,go_sem]) rfl ⟨rfl,rfl⟩
       ·have hy1:(y == 0)=false:=by simp [hy0]
        clear hb hy0
        go_wp2_with fail
        refine Calls.mono (inN_any _ _) ?_
        rintro e w1 ⟨rfl,rfl⟩
        rw [hi]
        go_wp2_with fail
        exact bodyPost_ret (v:=.tuple #[.int .i64 (0),.int .i64 (0),.int .i64 (8)]) (by simp [results,Tryz.results132,go_sem]) rfl ⟨rfl,rfl⟩
      ·have hno:¬ ((y=0∧0 < k)∨inN z=false):=by
        rintro (hh|hh)
        ·exact hb hh
        ·rw [hi] at hh;cases hh
       rw [if_neg hno] at HE
       cases HE
       clear hno
       by_cases hy0:y=0
       ·have hy1:(y == 0)=true:=by simp [hy0]
        have hkz:k=0:=Nat.eq_zero_of_not_pos (fun hh=>hb ⟨hy0,hh⟩)
        have hk00:¬ (0:Int) < (k:Int):=by omega
        have HKZ:=LH hkz
        clear hb hy0 hkz
        go_wp2_with fail
        refine Calls.mono (inN_any _ _) ?_
        rintro e w1 ⟨rfl,rfl⟩
        rw [hi]
        go_wp2_with fail
        exact bodyPost_ret (v:=.tuple #[.int .i64 rn,.int .i64 ((k:Int)+1),.int .i64 (0)]) (by simp [results,Tryz.results132,go_sem];have:=HKZ.out;omega) rfl ⟨rfl,rfl⟩
       ·have hy1:(y == 0)=false:=by simp [hy0]
        clear hb hy0
        go_wp2_with fail
        refine Calls.mono (inN_any _ _) ?_
        rintro e w1 ⟨rfl,rfl⟩
        rw [hi]
        go_wp2_with fail
        exact bodyPost_ret (v:=.tuple #[.int .i64 rn,.int .i64 ((k:Int)+1),.int .i64 (0)]) (by simp [results,Tryz.results132,go_sem]) rfl ⟨rfl,rfl⟩
  ·obtain rfl:k=n:=by omega
   have hlt':¬ (k:Int) < (k:Int):=by omega
   have HE:=HR.out
   rw [List.drop_eq_nil_of_le (by rw [← HN.out];exact Nat.le_refl _)] at HE
   cases HE
   go_wp2_with fail
   exact bodyPost_ret (v:=.tuple #[.int .i64 (0),.int .i64 (0),.int .i64 (8)]) (by simp [results,Tryz.results132,go_sem]) rfl ⟨rfl,rfl⟩
end Go.Proofs.YtdfmcgekfogpbabGreatDoor
namespace Go.Proofs.YtdfmcgekfogpbabGreatDoor
open Go.RowKit
structure PM where
 id:Int
 groups:List Int
 topic:Int
 key:ByteArray
 body:ByteArray
structure PC where
 kind:Int
 msg:PM
 id:Int
 time:Int
 members:List Int
 topic:Int
 who:Int
 n:Int
instance:Inhabited PM:=⟨⟨0,[],0,⟨#[]⟩,⟨#[]⟩⟩⟩
instance:Inhabited PC:=⟨⟨0,default,0,0,[],0,0,0⟩⟩
def IntsR (w:World) (v:Value) (l:List Int):Prop:=SliceR w v 1 intCell l
def msgCs (gv:Value) (m:PM):List Value:=[.int .i64 m.id,gv,.int .i64 m.topic,.string m.key,.string m.body]
def MsgR (w:World) (v:Value) (m:PM):Prop:=∃ a cap,v=.agg #[.int .i64 m.id,.slice a m.groups.length cap,.int .i64 m.topic,.string m.key,.string m.body]∧IntsR w (.slice a m.groups.length cap) m.groups
def ComR (w:World) (v:Value) (c:PC):Prop:=∃ a cap b bc,v=.agg #[.int .u8 c.kind,.int .i64 c.msg.id,.slice a c.msg.groups.length cap,.int .i64 c.msg.topic,.string c.msg.key,.string c.msg.body,.int .i64 c.id,.int .i64 c.time,.slice b c.members.length bc,.int .i64 c.topic,.int .i64 c.who,.int .i64 c.n] ∧
 IntsR w (.slice a c.msg.groups.length cap) c.msg.groups∧IntsR w (.slice b c.members.length bc) c.members
theorem IntsR.below {w w':World} {v:Value} {l:List Int} (h:IntsR w v l) (hb:Below w.heap.size w w'):IntsR w' v l:=SliceR.below h (fun _=>rfl) hb
theorem MsgR.below {w w':World} {v:Value} {m:PM} (h:MsgR w v m) (hb:Below w.heap.size w w'):MsgR w' v m:=by
 obtain ⟨a,cap,h1,h2⟩:=h
 exact ⟨a,cap,h1,h2.below hb⟩
theorem ComR.below {w w':World} {v:Value} {c:PC} (h:ComR w v c) (hb:Below w.heap.size w w'):ComR w' v c:=by
 obtain ⟨a,cap,b,bc,h1,h2,h3⟩:=h
 exact ⟨a,cap,b,bc,h1,h2.below hb,h3.below hb⟩
theorem ints_nil (w:World):IntsR w (.slice none 0 0) []:=⟨none,0,rfl,Nat.le_refl _,Nat.zero_le _,fun _=>rfl,fun h=>absurd h (Nat.lt_irrefl _)⟩
theorem IntsR.shape {w:World} {v:Value} {l:List Int} (h:IntsR w v l):∃ a cap,v=.slice a l.length cap∧l.length≤cap∧cap≤maxLen∧(a=none→cap=0)∧(0 < l.length→∃ b off,a=some ⟨b,off,none⟩∧∀ i,i < l.length→w.cell? ⟨b,off+i,none⟩=some (.int .i64 (l.getD i 0))) :=
 SliceR.one (c:=fun n=>.int .i64 n) 0 h
def inB (n lo hi:Int):Bool:=decide (lo≤n) && decide (n≤hi)
def idB (n:Int):Bool:=inB n 0 6291455
def okG (l:List Int):Nat→Bool
 |0=>true
 |k+1=>okG l k && (inB (l.getD k 0) 0 3 && (decide (k=0) || decide (l.getD (k - 1) 0 < l.getD k 0)))
def grpB (l:List Int):Bool:=(decide (1≤l.length) && decide (l.length≤4)) && okG l l.length
def msgB (m:PM):Bool:=grpB m.groups && (idB m.id && (inB m.topic 0 3 && (decide (m.key.size≤16) && decide (m.body.size≤64))))
end Go.Proofs.YtdfmcgekfogpbabGreatDoor
namespace Go.Proofs.YtdfmcgekfogpbabGreatDoor
open Go.RowKit
def lessB (t i t' i':Int):Bool:=decide (t < t'∨(t=t'∧i < i'))
set_option maxHeartbeats 800000 in
set_option maxRecDepth 100000 in
theorem less_lt (t i t' i':Int) (h:t < t') (w:World) :
  Calls Tryz.prog 100 #[.agg #[.int .i64 t,.int .i64 i],.agg #[.int .i64 t',.int .i64 i']] w fun e w'=>e=.returned (.bool true)∧Below w.heap.size w w':=by
 go_enter Tryz.func100,Tryz.ntmps100
 go_wp2_with fail
 refine wp_region_still_tail 10 (by kernel_rfl) (by kernel_rfl) ?_
 simp only [List.take_succ_cons,List.take_zero,List.drop_succ_cons,List.drop_zero]
 change wpStill _ _ (World.drew _) _ _ _
 repeat still_step
 still_call (callsFlip (compare_lt _ _ h _))
 repeat still_step
 still_call (callsFlip (compare_any _ _ _))
 refine wpStill_nil ?_
 change wpList _ _ _ _ _ (World.drew _)
 go_wp2_with fail
 refine (or_first _ (-1) _ ?x1 ?x2).mono ?_
 case x1=>decide
 case x2=>simp [go_sem]
 rintro e w' ⟨rfl,rfl⟩
 go_wp2_with fail
 go_ret
 exact ⟨rfl,by repeat (first|exact Below.refl _ _|apply Below.drew|refine Below.alloc ?_ (by simp;try omega) _)⟩
set_option maxHeartbeats 800000 in
set_option maxRecDepth 100000 in
theorem less_gt (t i t' i':Int) (h:t' < t) (w:World) :
  Calls Tryz.prog 100 #[.agg #[.int .i64 t,.int .i64 i],.agg #[.int .i64 t',.int .i64 i']] w fun e w'=>e=.returned (.bool false)∧Below w.heap.size w w':=by
 go_enter Tryz.func100,Tryz.ntmps100
 go_wp2_with fail
 refine wp_region_still_tail 10 (by kernel_rfl) (by kernel_rfl) ?_
 simp only [List.take_succ_cons,List.take_zero,List.drop_succ_cons,List.drop_zero]
 change wpStill _ _ (World.drew _) _ _ _
 repeat still_step
 still_call (callsFlip (compare_gt _ _ h _))
 repeat still_step
 still_call (callsFlip (compare_any _ _ _))
 refine wpStill_nil ?_
 change wpList _ _ _ _ _ (World.drew _)
 go_wp2_with fail
 refine (or_first _ 1 _ ?x1 ?x2).mono ?_
 case x1=>decide
 case x2=>simp [go_sem]
 rintro e w' ⟨rfl,rfl⟩
 go_wp2_with fail
 go_ret
 exact ⟨rfl,by repeat (first|exact Below.refl _ _|apply Below.drew|refine Below.alloc ?_ (by simp;try omega) _)⟩
set_option maxHeartbeats 800000 in
set_option maxRecDepth 100000 in
theorem less_eqlt (t i i':Int) (h:i < i') (w:World) :
  Calls Tryz.prog 100 #[.agg #[.int .i64 t,.int .i64 i],.agg #[.int .i64 t,.int .i64 i']] w fun e w'=>e=.returned (.bool true)∧Below w.heap.size w w':=by
 go_enter Tryz.func100,Tryz.ntmps100
 go_wp2_with fail
 refine wp_region_still_tail 10 (by kernel_rfl) (by kernel_rfl) ?_
 simp only [List.take_succ_cons,List.take_zero,List.drop_succ_cons,List.drop_zero]
 change wpStill _ _ (World.drew _) _ _ _
 repeat still_step
 still_call (callsFlip (compare_eq _ _))
 repeat still_step
 still_call (callsFlip (compare_lt _ _ h _))
 refine wpStill_nil ?_
 change wpList _ _ _ _ _ (World.drew _)
 go_wp2_with fail
 refine (or_second _ (-1) _ ?x1 ?x2).mono ?_
 case x1=>simp [go_sem]
 case x2=>simp [go_sem]
 rintro e w' ⟨rfl,rfl⟩
 go_wp2_with fail
 go_ret
 exact ⟨rfl,by repeat (first|exact Below.refl _ _|apply Below.drew|refine Below.alloc ?_ (by simp;try omega) _)⟩
set_option maxHeartbeats 800000 in
set_option maxRecDepth 100000 in
theorem less_eqgt (t i i':Int) (h:i' < i) (w:World) :
  Calls Tryz.prog 100 #[.agg #[.int .i64 t,.int .i64 i],.agg #[.int .i64 t,.int .i64 i']] w fun e w'=>e=.returned (.bool false)∧Below w.heap.size w w':=by
 go_enter Tryz.func100,Tryz.ntmps100
 go_wp2_with fail
 refine wp_region_still_tail 10 (by kernel_rfl) (by kernel_rfl) ?_
 simp only [List.take_succ_cons,List.take_zero,List.drop_succ_cons,List.drop_zero]
 change wpStill _ _ (World.drew _) _ _ _
 repeat still_step
 still_call (callsFlip (compare_eq _ _))
 repeat still_step
 still_call (callsFlip (compare_gt _ _ h _))
 refine wpStill_nil ?_
 change wpList _ _ _ _ _ (World.drew _)
 go_wp2_with fail
 refine (or_second _ 1 _ ?x1 ?x2).mono ?_
 case x1=>simp [go_sem]
 case x2=>simp [go_sem]
 rintro e w' ⟨rfl,rfl⟩
 go_wp2_with fail
 go_ret
 exact ⟨rfl,by repeat (first|exact Below.refl _ _|apply Below.drew|refine Below.alloc ?_ (by simp;try omega) _)⟩
set_option maxHeartbeats 800000 in
set_option maxRecDepth 100000 in
theorem less_eqeq (t i:Int) (w:World) :
  Calls Tryz.prog 100 #[.agg #[.int .i64 t,.int .i64 i],.agg #[.int .i64 t,.int .i64 i]] w fun e w'=>e=.returned (.bool false)∧Below w.heap.size w w':=by
 go_enter Tryz.func100,Tryz.ntmps100
 go_wp2_with fail
 refine wp_region_still_tail 10 (by kernel_rfl) (by kernel_rfl) ?_
 simp only [List.take_succ_cons,List.take_zero,List.drop_succ_cons,List.drop_zero]
 change wpStill _ _ (World.drew _) _ _ _
 repeat still_step
 still_call (callsFlip (compare_eq _ _))
 repeat still_step
 still_call (callsFlip (compare_eq _ _))
 refine wpStill_nil ?_
 change wpList _ _ _ _ _ (World.drew _)
 go_wp2_with fail
 refine (or_second _ 0 _ ?x1 ?x2).mono ?_
 case x1=>simp [go_sem]
 case x2=>simp [go_sem]
 rintro e w' ⟨rfl,rfl⟩
 go_wp2_with fail
 go_ret
 exact ⟨rfl,by repeat (first|exact Below.refl _ _|apply Below.drew|refine Below.alloc ?_ (by simp;try omega) _)⟩
theorem less_any (t i t' i':Int) (w:World) :
  Calls Tryz.prog 100 #[.agg #[.int .i64 t,.int .i64 i],.agg #[.int .i64 t',.int .i64 i']] w fun e w'=>e=.returned (.bool (lessB t i t' i'))∧Below w.heap.size w w':=by
 rcases Int.lt_trichotomy t t' with h|h|h
 ·rw [show lessB t i t' i'=true from by simp [lessB,h]];exact less_lt t i t' i' h w
 ·subst h
  rcases Int.lt_trichotomy i i' with h|h|h
  ·rw [show lessB t i t i'=true from by simp [lessB,h]];exact less_eqlt t i i' h w
  ·subst h
   rw [show lessB t i t i=false from by simp [lessB]];exact less_eqeq t i w
  ·rw [show lessB t i t i'=false from by simp [lessB];omega];exact less_eqgt t i i' h w
 ·rw [show lessB t i t' i'=false from by simp [lessB];omega];exact less_gt t i t' i' h w
end Go.Proofs.YtdfmcgekfogpbabGreatDoor
namespace Go.Proofs.YtdfmcgekfogpbabGreatDoor
open Go.RowKit
structure Wt where
 msg:PM
 time:Int
 fin:Bool
structure Sk where
 clock:Int
 waits:List Wt
 done:List (Int × Int)
instance:Inhabited Wt:=⟨⟨default,0,false⟩⟩
def wtCs (p:Value × Wt):List Value:=[.int .i64 p.2.msg.id,p.1,.int .i64 p.2.msg.topic,.string p.2.msg.key,.string p.2.msg.body,.int .i64 p.2.time,.bool p.2.fin]
def wtVal (u:Value) (x:Wt):Value:=.agg #[.int .i64 x.msg.id,u,.int .i64 x.msg.topic,.string x.msg.key,.string x.msg.body,.int .i64 x.time,.bool x.fin]
theorem wtCs_len (p:Value × Wt):(wtCs p).length=7:=rfl
def ofW (x:Wt):Int × Int:=(x.time,x.msg.id)
def lessW (x y:Wt):Bool:=lessB x.time x.msg.id y.time y.msg.id
def cmpW (x y:Wt):Int:=if lessW x y=true then -1 else if lessW y x=true then 1 else 0
end Go.Proofs.YtdfmcgekfogpbabGreatDoor
namespace Go.Proofs.YtdfmcgekfogpbabGreatDoor
open Go.RowKit Go.Deep
theorem rows_ne {w:World} {b1 b2:Nat} {e1 e2:TypeId} {s1 s2 n1 n2 k:Nat} {v1 v2:Value} {xs1 xs2:List Value} (h1:w.ownsRow b1 e1 s1 v1 n1 xs1) (h2:w.ownsRow b2 e2 s2 v2 n2 xs2) (he:e1≠e2) (hk:v2.ownBlock=some k):v1.ownBlock≠some k:=by
 rcases rows_apart h1 h2 he with h|h
 ·rw [h];simp
 ·rw [hk] at h;exact h
theorem ownsRow_grown {w w':World} {B k s n:Nat} {e:TypeId} {v:Value} {xs:List Value} {row:Option Nat} (h:w.ownsRow B e s v n xs) (hg:w.grownBy w' row) (hk:row=some k→v.ownBlock≠some k) (hs:row=none∨row=some k):w'.ownsRow B e s v n xs :=
 ⟨h.1,h.2.elim Or.inl (fun ⟨g,cp,cur,hv,hB,hh,q⟩=>Or.inr ⟨g,cp,cur,hv,hB,(hg.block g (Array.getElem?_eq_some_iff.1 hh).1 (fun e=>by
  rcases hs with h0|h0
  ·rw [h0] at e;cases e
  ·exact hk h0 (by rw [hv,← h0,← e];rfl))).trans hh,q⟩)⟩
theorem ownsRow_grown' {w w':World} {B s n:Nat} {e:TypeId} {v:Value} {xs:List Value} {row:Option Nat} (h:w.ownsRow B e s v n xs) (hg:w.grownBy w' row) (hk:∀ k,row=some k→v.ownBlock≠some k):w'.ownsRow B e s v n xs:=by
 cases row with
 |none=>exact ownsRow_grown (k:=0) h hg (fun e=>by cases e) (Or.inl rfl)
 |some k=>exact ownsRow_grown h hg (fun _=>hk k rfl) (Or.inr rfl)
theorem row_far {w w':World} {B s n g:Nat} {e:TypeId} {v:Value} {xs:List Value} (h:w.ownsRow B e s v n xs) (hh:∀ b,b≠g→w'.heap[b]?=w.heap[b]?) (hv:v.ownBlock≠some g):w'.ownsRow B e s v n xs :=
 ⟨h.1,h.2.elim Or.inl (fun ⟨g',cp,cur,hv',hB,hg,q⟩=>Or.inr ⟨g',cp,cur,hv',hB,(hh g' (fun e=>hv (by rw [hv',e];rfl))).trans hg,q⟩)⟩
theorem row_blk {w:World} {B s n g:Nat} {e t:TypeId} {v:Value} {xs cs:List Value} (h:w.ownsRow B e s v n xs) (hb:Blk w g t cs) (he:e≠t):v.ownBlock≠some g:=by
 rcases h.2 with ⟨rfl,_⟩|⟨g1,c1,cur1,rfl,_,hh1,_⟩
 ·simp [Value.ownBlock]
 ·intro hg
  have:g1=g:=by simpa [Value.ownBlock] using hg
  subst this
  rw [hb] at hh1
  simp at hh1
  exact he hh1.2.symm
end Go.Proofs.YtdfmcgekfogpbabGreatDoor
namespace Go.Proofs.YtdfmcgekfogpbabGreatDoor
open Go.RowKit
def quoL:Int→List Int→Int
 |last,[]=>if last < 0 then 60 else 0
 |last,n :: l=>if n≤last∨6≤n then 60 else quoL n l
def quoC (l:List Int):Int:=if 6 < l.length then 4 else quoL (-1) l
set_option maxHeartbeats 4000000 in
set_option maxRecDepth 100000 in
theorem quo_any {v:Value} {l:List Int} {w:World} {c:Int} (h:IntsR w v l) (hc:c=quoC l):Calls Tryz.prog 138 #[v] w fun e w'=>e=.returned (.int .i64 c)∧w'=w:=by
 obtain ⟨a,cap,rfl,hcap,hmx,_,hd⟩:=h.shape
 obtain ⟨n,hn⟩:∃ n,n=l.length:=⟨_,rfl⟩
 rw [quoC,← hn] at hc
 rw [← hn] at hcap hd ⊢
 have HN:=LH hn
 have HD:=LH hd
 unfold maxLen at hmx
 by_cases h6:6 < n
 ·rw [if_pos h6] at hc
  subst hc
  have h6':(6:Int) < (n:Int):=by omega
  clear hd hn h h6
  go_enter Tryz.func138,Tryz.ntmps138
  go_wp2_with fail
  go_ret
  exact ⟨rfl,rfl⟩
 ·rw [if_neg h6] at hc
  have HC:=LH (show c=quoL (-1) (l.drop 0) from hc)
  have h6':¬ (6:Int) < (n:Int):=by omega
  clear hd hn h h6 hc
  go_enter Tryz.func138,Tryz.ntmps138
  go_wp2_with fail
  go_loopg [3,5,11] n (fun g t3 _ i wr=>∃ (k:Nat) (x:Int),k≤n∧g=n - k∧i=.int .i64 (k:Int)∧t3=.int .i64 x∧Hid (c=quoL x (l.drop k))∧wr=w)
  case atStart=>exact ⟨0,-1,Nat.zero_le _,rfl,rfl,rfl,HC,rfl⟩
  case round =>
   clear HC
   obtain ⟨k,x,hk,rfl,rfl,rfl,HC,rfl⟩:=hrel
   by_cases hlt:k < n
   ·have hk0:(0:Int)≤(k:Int):=by omega
    have hk1:(k:Int) < (n:Int):=by omega
    obtain ⟨b,off,rfl,hat⟩:=HD.out (by omega)
    have c0:=hat k hlt
    have hdr:=drop_cons0 (l:=l) (k:=k) (by rw [← HN.out];exact hlt)
    obtain ⟨y,hy⟩:∃ y,y=l.getD k 0:=⟨_,rfl⟩
    rw [← hy] at c0 hdr
    have HE:=HC.out
    rw [hdr,quoL] at HE
    clear hat hy hdr HC
    by_cases h1:y≤x
    ·rw [if_pos (Or.inl h1)] at HE
     subst HE
     go_wp2_with fail
     go_ret
     exact ⟨rfl,rfl⟩
    ·by_cases h2:6≤y
     ·rw [if_pos (Or.inr h2)] at HE
      subst HE
      go_wp2_with fail
      go_ret
      exact ⟨rfl,rfl⟩
     ·rw [if_neg (by omega)] at HE
      have HE':=LH HE
      clear HE
      go_wp2_with fail
      go_roundg (n - (k+1))
      case measure=>omega
      case rel=>exact ⟨k+1,y,by omega,rfl,by go_num,rfl,HE',rfl⟩
   ·obtain rfl:k=n:=by omega
    have hlt':¬ (k:Int) < (k:Int):=by omega
    have HE:=HC.out
    rw [List.drop_eq_nil_of_le (by rw [← HN.out];exact Nat.le_refl _),quoL] at HE
    by_cases h0:x < 0
    ·rw [if_pos h0] at HE
     subst HE
     clear HC
     go_wp2_with fail
     go_ret
     exact ⟨rfl,rfl⟩
    ·rw [if_neg h0] at HE
     subst HE
     clear HC
     go_wp2_with fail
     go_ret
     exact ⟨rfl,rfl⟩
end Go.Proofs.YtdfmcgekfogpbabGreatDoor
namespace Go.Proofs.YtdfmcgekfogpbabGreatDoor
open Go.RowKit
def okSt (x:Int × Int):Bool:=decide (0≤x.1∧x.1≤1073741824∧0≤x.2∧x.2 < 6291456)
theorem stcheck_yes (t i:Int) (w:World) (h1:0≤t) (h2:t≤1073741824) (h3:0≤i) (h4:i < 6291456) :
  Calls Tryz.prog 99 #[.agg #[.int .i64 t,.int .i64 i]] w fun e w'=>e=.returned (.int .i64 0)∧Below w.heap.size w w':=by
 go_enter Tryz.func99,Tryz.ntmps99
 go_wp2
 go_ret
 exact ⟨rfl,(Below.refl _ _).alloc (Nat.le_refl _) _⟩
theorem stcheck_no (t i:Int) (w:World) (h:¬ (0≤t∧t≤1073741824∧0≤i∧i < 6291456)) :
  Calls Tryz.prog 99 #[.agg #[.int .i64 t,.int .i64 i]] w fun e w'=>e=.returned (.int .i64 8)∧Below w.heap.size w w':=by
 by_cases h1:t < 0
 ·go_enter Tryz.func99,Tryz.ntmps99
  go_wp2
  go_ret
  exact ⟨rfl,(Below.refl _ _).alloc (Nat.le_refl _) _⟩
 ·by_cases h2:1073741824 < t
  ·go_enter Tryz.func99,Tryz.ntmps99
   go_wp2
   go_ret
   exact ⟨rfl,(Below.refl _ _).alloc (Nat.le_refl _) _⟩
  ·by_cases h3:i < 0
   ·go_enter Tryz.func99,Tryz.ntmps99
    go_wp2
    go_ret
    exact ⟨rfl,(Below.refl _ _).alloc (Nat.le_refl _) _⟩
   ·have h4:6291456≤i:=by omega
    clear h
    go_enter Tryz.func99,Tryz.ntmps99
    go_wp2
    go_ret
    exact ⟨rfl,(Below.refl _ _).alloc (Nat.le_refl _) _⟩
theorem stcheck_any (x:Int × Int) (w:World):Calls Tryz.prog 99 #[.agg #[.int .i64 x.1,.int .i64 x.2]] w fun e w'=>e=.returned (.int .i64 (if okSt x then 0 else 8))∧Below w.heap.size w w':=by
 by_cases h:0≤x.1∧x.1≤1073741824∧0≤x.2∧x.2 < 6291456
 ·rw [if_pos (by simp [okSt,h])];exact stcheck_yes _ _ w h.1 h.2.1 h.2.2.1 h.2.2.2
 ·rw [if_neg (by simp only [okSt,decide_eq_true_eq];exact h)];exact stcheck_no _ _ w h
end Go.Proofs.YtdfmcgekfogpbabGreatDoor
set_option maxRecDepth 100000
/-
  topic.entry: whether an entry may be. No condition.
-/
namespace Go.Proofs.YtdfmcgekfogpbabGreatDoor
open Go.RowKit
theorem entry_yes (o i:Int) (k b:ByteArray) (w:World) (h1:0≤i) (h2:i < 6291456) (h3:k.size≤16) (h4:b.size≤64) :
  Calls Tryz.prog 110 #[.agg #[.int .i64 o,.int .i64 i,.string k,.string b]] w fun e w'=>e=.returned (.bool true)∧Below w.heap.size w w':=by
 have d3:(k.size:Int)≤16:=by omega
 have d4:(b.size:Int)≤64:=by omega
 go_enter Tryz.func110,Tryz.ntmps110
 go_wp2_with fail
 go_ret
 exact ⟨rfl,(Below.refl _ _).alloc (Nat.le_refl _) _⟩
theorem entry_no (o i:Int) (k b:ByteArray) (w:World) (h:¬ (0≤i∧i < 6291456∧k.size≤16∧b.size≤64)) :
  Calls Tryz.prog 110 #[.agg #[.int .i64 o,.int .i64 i,.string k,.string b]] w fun e w'=>e=.returned (.bool false)∧Below w.heap.size w w':=by
 by_cases h1:i < 0
 ·clear h
  go_enter Tryz.func110,Tryz.ntmps110
  go_wp2_with fail
  go_ret
  exact ⟨rfl,(Below.refl _ _).alloc (Nat.le_refl _) _⟩
 ·have h1':0≤i:=by omega
  by_cases h2:6291456≤i
  ·clear h
   go_enter Tryz.func110,Tryz.ntmps110
   go_wp2_with fail
   go_ret
   exact ⟨rfl,(Below.refl _ _).alloc (Nat.le_refl _) _⟩
  ·have h2':i < 6291456:=by omega
   by_cases h3:k.size≤16
   ·have h4:¬ b.size≤64:=fun h4=>h ⟨h1',h2',h3,h4⟩
    have d3:(k.size:Int)≤16:=by omega
    have d4:(64:Int) < (b.size:Int):=by omega
    have d5:decide ((b.size:Int)≤64)=false:=by simp;omega
    clear h h3 h4
    go_enter Tryz.func110,Tryz.ntmps110
    go_wp2_with fail
    go_ret
    exact ⟨rfl,(Below.refl _ _).alloc (Nat.le_refl _) _⟩
   ·have d3:(16:Int) < (k.size:Int):=by omega
    clear h h3
    go_enter Tryz.func110,Tryz.ntmps110
    go_wp2_with fail
    go_ret
    exact ⟨rfl,(Below.refl _ _).alloc (Nat.le_refl _) _⟩
theorem entry_any (x:Ent) (w:World) :
  Calls Tryz.prog 110 #[.agg #[.int .i64 x.off,.int .i64 x.id,.string x.key,.string x.body]] w fun e w'=>e=.returned (.bool (decide (Top.okEnt x)))∧Below w.heap.size w w':=by
 by_cases h:Top.okEnt x
 ·rw [decide_eq_true h]
  exact entry_yes _ _ _ _ w h.1 h.2.1 h.2.2.1 h.2.2.2
 ·rw [decide_eq_false h]
  exact entry_no _ _ _ _ w h
end Go.Proofs.YtdfmcgekfogpbabGreatDoor
/-
  topic.Check: whether a topic may be. No condition but that the topic reads.
-/
namespace Go.Proofs.YtdfmcgekfogpbabGreatDoor
open Go.RowKit
theorem head_no {t:Top} (h:¬ Top.head t):t.next < 0∨(0≤t.next∧(1073741824 < t.next∨(t.next≤1073741824∧(t.base < 0∨(0≤t.base∧(t.next < t.base∨(t.base≤t.next∧(t.mark < 0∨(0≤t.mark∧(t.next < t.mark∨(t.mark≤t.next∧(200:Int) < (t.ents.length:Int)))))))))))):=by
 unfold Top.head at h
 omega
set_option maxHeartbeats 2000000 in
theorem check_head (b n m:Int) (a:Option Addr) (l cap:Nat) (w:World)
  (h:n < 0∨(0≤n∧(1073741824 < n∨(n≤1073741824∧(b < 0∨(0≤b∧(n < b∨(b≤n∧(m < 0∨(0≤m∧(n < m∨(m≤n∧(200:Int) < (l:Int))))))))))))) :
  Calls Tryz.prog 61 #[.agg #[.int .i64 b,.int .i64 n,.int .i64 m,.slice a l cap]] w fun e w'=>e=.returned (.int .i64 8)∧Below w.heap.size w w':=by
 rcases h with h1|⟨h1,h2|⟨h2,h3|⟨h3,h4|⟨h4,h5|⟨h5,h6|⟨h6,h7⟩⟩⟩⟩⟩⟩
 all_goals
  go_enter Tryz.func61,Tryz.ntmps61
  go_wp2_with fail
  go_ret
  exact ⟨rfl,(Below.refl _ _).alloc (Nat.le_refl _) _⟩
theorem zero_int (w:World):(zeroValue 3).run Tryz.prog w=.ok (.int .i64 0) w:=by kernel_rfl
set_option maxHeartbeats 8000000 in
set_option maxRecDepth 100000 in
theorem check_some (t:Top) (a:Option Addr) (cap n:Nat) (w:World) (hn:n=t.ents.length) (hh:Top.head t) (hc:0 < n→∃ bb off,a=some ⟨bb,off,none⟩∧EntsAt w bb off t.ents) (hk:∀ x∈t.ents,x.key.size≤maxLen) (c:Int) (hm:(Top.chk t (t.base - 1) [] t.ents∧c=0)∨(¬ Top.chk t (t.base - 1) [] t.ents∧c=8)) :
  Calls Tryz.prog 61 #[.agg #[.int .i64 t.base,.int .i64 t.next,.int .i64 t.mark,.slice a n cap]] w fun e w'=>e=.returned (.int .i64 c)∧Below w.heap.size w w':=by
 obtain ⟨h1,h2,h3,h4,h5,h6,h7⟩:=hh
 have HC:=LH hc
 have HN:=LH hn
 have HK:=LH hk
 have HM:=LH hm
 obtain ⟨base,hbase⟩:∃ base,base=t.base:=⟨_,rfl⟩
 obtain ⟨next,hnext⟩:∃ next,next=t.next:=⟨_,rfl⟩
 obtain ⟨mark,hmark⟩:∃ mark,mark=t.mark:=⟨_,rfl⟩
 rw [← hn] at h7
 rw [← hbase,← hnext,← hmark]
 rw [← hbase] at h3 h4
 rw [← hnext] at h1 h2 h4 h6
 rw [← hmark] at h5 h6
 have HBS:=LH hbase
 have HNX:=LH hnext
 have HMK:=LH hmark
 clear hc hn hk hm hbase hnext hmark
 have n1:(n:Int)≤200:=by omega
 have hmm:=@run_makeMap Tryz.prog
 go_enter Tryz.func61,Tryz.ntmps61
 go_wp2_with fail
 go_loopg [4,52] n (fun g l i wr=>∃ (k:Nat) (last:Int) (seen:List ByteArray),k≤n∧g=n - k∧i=.int .i64 (k:Int)∧l=.int .i64 last∧(base - 1≤last∧last < next)∧Hid (Top.chk t last seen (t.ents.drop k)↔Top.chk t (t.base - 1) [] t.ents) ∧
  Hid (Seen Tryz.prog 9 3 wr (w.heap.size+1) k seen)∧Hid (Below w.heap.size w wr) ∧
  Hid (((wr.cell? ⟨w.heap.size,0,none⟩=some (.int .i64 base)∧wr.cell? ⟨w.heap.size,1,none⟩=some (.int .i64 next))∧wr.cell? ⟨w.heap.size,2,none⟩=some (.int .i64 mark))∧w.heap.size+2≤wr.heap.size))
 case atStart =>
  refine ⟨0,_,[],Nat.zero_le _,rfl,rfl,rfl,⟨by omega,by omega⟩,by rw [HBS.out];exact Iff.rfl,?_,?_,?_⟩
  ·have e:(w.alloc (.cells #[.int .i64 base,.int .i64 next,.int .i64 mark,.slice a n cap] 103)).heap.size=w.heap.size+1:=by simp
   show Seen _ _ _ _ _ _ _
   rw [← e]
   exact Seen.made _ _ _ _
  ·exact ((Below.refl _ _).alloc (Nat.le_refl _) _).alloc (by simp) _
  ·exact ⟨⟨⟨by go_simp,by go_simp⟩,by go_simp⟩,by simp⟩
 case round =>
  obtain ⟨k,last,seen,hk,rfl,rfl,rfl,⟨hlb,hln⟩,hch,hseen,hb,hbox⟩:=hrel
  obtain ⟨⟨⟨t0,t1⟩,t2⟩,hsz⟩:=hbox.out
  have HSZ:=LH hsz
  clear hbox hsz
  obtain ⟨l1,hl1⟩:∃ l1,l1=last+1:=⟨_,rfl⟩
  have hlw:IntKind.i64.wrap (last+1)=l1:=by rw [hl1];exact IntWalk.i64_in _ (by omega)
  have HL1:=LH hl1
  clear hl1
  by_cases hlt:k < n
  ·have hk0:(0:Int)≤(k:Int):=by omega
   have hk1:(k:Int) < (n:Int):=by omega
   obtain ⟨bb,off,ha,hcc⟩:=HC.out (by omega)
   subst ha
   have cc:=hcc k (by rw [← HN.out];exact hlt)
   clear hcc
   obtain ⟨x,hx⟩:∃ x,x=t.ents.getD k default:=⟨_,rfl⟩
   rw [← hx] at cc
   have c0:=keep hb.out cc.1.1.1
   have c1:=keep hb.out cc.1.1.2
   have c2:=keep hb.out cc.1.2
   have c3:=keep hb.out cc.2
   have HX:=LH hx
   clear cc hx
   obtain ⟨g,hg⟩:∃ g,g=decide (Top.okEnt x):=⟨_,rfl⟩
   have L:∀ w,Calls Tryz.prog 110 #[.agg #[.int .i64 x.off,.int .i64 x.id,.string x.key,.string x.body]] w fun e w'=>e=.returned (.bool g)∧Below w.heap.size w w':=fun w=>by
    rw [hg];exact entry_any x w
   have HL:=LH L
   have HG:=LH hg
   clear L hg
   go_wp2_with fail
   refine (HL.out _).mono ?_
   rintro e w2 ⟨rfl,hb2⟩
   have h12:Below wr.heap.size wr w2:=((Below.refl _ _).alloc (Nat.le_refl _) _).trans (hb2.mono (by simp))
   have e0:=keep hb2 (a:=⟨wr.heap.size,0,none⟩) (v:=.int .i64 x.off) (by go_simp)
   have e2:=keep hb2 (a:=⟨wr.heap.size,2,none⟩) (v:=.string x.key) (by go_simp)
   have f0:=keep h12 t0
   have f1:=keep h12 t1
   have f2:=keep h12 t2
   have HS2:=LH (hseen.out.below h12)
   have HB2:=LH (hb.out.trans (h12.mono hb.out.size))
   have hw2:wr.heap.size≤w2.heap.size:=h12.size
   have HSZ2:=LH (show w.heap.size+2≤w2.heap.size from Nat.le_trans HSZ.out hw2)
   have HDR:=LH (show t.ents.drop k=x :: t.ents.drop (k+1) by
    have hkl:k < t.ents.length:=by rw [← HN.out];exact hlt
    rw [HX.out,List.drop_eq_getElem_cons hkl]
    simp [List.getD,hkl])
   have HW2:=LH hw2
   have HKX:=LH (show x.key.size≤maxLen by
    have hkl:k < t.ents.length:=by rw [← HN.out];exact hlt
    refine HK.out x ?_
    have e:t.ents.getD k default=t.ents[k]:=by simp [List.getD,hkl]
    rw [HX.out,e];exact List.getElem_mem hkl)
   have hmk2:=@zero_int w2
   have ZI:=LH hmk2
   clear c0 c1 c2 c3 t0 t1 t2 hb2 h12 hw2 hseen hb hmk2
   have bad:(¬ (Top.okEnt x∧last < x.off∧x.off < next∧x.off≤max (last+1) mark∧(x.off < mark→x.key ∉ seen)))→c=8:=by
    intro hno
    rcases HM.out with ⟨h,_⟩|⟨_,h⟩
    ·exfalso
     have h':=hch.out.2 h
     rw [HDR.out] at h'
     rw [HNX.out,HMK.out] at hno
     exact hno h'.1
    ·exact h
   have BAD:=LH bad
   have good:(Top.okEnt x∧last < x.off∧x.off < next∧x.off≤max (last+1) mark∧(x.off < mark→x.key ∉ seen)) →
     (Top.chk t x.off (if x.off < t.mark then x.key :: seen else seen) (t.ents.drop (k+1))↔Top.chk t (t.base - 1) [] t.ents):=by
    intro hyes
    rw [HNX.out,HMK.out] at hyes
    rw [← hch.out,HDR.out]
    exact ⟨fun h=>⟨hyes,h⟩,fun h=>h.2⟩
   have GOOD:=LH good
   clear bad good
   cases g
   ·have hc8:c=8:=BAD.out (fun h=>of_decide_eq_false HG.out.symm h.1)
    have HC8:=LH hc8
    clear hc8
    go_wp2_with fail
    go_ret
    exact ⟨by rw [HC8.out];rfl,HB2.out⟩
   ·by_cases x1:x.off≤last
    ·have HC8:=LH (show c=8 from BAD.out (fun h=>by have:=h.2.1;omega))
     go_wp2_with fail
     go_ret
     exact ⟨by rw [HC8.out];rfl,HB2.out⟩
    ·have x1':last < x.off:=by omega
     by_cases x2:next≤x.off
     ·have HC8:=LH (show c=8 from BAD.out (fun h=>by have:=h.2.2.1;omega))
      go_wp2_with fail
      go_ret
      exact ⟨by rw [HC8.out];rfl,HB2.out⟩
     ·have x2':x.off < next:=by omega
      by_cases x4:l1 < mark
      ·have HMX:=LH (show max (last+1) mark=mark by have:=HL1.out;omega)
       by_cases x3:mark < x.off
       ·have HC8:=LH (show c=8 from BAD.out (fun h=>by have h3:=h.2.2.2.1;rw [HMX.out] at h3;omega))
        go_wp2_with fail
        go_ret
        exact ⟨by rw [HC8.out];rfl,HB2.out⟩
       ·have x3':x.off≤mark:=by omega
        by_cases x5:x.off < mark
        ·by_cases x6:x.key∈seen
         ·have HC8:=LH (show c=8 from BAD.out (fun h=>h.2.2.2.2 x5 x6))
          have look:=HS2.out.look Tryz.underlying9 Tryz.underlying221 Tryz.underlying3 ZI.out HKX.out 1 (Or.inl ⟨x6,rfl⟩)
          clear x6
          go_wp2_with fail
          go_ret
          exact ⟨by rw [HC8.out];rfl,HB2.out⟩
         ·have HG2:=LH (GOOD.out ⟨of_decide_eq_true HG.out.symm,x1',x2',by rw [HMX.out];exact x3',fun _=>x6⟩)
          have look:=HS2.out.look Tryz.underlying9 Tryz.underlying221 Tryz.underlying3 ZI.out HKX.out 0 (Or.inr ⟨x6,rfl⟩)
          obtain ⟨w3,hst,hs3,hg3⟩:=HS2.out.store (tm:=221) Tryz.underlying9 Tryz.underlying221 Tryz.underlying3 (by unfold maxLen;omega) HKX.out
          have HS3:=LH hs3
          have g0:=hg3.cell e0 (by have:=HSZ.out;simp;omega)
          have m0:=hg3.cell f0 (by simp)
          have m1:=hg3.cell f1 (by simp)
          have m2:=hg3.cell f2 (by simp)
          have HB3:=LH (HB2.out.grown hg3 (Nat.le_trans (by omega) HSZ2.out) (fun j hj=>by cases hj;omega))
          have HSZ3:=LH (Nat.le_trans HSZ2.out hg3.size)
          have HXM:=LH x5
          clear hs3 hg3 x6
          go_wp2_with fail
          go_roundg (n - (k+1))
          case measure=>omega
          case rel =>
           refine ⟨k+1,x.off,x.key :: seen,by omega,rfl,by go_num,rfl,⟨by omega,x2'⟩,?_,HS3,HB3,⟨⟨m0,m1⟩,m2⟩,HSZ3.out⟩
           have:=HG2.out
           rw [if_pos (by rw [← HMK.out];exact HXM.out)] at this
           exact this
        ·have HG2:=LH (GOOD.out ⟨of_decide_eq_true HG.out.symm,x1',x2',by rw [HMX.out];exact x3',fun h=>absurd h x5⟩)
         have HXM:=LH x5
         go_wp2_with fail
         go_roundg (n - (k+1))
         case measure=>omega
         case rel =>
          refine ⟨k+1,x.off,seen,by omega,rfl,by go_num,rfl,⟨by omega,x2'⟩,?_,HS2.out.mono (by omega),HB2,⟨⟨f0,f1⟩,f2⟩,HSZ2.out⟩
          have:=HG2.out
          rw [if_neg (by rw [← HMK.out];have:=HXM.out;omega)] at this
          exact this
      ·have HMX:=LH (show max (last+1) mark=l1 by have:=HL1.out;omega)
       by_cases x3:l1 < x.off
       ·have HC8:=LH (show c=8 from BAD.out (fun h=>by have h3:=h.2.2.2.1;rw [HMX.out] at h3;omega))
        go_wp2_with fail
        go_ret
        exact ⟨by rw [HC8.out];rfl,HB2.out⟩
       ·have x3':x.off≤l1:=by omega
        have x5:¬ x.off < mark:=by have:=HL1.out;omega
        have HG2:=LH (GOOD.out ⟨of_decide_eq_true HG.out.symm,x1',x2',by rw [HMX.out];exact x3',fun h=>absurd h x5⟩)
        have HXM:=LH x5
        go_wp2_with fail
        go_roundg (n - (k+1))
        case measure=>omega
        case rel =>
         refine ⟨k+1,x.off,seen,by omega,rfl,by go_num,rfl,⟨by omega,x2'⟩,?_,HS2.out.mono (by omega),HB2,⟨⟨f0,f1⟩,f2⟩,HSZ2.out⟩
         have:=HG2.out
         rw [if_neg (by rw [← HMK.out];have:=HXM.out;omega)] at this
         exact this
  ·obtain rfl:k=n:=by omega
   have hlt':¬ (k:Int) < (k:Int):=by omega
   have HEND:=LH (show (max (last+1) mark=next∧c=0)∨(max (last+1) mark≠next∧c=8) by
    have h0:t.ents.drop k=[]:=by rw [HN.out];exact List.drop_length
    have h1:=hch.out
    rw [h0] at h1
    have h2:Top.chk t last seen []↔max (last+1) mark=next:=by rw [HMK.out,HNX.out];exact Iff.rfl
    rcases HM.out with ⟨h,hc⟩|⟨h,hc⟩
    ·exact Or.inl ⟨h2.1 (h1.2 h),hc⟩
    ·exact Or.inr ⟨fun h'=>h (h1.1 (h2.2 h')),hc⟩)
   by_cases x4:l1 < mark
   ·have HMX:=LH (show max (last+1) mark=mark by have:=HL1.out;omega)
    by_cases x5:mark=next
    ·have hd:(mark != next)=false:=by simpa using x5
     have HC0:=LH (show c=0 by
      rcases HEND.out with ⟨_,h⟩|⟨h,_⟩
      ·exact h
      ·rw [HMX.out] at h;exact absurd x5 h)
     clear x5
     go_wp2_with fail
     go_ret
     exact ⟨by rw [HC0.out];rfl,hb.out⟩
    ·have hd:(mark != next)=true:=by simpa using x5
     have HC0:=LH (show c=8 by
      rcases HEND.out with ⟨h,_⟩|⟨_,h⟩
      ·rw [HMX.out] at h;exact absurd h x5
      ·exact h)
     clear x5
     go_wp2_with fail
     go_ret
     exact ⟨by rw [HC0.out];rfl,hb.out⟩
   ·have HMX:=LH (show max (last+1) mark=l1 by have:=HL1.out;omega)
    by_cases x5:l1=next
    ·have hd:(l1 != next)=false:=by simpa using x5
     have HC0:=LH (show c=0 by
      rcases HEND.out with ⟨_,h⟩|⟨h,_⟩
      ·exact h
      ·rw [HMX.out] at h;exact absurd x5 h)
     clear x5
     go_wp2_with fail
     go_ret
     exact ⟨by rw [HC0.out];rfl,hb.out⟩
    ·have hd:(l1 != next)=true:=by simpa using x5
     have HC0:=LH (show c=8 by
      rcases HEND.out with ⟨h,_⟩|⟨_,h⟩
      ·rw [HMX.out] at h;exact absurd h x5
      ·exact h)
     clear x5
     go_wp2_with fail
     go_ret
     exact ⟨by rw [HC0.out];rfl,hb.out⟩
theorem check_any {v:Value} {t:Top} {w:World} (h:TopR w v t) (hk:∀ x∈t.ents,x.key.size≤maxLen) (c:Int) (hc:(t.may∧c=0)∨(¬ t.may∧c=8)) :
  Calls Tryz.prog 61 #[v] w fun e w'=>e=.returned (.int .i64 c)∧Below w.heap.size w w':=by
 obtain ⟨a,cap,rfl,hs⟩:=h
 by_cases hh:Top.head t
 ·obtain ⟨_,_,hd⟩:=hs.ents
  refine check_some t a cap _ w rfl hh hd hk c ?_
  rw [Top.may_iff] at hc
  rcases hc with ⟨h1,h2⟩|⟨h1,h2⟩
  ·exact Or.inl ⟨h1.2,h2⟩
  ·exact Or.inr ⟨fun h=>h1 ⟨hh,h⟩,h2⟩
 ·rcases hc with ⟨h1,h2⟩|⟨h1,h2⟩
  ·exact absurd ((Top.may_iff t).1 h1).1 hh
  ·rw [h2]
   exact check_head _ _ _ _ _ _ w (head_no hh)
end Go.Proofs.YtdfmcgekfogpbabGreatDoor
/-
  topic.Check in two words: it may be, it may not. No condition but that the topic reads.
-/
namespace Go.Proofs.YtdfmcgekfogpbabGreatDoor
open Go.RowKit
theorem check_yes {v:Value} {t:Top} {w:World} (h:TopR w v t) (hk:∀ x∈t.ents,x.key.size≤maxLen) (hm:t.may) :
  Calls Tryz.prog 61 #[v] w fun e w'=>e=.returned (.int .i64 0)∧Below w.heap.size w w':=check_any h hk 0 (Or.inl ⟨hm,rfl⟩)
theorem check_no {v:Value} {t:Top} {w:World} (h:TopR w v t) (hk:∀ x∈t.ents,x.key.size≤maxLen) (hm:¬ t.may) :
  Calls Tryz.prog 61 #[v] w fun e w'=>e=.returned (.int .i64 8)∧Below w.heap.size w w':=check_any h hk 8 (Or.inr ⟨hm,rfl⟩)
end Go.Proofs.YtdfmcgekfogpbabGreatDoor
