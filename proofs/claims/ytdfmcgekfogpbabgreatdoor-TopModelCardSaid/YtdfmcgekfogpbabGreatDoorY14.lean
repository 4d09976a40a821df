/-
  Proved here: (*skeen.clock).find, (*skeen.clock).done, slices.Contains at numbers.  A clock's waits and done: own ones, and how they read. No program in s skeen.Twin. No condition but that what it reads is not great. A clock under way: its three cells and what they lead to. No program i command's reader: one kind of commands. No condition but the kind.
-/
import Derived.Test.YtdfmcgekfogpbabGreatDoorY10
import Derived.Test.YtdfmcgekfogpbabGreatDoorY12
set_option maxRecDepth 100000
namespace Go.Proofs.YtdfmcgekfogpbabGreatDoor
open Go.RowKit
theorem stCells_len (x:Int × Int):(stCells x).length=2:=rfl
set_option maxHeartbeats 4000000 in
set_option maxRecDepth 100000 in
theorem find_any {g:Nat} {v:Value} {pl:List (Value × Wt)} {w:World} (id:Int) (hg:w.cell? ⟨g,1,none⟩=some v) (h:WtsR w v pl) (hu:idsUp (pl.map (·.2))) (hi:smallI id) (hl:pl.length≤1000000) :
  Calls Tryz.prog 105 #[.pointer (some ⟨g,0,none⟩),.int .i64 id] w
   fun e w'=>e=.returned (.tuple #[.int .i64 (posW (pl.map (·.2)) id:Nat),.bool (hasW (pl.map (·.2)) id)])∧Below w.heap.size w w':=by
 have HC:=LH (fun (W:World) (hb:Below w.heap.size w W)=>bsW_any id (show WtsR W v pl from ⟨h.1.below wtCs_len hb,h.2⟩) hu hi hl)
 obtain ⟨P,hP⟩:∃ P,P=posW (pl.map (·.2)) id:=⟨_,rfl⟩
 obtain ⟨F,hF⟩:∃ F,F=hasW (pl.map (·.2)) id:=⟨_,rfl⟩
 rw [← hP,← hF] at HC ⊢
 obtain ⟨a,cap,rfl,hcap,hmx,-⟩:=h.shape
 obtain ⟨n,hn⟩:∃ n,n=pl.length:=⟨_,rfl⟩
 rw [← hn] at HC hg
 clear hP hF h hu hi hl hn hcap hmx
 go_enter Tryz.func105,Tryz.ntmps105
 go_wp2_with fail
 refine (HC.out _ (by first|exact Below.refl _ _|exact drewBelow _)).mono ?_
 rintro e w1 ⟨rfl,hb1⟩
 go_wp2_with fail
 go_ret2
 exact ⟨rfl,by first|exact hb1|exact (drewBelow _).trans hb1⟩
def doneB (l:List (Int × Int)) (id:Int):Bool:=l.any (fun x=>x.2 == id)
theorem done1_any (x:Int × Int) (id:Int) (b:Nat) (w:World) (hb:w.cell? ⟨b,0,none⟩=some (.int .i64 id)):Calls Tryz.prog 144 #[.agg #[.int .i64 x.1,.int .i64 x.2],.pointer (some ⟨b,0,none⟩)] w fun e w'=>e=.returned (.bool (x.2 == id))∧Below w.heap.size w w':=by
 have hlt:=World.block_lt_of_cell? w _ hb
 have hlt':b < w.heap.size:=hlt
 obtain ⟨x1,x2⟩:=x
 simp only
 go_enter Tryz.func144,Tryz.ntmps144
 go_wp2_with fail
 go_ret
 exact ⟨rfl,(Below.refl _ _).alloc (Nat.le_refl _) _⟩
def IdxOf (bs:List Bool) (i:Int):Prop:=(i=-1∧∀ x∈bs,x=false)∨(0≤i∧true∈bs)
theorem IdxOf.any {bs:List Bool} {i:Int} (h:IdxOf bs i):decide (0≤i)=bs.any id:=by
 rw [Bool.eq_iff_iff]
 simp only [decide_eq_true_eq,List.any_eq_true,id]
 rcases h with ⟨rfl,h⟩|⟨h,hm⟩
 ·constructor
  ·intro h0;omega
  ·rintro ⟨x,hx,rfl⟩;have:=h _ hx;cases this
 ·exact ⟨fun _=>⟨true,hm,rfl⟩,fun _=>h⟩
set_option maxHeartbeats 4000000 in
set_option maxRecDepth 100000 in
theorem idxSt_any {v:Value} {l:List (Int × Int)} {w:World} (h:SliceR w v 2 stCells l) (tb:Nat) (id:Int) (hc:w.cell? ⟨tb,0,none⟩=some (.int .i64 id)) :
  Calls Tryz.prog 156 #[v,.func (.func 144) #[] #[.pointer (some ⟨tb,0,none⟩)]] w fun e w'=>(∃ i:Int,e=.returned (.int .i64 i)∧IdxOf (l.map (fun x=>x.2 == id)) i)∧Below w.heap.size w w':=by
 obtain ⟨a,cap,rfl,hcap,hmax,-,hd⟩:=h
 unfold maxLen at hmax
 have HT:=LH hc
 have HD:=LH hd
 obtain ⟨n,hn⟩:∃ n,n=l.length:=⟨_,rfl⟩
 rw [← hn] at hcap ⊢
 have HN:=LH hn
 clear hn hd hc
 have hn':(n:Int)≤9223372036854775807:=by omega
 go_enter Tryz.func156,Tryz.ntmps156
 go_wp2_with fail
 go_loopg [5,8] n (fun g _ i wr=>∃ k:Nat,k≤n∧g=n - k∧i=.int .i64 (k:Int)∧Hid (∀ j (h:j < l.length),j < k→(l[j].2 == id)=false)∧Hid (Below w.heap.size w wr))
 case atStart=>exact ⟨0,Nat.zero_le _,rfl,rfl,(fun j _ hj=>absurd hj (Nat.not_lt_zero _)),Below.refl _ _⟩
 case round =>
  obtain ⟨k,hk,rfl,rfl,hall,hb⟩:=hrel
  by_cases hlt:k < n
  ·have hk0:(0:Int)≤(k:Int):=by omega
   have hk1:(k:Int) < (n:Int):=by omega
   have hkl:k < l.length:=by rw [← HN.out];exact hlt
   obtain ⟨bb,off,ha,h1⟩:=HD.out (by omega)
   subst ha
   have e0:=h1 k hkl 0 (by omega)
   have e1:=h1 k hkl 1 (by omega)
   clear h1
   obtain ⟨x,hx⟩:∃ x,x=l[k]:=⟨_,rfl⟩
   rw [← hx] at e0 e1
   have HX:=LH hx
   have c0:wr.cell? ⟨bb,off+k * 2,none⟩=some (.int .i64 x.1):=keep hb.out e0
   have c1:wr.cell? ⟨bb,off+k * 2+1,none⟩=some (.int .i64 x.2):=keep hb.out e1
   clear hx e0 e1
   obtain ⟨q,hq⟩:∃ q,q=(x.2 == id):=⟨_,rfl⟩
   have L:=done1_any x id tb wr (keep hb.out HT.out)
   rw [← hq] at L
   have HL:=LH L
   have HQ:=LH hq
   clear L hq
   cases q
   all_goals
    go_wp2_with fail
    refine HL.out.mono ?_
    rintro e w1 ⟨rfl,hb1⟩
    have HB2:=LH (hb.out.trans (hb1.mono hb.out.size))
    clear hb hb1 c0 c1
    go_wp2_with fail
   ·go_roundg (n - (k+1))
    case measure=>omega
    case rel =>
     refine ⟨k+1,by omega,rfl,by go_num,fun j hj hjk=>?_,HB2⟩
     by_cases hjk:j < k
     ·exact hall.out j hj hjk
     ·obtain rfl:j=k:=by omega
      rw [← HX.out];exact HQ.out.symm
   ·go_ret
    exact ⟨⟨k,rfl,Or.inr ⟨hk0,List.mem_map.2 ⟨x,by rw [HX.out];exact List.getElem_mem hkl,HQ.out.symm⟩⟩⟩,HB2.out⟩
  ·obtain rfl:k=n:=by omega
   have hlt':¬ (k:Int) < (k:Int):=by omega
   go_wp2_with fail
   go_ret
   refine ⟨⟨-1,rfl,Or.inl ⟨rfl,fun x hx=>?_⟩⟩,hb.out⟩
   obtain ⟨y,hy,rfl⟩:=List.mem_map.1 hx
   obtain ⟨j,hj,rfl⟩:=List.getElem_of_mem hy
   exact hall.out j hj (by rw [HN.out];exact hj)
theorem consSt_any {v:Value} {l:List (Int × Int)} {w:World} (h:SliceR w v 2 stCells l) (tb:Nat) (id:Int) (hc:w.cell? ⟨tb,0,none⟩=some (.int .i64 id)) :
  Calls Tryz.prog 143 #[v,.func (.func 144) #[] #[.pointer (some ⟨tb,0,none⟩)]] w fun e w'=>e=.returned (.bool (doneB l id))∧Below w.heap.size w w':=by
 have HC:=LH (idxSt_any h tb id hc)
 obtain ⟨a,cap,rfl,-⟩:=h
 obtain ⟨n,hn⟩:∃ n,n=l.length:=⟨_,rfl⟩
 rw [← hn] at HC ⊢
 clear hn hc
 go_enter Tryz.func143,Tryz.ntmps143
 go_wp2_with fail
 refine HC.out.mono ?_
 rintro e w1 ⟨⟨i,rfl,hix⟩,hb1⟩
 have HX:=LH hix
 clear hix
 go_wp2_with fail
 go_ret
 refine ⟨?_,hb1⟩
 have:=HX.out.any
 rw [List.any_map] at this
 rw [doneB,show (fun x:Int × Int=>x.2 == id)=(_root_.id ∘ fun x=>x.2 == id) from rfl,← this]
 rfl
theorem done_any {g:Nat} {v:Value} {l:List (Int × Int)} {w:World} (id:Int) (hg:w.cell? ⟨g,2,none⟩=some v) (h:SliceR w v 2 stCells l) :
  Calls Tryz.prog 106 #[.pointer (some ⟨g,0,none⟩),.int .i64 id] w fun e w'=>e=.returned (.bool (doneB l id))∧Below w.heap.size w w':=by
 have hb0:∀ o,Below w.heap.size w (w.alloc o):=fun o=>(Below.refl _ _).alloc (Nat.le_refl _) o
 have HC:=LH (fun (W:World) (o:Obj) (hb:Below (w.alloc o).heap.size (w.alloc o) W) (hc:W.cell? ⟨w.heap.size,0,none⟩=some (.int .i64 id))=>consSt_any (h.below stCells_len ((hb0 o).trans (hb.mono (by simp)))) w.heap.size id hc)
 obtain ⟨a,cap,rfl,-⟩:=h
 obtain ⟨n,hn⟩:∃ n,n=l.length:=⟨_,rfl⟩
 obtain ⟨q,hq⟩:∃ q,q=doneB l id:=⟨_,rfl⟩
 rw [← hn,← hq] at HC
 rw [← hn] at hg
 rw [← hq]
 have hlt:=World.block_lt_of_cell? w _ hg
 have hlt':g < w.heap.size:=hlt
 clear hn hq
 go_enter Tryz.func106,Tryz.ntmps106
 go_wp2_with fail
 refine (HC.out _ _ (Below.refl _ _) ((Blk.new (t:=3) (cs:=[.int .i64 id]) rfl).cell 0)).mono ?_
 rintro e w1 ⟨rfl,hb1⟩
 go_wp2_with fail
 go_ret
 exact ⟨rfl,(hb0 _).trans (hb1.mono (by simp))⟩
set_option maxHeartbeats 4000000 in
set_option maxRecDepth 100000 in
theorem index_any {v:Value} {l:List Int} {w:World} (y:Int) (h:IntsR w v l) :
  Calls Tryz.prog 145 #[v,.int .i64 y] w fun e w'=>(∃ i:Int,e=.returned (.int .i64 i)∧IdxOf (l.map (fun x=>x == y)) i)∧w'=w:=by
 obtain ⟨a,cap,rfl,hcap,hmax,-,hd⟩:=h
 unfold maxLen at hmax
 have HD:=LH hd
 obtain ⟨n,hn⟩:∃ n,n=l.length:=⟨_,rfl⟩
 rw [← hn] at hcap ⊢
 have HN:=LH hn
 clear hn hd
 have hn':(n:Int)≤9223372036854775807:=by omega
 go_enter Tryz.func145,Tryz.ntmps145
 go_wp2_with fail
 go_loopg [5,8] n (fun g _ i wr=>∃ k:Nat,k≤n∧g=n - k∧i=.int .i64 (k:Int)∧Hid (∀ j (h:j < l.length),j < k→(l[j] == y)=false)∧Hid (wr=w))
 case atStart=>exact ⟨0,Nat.zero_le _,rfl,rfl,(fun j _ hj=>absurd hj (Nat.not_lt_zero _)),rfl⟩
 case round =>
  obtain ⟨k,hk,rfl,rfl,hall,hb⟩:=hrel
  by_cases hlt:k < n
  ·have hk0:(0:Int)≤(k:Int):=by omega
   have hk1:(k:Int) < (n:Int):=by omega
   have hkl:k < l.length:=by rw [← HN.out];exact hlt
   obtain ⟨bb,off,ha,h1⟩:=HD.out (by omega)
   subst ha
   have e0:=h1 k hkl 0 (by omega)
   clear h1
   obtain ⟨x,hx⟩:∃ x,x=l[k]:=⟨_,rfl⟩
   rw [← hx] at e0
   have HX:=LH hx
   have c0:wr.cell? ⟨bb,off+k,none⟩=some (.int .i64 x):=by rw [hb.out];simpa [intCell] using e0
   clear hx e0
   by_cases hxy:x=y
   ·have HQ:=LH hxy
    have hq:(y == x)=true:=by simp [hxy]
    have hyx:y=x:=hxy.symm
    clear hxy
    subst hyx
    go_wp2_with fail
    go_ret
    exact ⟨⟨k,rfl,Or.inr ⟨hk0,List.mem_map.2 ⟨y,by rw [HX.out];exact List.getElem_mem hkl,by simp⟩⟩⟩,hb.out⟩
   ·have HQ:=LH hxy
    have hyx:¬ y=x:=fun e=>hxy e.symm
    clear hxy
    go_wp2_with fail
    go_roundg (n - (k+1))
    case measure=>omega
    case rel =>
     refine ⟨k+1,by omega,rfl,by go_num,fun j hj hjk=>?_,hb⟩
     by_cases hjk:j < k
     ·exact hall.out j hj hjk
     ·obtain rfl:j=k:=by omega
      rw [← HX.out];simpa using HQ.out
  ·obtain rfl:k=n:=by omega
   have hlt':¬ (k:Int) < (k:Int):=by omega
   go_wp2_with fail
   go_ret
   refine ⟨⟨-1,rfl,Or.inl ⟨rfl,fun x hx=>?_⟩⟩,hb.out⟩
   obtain ⟨y,hy,rfl⟩:=List.mem_map.1 hx
   obtain ⟨j,hj,rfl⟩:=List.getElem_of_mem hy
   exact hall.out j hj (by rw [HN.out];exact hj)
def conI (l:List Int) (y:Int):Bool:=l.any (fun x=>x == y)
theorem conI_any {v:Value} {l:List Int} {w:World} (y:Int) (h:IntsR w v l) :
  Calls Tryz.prog 107 #[v,.int .i64 y] w fun e w'=>e=.returned (.bool (conI l y))∧w'=w:=by
 have HC:=LH (index_any y h)
 obtain ⟨a,cap,rfl,-⟩:=h
 obtain ⟨n,hn⟩:∃ n,n=l.length:=⟨_,rfl⟩
 rw [← hn] at HC ⊢
 clear hn
 go_enter Tryz.func107,Tryz.ntmps107
 go_wp2_with fail
 refine HC.out.mono ?_
 rintro e w1 ⟨⟨i,rfl,hix⟩,rfl⟩
 have HX:=LH hix
 clear hix
 go_wp2_with fail
 go_ret
 refine ⟨?_,rfl⟩
 have:=HX.out.any
 rw [List.any_map] at this
 rw [conI,show (fun x:Int=>x == y)=(_root_.id ∘ fun x=>x == y) from rfl,← this]
 rfl
def OwnW (w:World) (B:Nat) (v:Value) (l:List Wt):Prop:=∃ pl:List (Value × Wt),pl.map (·.2)=l∧w.ownsRow B 196 7 v l.length (pl.flatMap wtCs)∧∀ p∈pl,OwnI w B p.1 p.2.msg.groups
def OwnD (w:World) (B:Nat) (v:Value) (l:List (Int × Int)):Prop:=w.ownsRow B 199 2 v l.length (l.flatMap stCells)
def WaitsR (w:World) (v:Value) (l:List Wt):Prop:=∃ pl:List (Value × Wt),pl.map (·.2)=l∧WtsR w v pl∧∀ p∈pl,IntsR w p.1 p.2.msg.groups
def SkR (w:World) (v:Value) (s:Sk):Prop:=∃ a cap b bc,v=.agg #[.int .i64 s.clock,.slice a s.waits.length cap,.slice b s.done.length bc]∧WaitsR w (.slice a s.waits.length cap) s.waits∧SliceR w (.slice b s.done.length bc) 2 stCells s.done
def OwnSk (w:World) (B:Nat) (v:Value) (s:Sk):Prop:=∃ a cap b bc,v=.agg #[.int .i64 s.clock,.slice a s.waits.length cap,.slice b s.done.length bc]∧OwnW w B (.slice a s.waits.length cap) s.waits∧OwnD w B (.slice b s.done.length bc) s.done
theorem isSl_own {w:World} {B:Nat} {v:Value} {l:List Int} (h:OwnI w B v l):isSl v:=by
 obtain ⟨a,cap,rfl⟩:=ownI_shape h
 exact ⟨a,_,cap,rfl⟩
theorem wtCs_one {pl:List (Value × Wt)} (h:∀ p∈pl,isSl p.1):∀ v∈pl.flatMap wtCs,v.oneCell'=true:=by
 intro v hv
 obtain ⟨x,hx,hv⟩:=List.mem_flatMap.1 hv
 obtain ⟨a,n,cap,e⟩:=h x hx
 simp only [wtCs,List.mem_cons,List.not_mem_nil,or_false] at hv
 rcases hv with rfl|rfl|rfl|rfl|rfl|rfl|rfl
 all_goals first|rfl|(rw [e];rfl)
theorem st_one (l:List (Int × Int)):∀ v∈l.flatMap stCells,v.oneCell'=true:=by
 intro v hv
 obtain ⟨x,hx,hv⟩:=List.mem_flatMap.1 hv
 simp only [stCells,List.mem_cons,List.not_mem_nil,or_false] at hv
 rcases hv with rfl|rfl <;> rfl
theorem OwnI.keep' {w w':World} {B:Nat} {v:Value} {l:List Int} (h:OwnI w B v l) (hb:Below w.heap.size w w'):OwnI w' B v l:=ownsRow_keep h hb
theorem OwnW.keep {w w':World} {B:Nat} {v:Value} {l:List Wt} (h:OwnW w B v l) (hb:Below w.heap.size w w'):OwnW w' B v l:=by
 obtain ⟨pl,h1,h2,h3⟩:=h
 exact ⟨pl,h1,ownsRow_keep h2 hb,fun p hp=>ownsRow_keep (h3 p hp) hb⟩
theorem OwnD.keep {w w':World} {B:Nat} {v:Value} {l:List (Int × Int)} (h:OwnD w B v l) (hb:Below w.heap.size w w'):OwnD w' B v l:=ownsRow_keep h hb
theorem OwnW.nil (w:World) (B:Nat):OwnW w B (.slice none 0 0) []:=⟨[],rfl,World.ownsRow_nil _ _ _ _,fun _ h=>by cases h⟩
theorem OwnD.nil (w:World) (B:Nat):OwnD w B (.slice none 0 0) []:=World.ownsRow_nil _ _ _ _
theorem row_shape {w:World} {B s n:Nat} {e:TypeId} {v:Value} {xs:List Value} (h:w.ownsRow B e s v n xs):∃ a cap,v=.slice a n cap:=by
 rcases h.2 with ⟨rfl,h0⟩|⟨g,cp,cur,rfl,_⟩
 ·exact ⟨none,0,by rw [h0]⟩
 ·exact ⟨_,cp,rfl⟩
theorem row_form {w:World} {B s n:Nat} {e:TypeId} {v:Value} {xs:List Value} (h:w.ownsRow B e s v n xs) (hn:0 < n):∃ g cap,v=.slice (some ⟨g,0,none⟩) n cap:=by
 rcases h.2 with ⟨rfl,h0⟩|⟨g,cp,cur,rfl,_⟩
 ·omega
 ·exact ⟨g,cp,rfl⟩
theorem OwnW.reads {w:World} {B:Nat} {v:Value} {l:List Wt} (h:OwnW w B v l):WaitsR w v l:=by
 obtain ⟨pl,rfl,h2,h3⟩:=h
 rw [List.length_map] at h2
 exact ⟨pl,rfl,⟨sliceR_of_owns wtCs_len h2,fun p hp=>isSl_own (h3 p hp)⟩,fun p hp=>(h3 p hp).reads⟩
theorem OwnD.reads {w:World} {B:Nat} {v:Value} {l:List (Int × Int)} (h:OwnD w B v l):SliceR w v 2 stCells l:=sliceR_of_owns stCells_len h
theorem OwnSk.reads {w:World} {B:Nat} {v:Value} {s:Sk} (h:OwnSk w B v s):SkR w v s:=by
 obtain ⟨a,cap,b,bc,h1,h2,h3⟩:=h
 exact ⟨a,cap,b,bc,h1,h2.reads,h3.reads⟩
theorem OwnSk.keep {w w':World} {B:Nat} {v:Value} {s:Sk} (h:OwnSk w B v s) (hb:Below w.heap.size w w'):OwnSk w' B v s:=by
 obtain ⟨a,cap,b,bc,h1,h2,h3⟩:=h
 exact ⟨a,cap,b,bc,h1,h2.keep hb,h3.keep hb⟩
theorem WtsR.below {w w':World} {v:Value} {pl:List (Value × Wt)} (h:WtsR w v pl) (hb:Below w.heap.size w w'):WtsR w' v pl:=⟨h.1.below wtCs_len hb,h.2⟩
theorem WaitsR.below {w w':World} {v:Value} {l:List Wt} (h:WaitsR w v l) (hb:Below w.heap.size w w'):WaitsR w' v l:=by
 obtain ⟨pl,h1,h2,h3⟩:=h
 exact ⟨pl,h1,h2.below hb,fun p hp=>(h3 p hp).below hb⟩
theorem SkR.below {w w':World} {v:Value} {s:Sk} (h:SkR w v s) (hb:Below w.heap.size w w'):SkR w' v s:=by
 obtain ⟨a,cap,b,bc,h1,h2,h3⟩:=h
 exact ⟨a,cap,b,bc,h1,h2.below hb,h3.below stCells_len hb⟩
theorem OwnD.row {w w':World} {B B2 s n:Nat} {v u:Value} {l:List (Int × Int)} {e:TypeId} {xs:List Value} (h:OwnD w B v l) (h2:w.ownsRow B2 e s u n xs) (hg:w.grownBy w' u.ownBlock) (he:199≠e):OwnD w' B v l :=
 ownsRow_grown' h hg (fun _ hk=>rows_ne h h2 he hk)
theorem heap_set (w:World) (b o:Nat) (u:Value):∀ k,k≠b→(w.setCell ⟨b,o,none⟩ u).heap[k]?=w.heap[k]?:=fun k hk=>heap_setCell_other w ⟨b,o,none⟩ k u hk
theorem flat7_set (pl:List (Value × Wt)) (i j:Nat) (y:Value) (p:Value × Wt) (hi:i < pl.length) (hj:j < 7) (hp:wtCs p=(wtCs (pl[i])).set j y) :
  (pl.flatMap wtCs).set (i * 7+j) y=(pl.set i p).flatMap wtCs:=by
 induction pl generalizing i with
 |nil=>simp at hi
 |cons x l ih =>
  cases i with
  |zero =>
   simp only [List.getElem_cons_zero] at hp
   simp only [Nat.zero_mul,Nat.zero_add,List.flatMap_cons,List.set_cons_zero]
   rw [List.set_append_left (h:=by rw [wtCs_len];exact hj),hp]
  |succ i =>
   have:=ih i (by simpa using hi) (by simpa using hp)
   simp only [List.flatMap_cons,List.set_cons_succ,← this]
   rw [List.set_append_right (h:=by rw [wtCs_len];omega),wtCs_len]
   congr 2
   omega
def fewK (s:Sk):Prop:=s.waits.length≤1000000∧s.done.length≤1000000∧∀ x∈s.waits,x.msg.groups.length≤1000000
def SkEnd (s:Sk) (w:World) (e:Ending) (w':World):Prop:=∃ v',e=.returned v'∧OwnSk w' w.heap.size v' s∧Below w.heap.size w w'
theorem rowVals_one' (r:List Int):∀ v∈rowVals r,v.oneCell'=true:=by
 intro v hv
 simp only [rowVals,List.mem_map] at hv
 obtain ⟨y,_,rfl⟩:=hv
 rfl
theorem row_set2 {w:World} {B s n g o1 o2:Nat} {e t:TypeId} {v u1 u2:Value} {xs cs:List Value} (h:w.ownsRow B e s v n xs) (hb:Blk w g t cs) (he:e≠t):((w.setCell ⟨g,o1,none⟩ u1).setCell ⟨g,o2,none⟩ u2).ownsRow B e s v n xs :=
 row_far h (fun b hb'=>(heap_set _ _ _ _ b hb').trans (heap_set _ _ _ _ b hb')) (row_blk h hb he)
set_option maxHeartbeats 8000000 in
set_option maxRecDepth 100000 in
theorem skTwin_any {v:Value} {s:Sk} {w:World} (h:SkR w v s) (hf:fewK s):Calls Tryz.prog 50 #[v] w (SkEnd s w):=by
 obtain ⟨a,cap,b,bc,rfl,hw,hd⟩:=h
 obtain ⟨pl,hpl,hwt,hgi⟩:=hw
 obtain ⟨hf1,hf2,hf3⟩:=hf
 obtain ⟨n,hn⟩:∃ n,n=s.waits.length:=⟨_,rfl⟩
 have hpn:pl.length=n:=by rw [hn,← hpl,List.length_map]
 obtain ⟨dn,hdn⟩:∃ dn,dn=s.done.length:=⟨_,rfl⟩
 have WT:=LH hwt
 have DD:=LH hd
 have GI:=LH hgi
 have HPL:=LH hpl
 have HPN:=LH hpn
 have HF3:Hid (∀ p∈pl,p.2.msg.groups.length≤1000000):=fun p hp=>hf3 _ (by rw [← hpl];exact List.mem_map_of_mem hp)
 have HDN:=LH hdn
 rw [← hn] at WT hf1 ⊢
 rw [← hdn] at DD hf2 ⊢
 have HN:=LH hn
 have nn0:(n:Int)≤1000000:=by omega
 obtain ⟨ck,hck⟩:∃ ck,ck=s.clock:=⟨_,rfl⟩
 rw [← hck]
 have HCK:=LH hck
 have HF2:=LH hf2
 have HF1:=LH hf1
 have KW:Hid (∀ W,Below w.heap.size w W→Calls Tryz.prog 89 #[.slice a n cap] W fun e W'=>∃ a4 c4,e=.returned (.slice a4 n c4)∧W'.ownsRow W.heap.size 196 7 (.slice a4 n c4) n (pl.flatMap wtCs)∧Below W.heap.size W W'):=fun W hW=>by
  have:=cloW_any wtCs_len (WT.out.1.below wtCs_len hW) (wtCs_one WT.out.2) (by rw [HPN.out];exact HF1.out)
  unfold CloEndW at this
  rw [HPN.out] at this
  exact this
 have KD:Hid (∀ W,Below w.heap.size w W→Calls Tryz.prog 90 #[.slice b dn bc] W fun e W'=>∃ a4 c4,e=.returned (.slice a4 dn c4)∧W'.ownsRow W.heap.size 199 2 (.slice a4 dn c4) dn (s.done.flatMap stCells)∧Below W.heap.size W W'):=fun W hW=>by
  have:=cloS_any stCells_len (DD.out.below stCells_len hW) (st_one _) (by rw [← HDN.out];exact HF2.out)
  unfold CloEndS at this
  rw [← HDN.out] at this
  exact this
 clear hwt hd hgi hf3 hn hpn hdn hck hf1 hf2
 go_enter Tryz.func50,Tryz.ntmps50
 go_upto_region 1 with fail
 go_cut [] from 4 to 11 (fun wx=>∃ (a1:Option Addr) (c1:Nat) (b1:Option Addr) (bc1:Nat),Hid (Blk wx w.heap.size 29 [.int .i64 ck,.slice a1 n c1,.slice b1 dn bc1])∧Hid (Blk wx (w.heap.size+1) 29 [.int .i64 0,.slice none 0 0,.slice none 0 0])∧Hid (wx.ownsRow w.heap.size 196 7 (.slice a1 n c1) n (pl.flatMap wtCs))∧Hid (wx.ownsRow w.heap.size 199 2 (.slice b1 dn bc1) dn (s.done.flatMap stCells))∧Hid (Below w.heap.size w wx))
 case first =>
  go_region_with (first
   |(go_at_call 89;refine (KW.out _ (by repeat (first|with_reducible (first|exact HB5.out|exact Below.refl _ _|apply Below.drew|apply below_alloc)|((first|with_reducible refine Below.alloc ?_ ?_ _|with_reducible refine Below.setCell ?_ ?_ _);rotate_left;focus (first|(simp <;> omega)|omega))))).mono ?_;rintro e w4 ⟨a4,c4,rfl,o4,hb⟩;have O4:=LH o4;have HX4:=LH hb;have HB4:Hid (Below w.heap.size w w4):=below_step (by repeat (first|with_reducible (first|exact HB5.out|exact Below.refl _ _|apply Below.drew|apply below_alloc)|((first|with_reducible refine Below.alloc ?_ ?_ _|with_reducible refine Below.setCell ?_ ?_ _);rotate_left;focus (first|(simp <;> omega)|omega)))) hb;have HQ4:Hid (Blk w4 w.heap.size 29 [.int .i64 ck,.slice a n cap,.slice b dn bc]):=LH (Blk.step (by repeat (first|with_reducible exact HQ5.out|((with_reducible apply Blk.new);focus (first|rfl|(simp <;> omega)))|with_reducible (first|apply Blk.drew|apply Blk.alloc|apply Blk.set_)|((with_reducible apply Blk.far);rotate_left;focus (first|(simp <;> omega)|omega)))) hb);have HR4:Hid (Blk w4 (w.heap.size+1) 29 [.int .i64 0,.slice none 0 0,.slice none 0 0]):=LH (Blk.step (by repeat (first|with_reducible exact HR5.out|((with_reducible apply Blk.new);focus (first|rfl|(simp <;> omega)))|with_reducible (first|apply Blk.drew|apply Blk.alloc|apply Blk.set_)|((with_reducible apply Blk.far);rotate_left;focus (first|(simp <;> omega)|omega)))) hb);obtain ⟨m0,m1,m2,mz⟩:=cells3 HQ4.out;clear hb o4)
   |(go_at_call 90;refine (KD.out _ (by repeat (first|with_reducible (first|exact HB4.out|exact Below.refl _ _|apply Below.drew|apply below_alloc)|((first|with_reducible refine Below.alloc ?_ ?_ _|with_reducible refine Below.setCell ?_ ?_ _);rotate_left;focus (first|(simp <;> omega)|omega))))).mono ?_;rintro e w5 ⟨a5,c5,rfl,o5,hb⟩;have O5:=LH o5;have HX5:=LH hb;have HB5:Hid (Below w.heap.size w w5):=below_step (by repeat (first|with_reducible (first|exact HB4.out|exact Below.refl _ _|apply Below.drew|apply below_alloc)|((first|with_reducible refine Below.alloc ?_ ?_ _|with_reducible refine Below.setCell ?_ ?_ _);rotate_left;focus (first|(simp <;> omega)|omega)))) hb;have HQ5:Hid (Blk w5 w.heap.size 29 [.int .i64 ck,.slice a n cap,.slice b dn bc]):=LH (Blk.step (by repeat (first|with_reducible exact HQ4.out|((with_reducible apply Blk.new);focus (first|rfl|(simp <;> omega)))|with_reducible (first|apply Blk.drew|apply Blk.alloc|apply Blk.set_)|((with_reducible apply Blk.far);rotate_left;focus (first|(simp <;> omega)|omega)))) hb);have HR5:Hid (Blk w5 (w.heap.size+1) 29 [.int .i64 0,.slice none 0 0,.slice none 0 0]):=LH (Blk.step (by repeat (first|with_reducible exact HR4.out|((with_reducible apply Blk.new);focus (first|rfl|(simp <;> omega)))|with_reducible (first|apply Blk.drew|apply Blk.alloc|apply Blk.set_)|((with_reducible apply Blk.far);rotate_left;focus (first|(simp <;> omega)|omega)))) hb);obtain ⟨m0,m1,m2,mz⟩:=cells3 HQ5.out;clear hb o5))
  all_goals
   go_wp2_with fail
   go_meet
   case rel =>
    have hrl:=HR5.out.lt
    refine ⟨a4,c4,a5,c5,LH ((HQ5.out.set_ 1 (.slice a4 n c4)).set_ 2 (.slice a5 dn c5)),LH ((HR5.out.far (by omega) _).far (by omega) _),LH ?_,LH ?_,LH ?_⟩
    ·exact row_set2 (ownsRow_le (ownsRow_keep O4.out HX5.out) (by simp;omega)) HQ5.out (by decide)
    ·exact row_set2 (ownsRow_le O5.out HB4.out.size) HQ5.out (by decide)
    ·exact (HB5.out.setCell (Nat.le_refl _) _).setCell (Nat.le_refl _) _
 case rest =>
  obtain ⟨a1,c1,b1,bc1,HQ,HR,OW,OD,HB⟩:=hcut
  clear KW KD
  obtain ⟨m0,m1,m2,mz⟩:=cells3 HQ.out
  obtain ⟨B,hB⟩:∃ B,B=w.heap.size:=⟨_,rfl⟩
  have HBE:=LH hB
  have sl:=HB.out.size
  have ql:=HQ.out.lt
  have rl:=HR.out.lt
  go_wp2_with fail
  go_loopg [3,15] n (fun g _ i wr=>∃ (k:Nat) (ql:List (Value × Wt)),k≤n∧g=n - k∧i=.int .i64 (k:Int)∧Hid (ql.map (·.2)=pl.map (·.2))∧Hid (ql.drop k=pl.drop k)∧Hid (wr.ownsRow w.heap.size 196 7 (.slice a1 n c1) n (ql.flatMap wtCs))∧Hid (∀ p∈ql.take k,OwnI wr w.heap.size p.1 p.2.msg.groups)∧Hid (wr.ownsRow w.heap.size 199 2 (.slice b1 dn bc1) dn (s.done.flatMap stCells))∧Hid (Below w.heap.size w wr) ∧
   Hid (Blk wr w.heap.size 29 [.int .i64 ck,.slice a1 n c1,.slice b1 dn bc1])∧Hid (Blk wr (w.heap.size+1) 29 [.int .i64 0,.slice none 0 0,.slice none 0 0]))
  case atStart=>exact ⟨0,pl,Nat.zero_le _,rfl,rfl,LH rfl,LH rfl,OW,LH (fun p hp=>by simp at hp),OD,HB,HQ,HR⟩
  case round =>
   clear OW OD HB HQ HR m0 m1 m2 mz ql rl sl
   obtain ⟨k,ql,hk,rfl,rfl,HM,HD,OW,OI,OD,HB,HQ,HR⟩:=hrel
   obtain ⟨m0,m1,m2,mz⟩:=cells3 HQ.out
   obtain ⟨r0,r1,r2,rz⟩:=cells3 HR.out
   have sl:=HB.out.size
   have kl:=HQ.out.lt
   have rl:=HR.out.lt
   by_cases hlt:k < n
   ·have hk0:(0:Int)≤(k:Int):=by omega
    have hk1:(k:Int) < (n:Int):=by omega
    obtain ⟨g1,cp,hv⟩:=row_form OW.out (by omega)
    obtain ⟨rfl,rfl⟩:a1=some ⟨g1,0,none⟩∧c1=cp:=by simpa using hv
    clear hv
    have hql:ql.length=n:=by have:=congrArg List.length HM.out;simpa [HPN.out] using this
    have hkp:k < pl.length:=by rw [HPN.out];exact hlt
    have hkq:k < ql.length:=by rw [hql];exact hlt
    have hqk:ql[k]=pl[k]:=by
     have:=congrArg (fun l=>l[0]?) HD.out
     simpa [List.getElem?_drop,hkp,hkq] using this
    obtain ⟨p,hp⟩:∃ p,p=pl[k]:=⟨_,rfl⟩
    have hpm:p∈pl:=by rw [hp];exact List.getElem_mem hkp
    have HPM:=LH hpm
    have HQK:=LH (show ql[k]=p by rw [hqk,hp])
    have hcell:∀ W:World,W.ownsRow w.heap.size 196 7 (.slice (some ⟨g1,0,none⟩) n c1) n (ql.flatMap wtCs)→W.cell? ⟨g1,k * 7+1,none⟩=some p.1:=fun W h=>by
     rw [h.cellAt _ (by omega),flat_get wtCs_len ql k hkq 1 (by omega),HQK.out]
     rfl
    have HC:=LH hcell
    obtain ⟨u,p2⟩:=p
    obtain ⟨ua,ucap,hu,_⟩:=(GI.out _ hpm).shape
    simp only at hu hcell
    subst hu
    obtain ⟨gn,hgn⟩:∃ gn,gn=p2.msg.groups.length:=⟨_,rfl⟩
    have GR:=LH (GI.out _ hpm)
    simp only at GR
    rw [← hgn] at HC hcell GR HQK
    have HGN:=LH hgn
    have KI:Hid (∀ W,Below w.heap.size w W→Calls Tryz.prog 52 #[.slice ua gn ucap] W fun e W'=>∃ a4 c4,e=.returned (.slice a4 gn c4)∧OwnI W' W.heap.size (.slice a4 gn c4) p2.msg.groups∧Below W.heap.size W W'):=fun W hW=>by
     have:=cloI_any (cs:=intCell) (fun _=>rfl) (GR.out.below hW) (by rw [← rowVals_flat];exact rowVals_one' _) (by have:=HF3.out _ HPM.out;exact this)
     unfold CloEndI at this
     rw [← HGN.out,← rowVals_flat] at this
     unfold OwnI
     rw [← HGN.out]
     exact this
    have n1:=hcell _ OW.out
    have nf:=OW.out.frozenAt (k * 7+1)
    have gl:=(OW.out.lt _ rfl).1
    have gl2:=(OW.out.lt _ rfl).2
    have gne:(some g1:Option Nat)≠some w.heap.size:=row_blk OW.out HQ.out (by decide)
    have gne2:(some g1:Option Nat)≠some (w.heap.size+1):=row_blk OW.out HR.out (by decide)
    have hge:w.heap.size≠g1:=fun e=>gne (by rw [e])
    have hge2:w.heap.size+1≠g1:=fun e=>gne2 (by rw [e])
    clear hcell hgn hpm hqk hp gne gne2
    go_wp2_with fail
    go_region_with (go_at_call 52;refine (KI.out _ (by repeat (first|with_reducible (first|exact HB.out|exact Below.refl _ _|apply Below.drew|apply below_alloc)|((first|with_reducible refine Below.alloc ?_ ?_ _|with_reducible refine Below.setCell ?_ ?_ _);rotate_left;focus (first|(simp <;> omega)|omega))))).mono ?_;rintro e w4 ⟨a4,c4,rfl,o4,hb⟩;have O4:=LH o4;have HX4:Hid (Below wr.heap.size wr w4):=below_step (by repeat (first|with_reducible (first|exact Below.refl _ _|apply Below.drew|apply below_alloc)|((first|with_reducible refine Below.alloc ?_ ?_ _|with_reducible refine Below.setCell ?_ ?_ _);rotate_left;focus (first|(simp <;> omega)|omega)))) hb;have HQ4:=LH (HQ.out.step HX4.out);have OW4:=LH (ownsRow_keep OW.out HX4.out);obtain ⟨v0,v1,v2,vz⟩:=cells3 HQ4.out;have n4:=HC.out _ OW4.out;have nf4:=OW4.out.frozenAt (k * 7+1);have sl4:=HX4.out.size;clear hb o4)
    all_goals
     go_wp2_with fail
     go_roundg (n - (k+1))
     case measure=>omega
     case rel =>
      have st:=OW4.out.stored (k * 7+1) (.slice a4 gn c4)
      refine ⟨k+1,ql.set k (.slice a4 gn c4,p2),by omega,rfl,by go_num,LH ?_,LH ?_,LH ?_,LH ?_,LH ?_,LH ?_,LH ?_,LH ?_⟩
      ·rw [← HM.out]
       apply List.ext_getElem?
       intro j
       simp only [List.getElem?_map,List.getElem?_set]
       by_cases hj:k=j
       ·subst hj
        simp [hkq,HQK.out]
       ·simp [hj]
      ·rw [List.drop_set_of_lt (by omega)]
       have:=congrArg (List.drop 1) HD.out
       simpa [List.drop_drop] using this
      ·rw [← flat7_set ql k 1 (.slice a4 gn c4) (.slice a4 gn c4,p2) hkq (by omega) (by rw [HQK.out];rfl)]
       exact st.1
      ·intro q hq
       have hcs:q∈ql.take k∨q=(.slice a4 gn c4,p2):=by
        rw [List.take_succ_eq_append_getElem (by simpa using hkq)] at hq
        rcases List.mem_append.1 hq with hq|hq
        ·left
         rw [List.take_set_of_le (Nat.le_refl _)] at hq
         exact hq
        ·right
         simpa using hq
       rcases hcs with hq|rfl
       ·have h0:=ownsRow_keep (OI.out q hq) HX4.out
        exact ownsRow_grown' h0 st.2 (fun j hj=>rows_ne h0 OW4.out (by decide) hj)
       ·have h0:OwnI w4 w.heap.size (.slice a4 gn c4) p2.msg.groups:=O4.out.le (by simp;omega)
        exact ownsRow_grown' h0 st.2 (fun j hj=>rows_ne h0 OW4.out (by decide) hj)
      ·have h0:=ownsRow_keep OD.out HX4.out
       exact ownsRow_grown' h0 st.2 (fun j hj=>rows_ne h0 OW4.out (by decide) hj)
      ·exact (Below.step HB.out HX4.out sl).setCell gl _
      ·exact HQ4.out.far hge _
      ·exact (HR.out.step HX4.out).far hge2 _
   ·obtain rfl:k=n:=by omega
    have hlt':¬ (k:Int) < (k:Int):=by omega
    go_wp2_with fail
    obtain ⟨t0,t1,t2,-⟩:=cells3 (((HR.out.set_ 0 (.int .i64 ck)).set_ 1 (.slice a1 k c1)).set_ 2 (.slice b1 dn bc1))
    refine bodyPost_ret (v:=.agg #[.int .i64 ck,.slice a1 k c1,.slice b1 dn bc1]) (by simp [results,Tryz.results50,go_sem,t0,t1,t2]) rfl ⟨_,rfl,?_,?_⟩
    ·have hfar:∀ b,b≠w.heap.size+1→(((wr.setCell ⟨w.heap.size+1,0,none⟩ (.int .i64 ck)).setCell ⟨w.heap.size+1,1,none⟩ (.slice a1 k c1)).setCell ⟨w.heap.size+1,2,none⟩ (.slice b1 dn bc1)).heap[b]?=wr.heap[b]?:=fun b hb=>(heap_set _ _ _ _ b hb).trans ((heap_set _ _ _ _ b hb).trans (heap_set _ _ _ _ b hb))
     have hql:ql.length=k:=by have:=congrArg List.length HM.out;simpa [HPN.out] using this
     refine ⟨a1,c1,b1,bc1,by rw [← HCK.out,← HN.out,← HDN.out],⟨ql,by rw [HM.out,HPL.out],?_,fun p hp=>?_⟩,?_⟩
     ·rw [← HN.out]
      exact row_far OW.out hfar (row_blk OW.out HR.out (by decide))
     ·have h0:=OI.out p (by rw [List.take_of_length_le (by omega)];exact hp)
      exact row_far h0 hfar (row_blk h0 HR.out (by decide))
     ·unfold OwnD
      rw [← HDN.out]
      exact row_far OD.out hfar (row_blk OD.out HR.out (by decide))
    ·exact ((HB.out.setCell (by simp) _).setCell (by simp) _).setCell (by simp) _
def insW {α:Type} (l:List α) (k:Nat) (x:α):List α:=l.take k++x :: l.drop k
theorem insW_len {α:Type} {l:List α} {k:Nat} {x:α} (h:k≤l.length):(insW l k x).length=l.length+1:=by
 simp [insW];omega
theorem insW_map {α β:Type} (f:α→β) (l:List α) (k:Nat) (x:α):(insW l k x).map f=insW (l.map f) k (f x):=by
 simp [insW,List.map_take,List.map_drop]
theorem insW_mem {α:Type} {l:List α} {k:Nat} {x y:α} (h:y∈insW l k x):y=x∨y∈l:=by
 rcases List.mem_append.1 h with h|h
 ·exact Or.inr (List.mem_of_mem_take h)
 ·rcases List.mem_cons.1 h with h|h
  ·exact Or.inl h
  ·exact Or.inr (List.mem_of_mem_drop h)
theorem flat_take {α:Type} {f:α→List Value} {s:Nat} (hf:∀ x,(f x).length=s):∀ (l:List α) (k:Nat),(l.flatMap f).take (k * s)=(l.take k).flatMap f
 |[],k=>by simp
 |x :: l,0=>by simp
 |x :: l,k+1=>by
  have e:(k+1) * s=(f x).length+k * s:=by rw [hf,Nat.add_mul];omega
  rw [List.flatMap_cons,e,List.take_length_add_append,flat_take hf l k,List.take_succ_cons,List.flatMap_cons]
theorem flat_drop {α:Type} {f:α→List Value} {s:Nat} (hf:∀ x,(f x).length=s):∀ (l:List α) (k:Nat),(l.flatMap f).drop (k * s)=(l.drop k).flatMap f
 |[],k=>by simp
 |x :: l,0=>by simp
 |x :: l,k+1=>by
  have e:(k+1) * s=(f x).length+k * s:=by rw [hf,Nat.add_mul];omega
  rw [List.flatMap_cons,e,List.drop_length_add_append,flat_drop hf l k,List.drop_succ_cons]
theorem putIn_flat {α:Type} {f:α→List Value} {s:Nat} (hf:∀ x,(f x).length=s) (l:List α) (k:Nat) (x:α):putIn (l.flatMap f) (k * s) (f x)=(insW l k x).flatMap f:=by
 rw [putIn,flat_take hf,flat_drop hf,insW,List.flatMap_append,List.flatMap_cons,List.append_assoc]
def CkR (W:World) (B g:Nat) (s:Sk) (pl:List (Value × Wt)) (a1:Option Addr) (c1:Nat) (b1:Option Addr) (d1:Nat):Prop :=
 pl.map (·.2)=s.waits∧Blk W g 142 [.int .i64 s.clock,.slice a1 s.waits.length c1,.slice b1 s.done.length d1]∧W.ownsRow B 196 7 (.slice a1 s.waits.length c1) s.waits.length (pl.flatMap wtCs)∧(∀ p∈pl,OwnI W B p.1 p.2.msg.groups)∧OwnD W B (.slice b1 s.done.length d1) s.done
def Ck (W:World) (B g:Nat) (s:Sk):Prop:=∃ pl a1 c1 b1 d1,CkR W B g s pl a1 c1 b1 d1
theorem CkR.keep {W W':World} {B g:Nat} {s:Sk} {pl:List (Value × Wt)} {a1 b1:Option Addr} {c1 d1:Nat} (h:CkR W B g s pl a1 c1 b1 d1) (hb:Below W.heap.size W W'):CkR W' B g s pl a1 c1 b1 d1 :=
 ⟨h.1,h.2.1.step hb,ownsRow_keep h.2.2.1 hb,fun p hp=>ownsRow_keep (h.2.2.2.1 p hp) hb,h.2.2.2.2.keep hb⟩
theorem CkR.wts {W:World} {B g:Nat} {s:Sk} {pl:List (Value × Wt)} {a1 b1:Option Addr} {c1 d1:Nat} (h:CkR W B g s pl a1 c1 b1 d1):WtsR W (.slice a1 s.waits.length c1) pl:=by
 have hl:pl.length=s.waits.length:=by rw [← h.1,List.length_map]
 refine ⟨?_,fun p hp=>isSl_own (h.2.2.2.1 p hp)⟩
 have:=h.2.2.1
 rw [← hl] at this ⊢
 exact sliceR_of_owns wtCs_len this
theorem CkR.far {W:World} {B g k o:Nat} {s:Sk} {pl:List (Value × Wt)} {a1 b1:Option Addr} {c1 d1:Nat} {t:TypeId} {cs:List Value} {u:Value} (h:CkR W B g s pl a1 c1 b1 d1) (hb:Blk W k t cs) (h1:142≠t) (h2:196≠t) (h3:3≠t) (h4:199≠t):CkR (W.setCell ⟨k,o,none⟩ u) B g s pl a1 c1 b1 d1:=by
 have hk:g≠k:=fun e=>by
  subst e
  have:=h.2.1.symm.trans hb
  simp at this
  exact h1 this.2
 exact ⟨h.1,h.2.1.far hk _,row_far h.2.2.1 (heap_set _ _ _ _) (row_blk h.2.2.1 hb h2),fun p hp=>row_far (h.2.2.2.1 p hp) (heap_set _ _ _ _) (row_blk (h.2.2.2.1 p hp) hb h3),row_far h.2.2.2.2 (heap_set _ _ _ _) (row_blk h.2.2.2.2 hb h4)⟩
theorem CkR.tick {W:World} {B g:Nat} {s:Sk} {pl:List (Value × Wt)} {a1 b1:Option Addr} {c1 d1:Nat} (c:Int) (h:CkR W B g s pl a1 c1 b1 d1):CkR (W.setCell ⟨g,0,none⟩ (.int .i64 c)) B g ⟨c,s.waits,s.done⟩ pl a1 c1 b1 d1 :=
 ⟨h.1,h.2.1.set_ 0 _,row_far h.2.2.1 (heap_set _ _ _ _) (row_blk h.2.2.1 h.2.1 (by decide)),fun p hp=>row_far (h.2.2.2.1 p hp) (heap_set _ _ _ _) (row_blk (h.2.2.2.1 p hp) h.2.1 (by decide)),row_far h.2.2.2.2 (heap_set _ _ _ _) (row_blk h.2.2.2.2 h.2.1 (by decide))⟩
theorem CkR.waits {W W1:World} {B g n:Nat} {s:Sk} {pl ql:List (Value × Wt)} {a1 b1 a2:Option Addr} {c1 c2 d1:Nat} {l:List Wt} (h:CkR W B g s pl a1 c1 b1 d1) (hg:W.grownBy W1 (Value.ownBlock (.slice a1 s.waits.length c1)))
  (h1:ql.map (·.2)=l) (hn:n=l.length) (h2:W1.ownsRow B 196 7 (.slice a2 n c2) n (ql.flatMap wtCs)) (h3:∀ p∈ql,OwnI W B p.1 p.2.msg.groups):CkR (W1.setCell ⟨g,1,none⟩ (.slice a2 n c2)) B g ⟨s.clock,l,s.done⟩ ql a2 c2 b1 d1:=by
 subst hn
 obtain ⟨_,e2,e3,e4,e5⟩:=h
 have q1:Blk W1 g 142 [.int .i64 s.clock,.slice a1 s.waits.length c1,.slice b1 s.done.length d1]:=e2.grown hg (row_blk e3 e2 (by decide))
 have i1:∀ p∈ql,OwnI W1 B p.1 p.2.msg.groups:=fun p hp=>ownsRow_grown' (h3 p hp) hg (fun _ hk=>rows_ne (h3 p hp) e3 (by decide) hk)
 have d1':OwnD W1 B (.slice b1 s.done.length d1) s.done:=e5.row e3 hg (by decide)
 exact ⟨h1,q1.set_ 1 _,row_far h2 (heap_set _ _ _ _) (row_blk h2 q1 (by decide)),fun p hp=>row_far (i1 p hp) (heap_set _ _ _ _) (row_blk (i1 p hp) q1 (by decide)),row_far d1' (heap_set _ _ _ _) (row_blk d1' q1 (by decide))⟩
set_option maxHeartbeats 8000000 in
set_option maxRecDepth 100000 in
theorem rd_k9a {w0 w:World} {g:Nat} {l:List Int} {o:Bool} {k:Int} (h:RdS w0 w g l o) (hk:k=min (nN l) 255) (hkk:255 < nN l) {c:PC} {l':List Int} {o':Bool} (hr:((⟨255,default,0,0,[],0,0,0⟩:PC),nL l,nO l o)=(c,l',o')) :
  Calls Tryz.prog 53 #[.pointer (some ⟨g,0,none⟩)] w (RdCEnd w0 g c l' o' w):=by
 obtain ⟨n0,hn0⟩:∃ n,n=nN l:=⟨_,rfl⟩
 obtain ⟨l0,hl0⟩:∃ x,x=nL l:=⟨_,rfl⟩
 obtain ⟨o0,ho0⟩:∃ x,x=nO l o:=⟨_,rfl⟩
 have hpos:=nN_pos l
 rw [← hn0] at hk hpos
 rw [← hl0,← ho0] at hr
 have gl:g < w.heap.size:=by obtain ⟨_,_,hb,_⟩:=h;exact hb.lt
 have HR:=LH hr
 have RD:=LH h
 have HN0:=LH hn0
 have HL0:=LH hl0
 have HO0:=LH ho0
 clear h hr hn0 hl0 ho0
 rw [← HN0.out] at hkk
 obtain rfl:k=255:=by omega
 clear hk
 go_enter Tryz.func53,Tryz.ntmps53
 go_wp2_with fail
 refine Calls.mono (numbers_any (RD.out.keep (below_alloc (Below.refl _ _))) HN0.out HL0.out HO0.out) ?_
 rintro e w1 ⟨rfl,hrd,hf⟩
 have HZ:Hid (Blk w1 w.heap.size 79 [.int .u8 0,.int .i64 0,.slice none 0 0,.int .i64 0,.string ⟨#[]⟩,.string ⟨#[]⟩,.int .i64 0,.int .i64 0,.slice none 0 0,.int .i64 0,.int .i64 0,.int .i64 0]):=LH ((Blk.new rfl).frG hf (by omega))
 have FR:=LH (FrG.down (below_alloc (Below.refl _ _)) hf (Nat.le_of_lt gl))
 have RD:=LH hrd
 have s1:w.heap.size < w1.heap.size:=HZ.out.lt
 clear hrd hf
 go_upto_region 3 with fail
 have HC:Hid (Blk (w1.alloc (.cells #[.int .u8 255,.int .i64 0,.slice none 0 0,.int .i64 0,.string ⟨#[]⟩,.string ⟨#[]⟩,.int .i64 0,.int .i64 0,.slice none 0 0,.int .i64 0,.int .i64 0,.int .i64 0] 79)) w1.heap.size 79 [.int .u8 255,.int .i64 0,.slice none 0 0,.int .i64 0,.string ⟨#[]⟩,.string ⟨#[]⟩,.int .i64 0,.int .i64 0,.slice none 0 0,.int .i64 0,.int .i64 0,.int .i64 0]):=LH (Blk.new rfl)
 replace HZ:Hid (Blk (w1.alloc (.cells #[.int .u8 255,.int .i64 0,.slice none 0 0,.int .i64 0,.string ⟨#[]⟩,.string ⟨#[]⟩,.int .i64 0,.int .i64 0,.slice none 0 0,.int .i64 0,.int .i64 0,.int .i64 0] 79)) w.heap.size 79 [.int .u8 0,.int .i64 0,.slice none 0 0,.int .i64 0,.string ⟨#[]⟩,.string ⟨#[]⟩,.int .i64 0,.int .i64 0,.slice none 0 0,.int .i64 0,.int .i64 0,.int .i64 0]):=LH (Blk.alloc HZ.out _)
 replace RD:Hid (RdS w0 (w1.alloc (.cells #[.int .u8 255,.int .i64 0,.slice none 0 0,.int .i64 0,.string ⟨#[]⟩,.string ⟨#[]⟩,.int .i64 0,.int .i64 0,.slice none 0 0,.int .i64 0,.int .i64 0,.int .i64 0] 79)) g l0 o0):=LH (RD.out.keep (below_alloc (Below.refl _ _)))
 replace FR:Hid (FrG g w (w1.alloc (.cells #[.int .u8 255,.int .i64 0,.slice none 0 0,.int .i64 0,.string ⟨#[]⟩,.string ⟨#[]⟩,.int .i64 0,.int .i64 0,.slice none 0 0,.int .i64 0,.int .i64 0,.int .i64 0] 79))):=LH (FR.out.up (below_alloc (Below.refl _ _)) (Nat.le_of_lt gl))
 generalize hW:w1.alloc (.cells #[.int .u8 255,.int .i64 0,.slice none 0 0,.int .i64 0,.string ⟨#[]⟩,.string ⟨#[]⟩,.int .i64 0,.int .i64 0,.slice none 0 0,.int .i64 0,.int .i64 0,.int .i64 0] 79)=W0 at HC HZ RD FR ⊢
 have sc:=HC.out.lt
 clear hW
 obtain ⟨⟨⟨c0,c1,c2,c3⟩,⟨c4,c5,c6,c7⟩,c8,c9,c10,c11⟩,cz⟩:=cells12 HC.out
 have hfin:=HR.out
 skip
 cases hfin
 obtain ⟨⟨⟨e0,e1,e2,e3⟩,⟨e4,e5,e6,e7⟩,e8,e9,e10,e11⟩,ez⟩:=cells12 HZ.out
 have el:=HZ.out.lt
 go_wp2_with fail
 obtain ⟨⟨⟨t0,t1_,t2,t3⟩,⟨t4,t5,t6,t7⟩,t8,t9,t10,t11⟩,-⟩:=cells12 (blk_put12 HZ.out (.int .u8 255) (.int .i64 0) (.slice none 0 0) (.int .i64 0) (.string ⟨#[]⟩) (.string ⟨#[]⟩) (.int .i64 0) (.int .i64 0) (.slice none 0 0) (.int .i64 0) (.int .i64 0) (.int .i64 0))
 exact bodyPost_ret (v:=.agg #[.int .u8 255,.int .i64 0,.slice none 0 0,.int .i64 0,.string ⟨#[]⟩,.string ⟨#[]⟩,.int .i64 0,.int .i64 0,.slice none 0 0,.int .i64 0,.int .i64 0,.int .i64 0]) (by simp [results,Tryz.results53,go_sem,t0,t1_,t2,t3,t4,t5,t6,t7,t8,t9,t10,t11]) rfl ⟨_,rfl,⟨none,0,none,0,rfl,ownI_nil _ _,ownI_nil _ _⟩,((((((((((((RD.out.far (b:=w.heap.size) (o:=0) (v:=.int .u8 255) gl).far (b:=w.heap.size) (o:=1) (v:=.int .i64 0) gl).far (b:=w.heap.size) (o:=2) (v:=.slice none 0 0) gl).far (b:=w.heap.size) (o:=3) (v:=.int .i64 0) gl).far (b:=w.heap.size) (o:=4) (v:=.string ⟨#[]⟩) gl).far (b:=w.heap.size) (o:=5) (v:=.string ⟨#[]⟩) gl).far (b:=w.heap.size) (o:=6) (v:=.int .i64 0) gl).far (b:=w.heap.size) (o:=7) (v:=.int .i64 0) gl).far (b:=w.heap.size) (o:=8) (v:=.slice none 0 0) gl).far (b:=w.heap.size) (o:=9) (v:=.int .i64 0) gl).far (b:=w.heap.size) (o:=10) (v:=.int .i64 0) gl).far (b:=w.heap.size) (o:=11) (v:=.int .i64 0) gl),((((((((((((FR.out.set_ (b:=w.heap.size) (o:=0) (v:=.int .u8 255) (Nat.le_of_lt gl) (Nat.le_refl _)).set_ (b:=w.heap.size) (o:=1) (v:=.int .i64 0) (Nat.le_of_lt gl) (Nat.le_refl _)).set_ (b:=w.heap.size) (o:=2) (v:=.slice none 0 0) (Nat.le_of_lt gl) (Nat.le_refl _)).set_ (b:=w.heap.size) (o:=3) (v:=.int .i64 0) (Nat.le_of_lt gl) (Nat.le_refl _)).set_ (b:=w.heap.size) (o:=4) (v:=.string ⟨#[]⟩) (Nat.le_of_lt gl) (Nat.le_refl _)).set_ (b:=w.heap.size) (o:=5) (v:=.string ⟨#[]⟩) (Nat.le_of_lt gl) (Nat.le_refl _)).set_ (b:=w.heap.size) (o:=6) (v:=.int .i64 0) (Nat.le_of_lt gl) (Nat.le_refl _)).set_ (b:=w.heap.size) (o:=7) (v:=.int .i64 0) (Nat.le_of_lt gl) (Nat.le_refl _)).set_ (b:=w.heap.size) (o:=8) (v:=.slice none 0 0) (Nat.le_of_lt gl) (Nat.le_refl _)).set_ (b:=w.heap.size) (o:=9) (v:=.int .i64 0) (Nat.le_of_lt gl) (Nat.le_refl _)).set_ (b:=w.heap.size) (o:=10) (v:=.int .i64 0) (Nat.le_of_lt gl) (Nat.le_refl _)).set_ (b:=w.heap.size) (o:=11) (v:=.int .i64 0) (Nat.le_of_lt gl) (Nat.le_refl _))⟩
end Go.Proofs.YtdfmcgekfogpbabGreatDoor
