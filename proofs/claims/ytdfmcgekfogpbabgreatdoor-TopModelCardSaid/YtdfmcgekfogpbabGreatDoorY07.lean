/-
  Proved here: Plain law of what is kept: of entries that rise, those from an offset  Plain: what is let go, how much room there is; topics that a call retu The document's comparison of two lists of entries; slices.Equal at ent The document's Same and topic.Same. No condition but that the topics r Rows that a law writes over; two topics held against each other in one How a group's topics read: from the form's re
-/
import Derived.Test.YtdfmcgekfogpbabGreatDoorY03
import Derived.StillTailTactics
import Derived.Laws.OwnMore
set_option maxRecDepth 100000
namespace Go.Proofs.YtdfmcgekfogpbabGreatDoor
def rises (l:List Ent):Prop:=∀ i,i+1 < l.length→(l.getD i default).off < (l.getD (i+1) default).off
theorem rises_lt {l:List Ent} (h:rises l) {j:Nat}:∀ {k:Nat},j < k→k < l.length→(l.getD j default).off < (l.getD k default).off
 |0,hj,_=>absurd hj (Nat.not_lt_zero _)
 |k+1,hj,hk=>by
  by_cases hjk:j=k
  ·rw [hjk];exact h k hk
  ·have h1:=rises_lt h (j:=j) (k:=k) (by omega) (by omega)
   have h2:=h k hk
   omega
theorem may_rises {t:Top} (h:t.may):rises t.ents:=fun i hi=>by
 have:=(h.2.1 (i+1) hi).2.2.2.1 (by omega)
 simpa using this
theorem fromE_append (b:Int) (l m:List Ent):fromE b (l++m)=fromE b l++fromE b m:=List.filter_append ..
theorem fromE_none {b:Int} {l:List Ent} (h:∀ x∈l,x.off < b):fromE b l=[]:=by
 refine List.filter_eq_nil_iff.2 fun x hx=>?_
 have:=h x hx
 simp;omega
theorem fromE_all {b:Int} {l:List Ent} (h:∀ x∈l,b≤x.off):fromE b l=l:=List.filter_eq_self.2 fun x hx=>by simpa using h x hx
theorem getD_at {l:List Ent} {j:Nat} (h:j < l.length):l.getD j default=l[j]:=by simp [List.getD,h]
theorem drop_from {l:List Ent} {b i:Int} (hr:rises l) (h:FirstAt l b i):l.drop (if i < 0 then l.length else i.toNat)=fromE b l:=by
 rcases h with ⟨rfl,hall⟩|⟨k,hk,rfl,hlo,hhi⟩
 ·rw [if_pos (by omega),List.drop_length,fromE_none]
  intro x hx
  obtain ⟨j,hj,rfl⟩:=List.getElem_of_mem hx
  rw [← getD_at hj];exact hall j hj
 ·rw [if_neg (by omega),Int.toNat_natCast]
  conv=>rhs;rw [← List.take_append_drop k l]
  rw [fromE_append,fromE_none,fromE_all,List.nil_append]
  ·intro x hx
   obtain ⟨j,hj,rfl⟩:=List.getElem_of_mem hx
   rw [List.getElem_drop]
   have hj':k+j < l.length:=by simp at hj;omega
   rw [← getD_at hj']
   by_cases h0:j=0
   ·subst h0;exact hhi
   ·have:=rises_lt hr (j:=k) (k:=k+j) (by omega) hj'
    omega
  ·intro x hx
   obtain ⟨j,hj,rfl⟩:=List.getElem_of_mem hx
   rw [List.getElem_take]
   have hj':j < k:=by simp at hj;omega
   rw [← getD_at (by omega)]
   exact hlo j hj'
end Go.Proofs.YtdfmcgekfogpbabGreatDoor
namespace Go.Proofs.YtdfmcgekfogpbabGreatDoor
open Go.RowKit Go.WideShapes Go.ChangeShapes
def trimTo (t:Top) (tq:Int):Int:=max t.base (min tq t.next)
def trimP (t:Top) (tq:Int):Top × Int :=
 if t.may then (if tq < 0∨1073741824 < tq then (Top.zero,2) else (⟨trimTo t tq,t.next,t.mark,fromE (trimTo t tq) t.ents⟩,0)) else (Top.zero,8)
theorem trimP_bad {t:Top} {tq:Int} (h:¬ t.may):trimP t tq=(Top.zero,8):=by simp [trimP,h]
theorem trimP_arg {t:Top} {tq:Int} (h:t.may) (h':tq < 0∨1073741824 < tq):trimP t tq=(Top.zero,2):=by simp [trimP,h,h']
theorem trimP_yes {t:Top} {tq:Int} (h:t.may) (h':¬ (tq < 0∨1073741824 < tq)):trimP t tq=(⟨trimTo t tq,t.next,t.mark,fromE (trimTo t tq) t.ents⟩,0):=by simp [trimP,h,h']
def TopEnd1 (u:Top) (x:Int) (w:World) (e:Ending) (w':World):Prop :=
 ∃ a cap,e=.returned (.tuple #[.agg #[.int .i64 u.base,.int .i64 u.next,.int .i64 u.mark,.slice a u.ents.length cap],.int .i64 x]) ∧
  OwnE w' w.heap.size (.slice a u.ents.length cap) u.ents∧Below w.heap.size w w'
theorem topEnd1_zero {w w':World} {e:Ending} (x:Int) (h:e=.returned (.tuple #[.agg #[.int .i64 0,.int .i64 0,.int .i64 0,.slice none 0 0],.int .i64 x])) (hb:Below w.heap.size w w'):TopEnd1 Top.zero x w e w' :=
 ⟨none,0,h,World.ownsRow_nil _ _ _ _,hb⟩
end Go.Proofs.YtdfmcgekfogpbabGreatDoor
set_option maxRecDepth 100000
namespace Go.Proofs.YtdfmcgekfogpbabGreatDoor
open Go.RowKit
theorem eqEnt_iff (x y:Ent):eqEnt x y=true↔x=y:=by
 obtain ⟨a,b,c,d⟩:=x
 obtain ⟨a',b',c',d'⟩:=y
 have hb:∀ u v:ByteArray,u.toList=v.toList↔u=v:=fun u v=>by
  rw [ByteArray.toList_eq,ByteArray.toList_eq]
  constructor
  ·intro h
   have:=Array.toList_inj.1 h
   cases u;cases v;simp_all
  ·rintro rfl;rfl
 simp [eqEnt,hb]
def sameE (l l':List Ent):Bool:=decide (l.length=l'.length) && (List.range l.length).all fun i=>eqEnt (l.getD i default) (l'.getD i default)
theorem sameE_iff (l l':List Ent):sameE l l'=true↔l=l':=by
 simp only [sameE,Bool.and_eq_true,decide_eq_true_eq,List.all_eq_true,List.mem_range]
 constructor
 ·rintro ⟨h1,h2⟩
  apply List.ext_getElem h1
  intro i hi hi'
  have:=(eqEnt_iff _ _).1 (h2 i hi)
  simpa [List.getD,hi,hi'] using this
 ·rintro rfl
  exact ⟨rfl,fun i _=>(eqEnt_iff _ _).2 rfl⟩
theorem sameE_len {l l':List Ent} (h:l.length≠l'.length):sameE l l'=false:=by simp [sameE,h]
theorem sameE_at {l l':List Ent} {k:Nat} (h:eqEnt (l.getD k default) (l'.getD k default)=false):sameE l l'=false:=by
 cases e:sameE l l' with
 |false=>rfl
 |true =>
  rw [(sameE_iff _ _).1 e] at h
  rw [(eqEnt_iff _ _).2 rfl] at h
  cases h
theorem sameE_all {l l':List Ent} (hl:l.length=l'.length) (h:∀ i,i < l.length→eqEnt (l.getD i default) (l'.getD i default)=true):sameE l l'=true:=by
 simp only [sameE,Bool.and_eq_true,decide_eq_true_eq,List.all_eq_true,List.mem_range]
 exact ⟨hl,h⟩
set_option maxHeartbeats 2000000 in
theorem equalEnts_some (a a':Option Addr) (cap cap' n:Nat) (l l':List Ent) (w:World) (hn:n=l.length) (hn2:n=l'.length) (hcap:n≤cap) (hm:cap≤9223372036854775807) (hcap':n≤cap')
  (hc:0 < n→∃ b off,a=some ⟨b,off,none⟩∧EntsAt w b off l) (hc':0 < n→∃ b off,a'=some ⟨b,off,none⟩∧EntsAt w b off l') :
  Calls Tryz.prog 76 #[.slice a n cap,.slice a' n cap'] w fun e w'=>e=.returned (.bool (sameE l l'))∧Below w.heap.size w w':=by
 have HC:=LH hc
 have HC':=LH hc'
 have HN:=LH hn
 have HN2:=LH hn2
 obtain ⟨z,hz⟩:∃ z,z=sameE l l':=⟨_,rfl⟩
 rw [← hz]
 have HZ:=LH hz
 clear hn hn2 hc hc' hz
 have nn:((n:Int) != (n:Int))=false:=by simp
 have hn':(n:Int)≤9223372036854775807:=by omega
 have hE:=ent_neq
 have hG:=ent_eqGuard
 go_enter Tryz.func76,Tryz.ntmps76
 go_wp2_with fail
 go_loopg [5,13] n (fun g _ i wr=>∃ k:Nat,k≤n∧g=n - k∧i=.int .i64 (k:Int)∧Hid (∀ j,j < k→eqEnt (l.getD j default) (l'.getD j default)=true)∧Hid (Below w.heap.size w wr))
 case atStart=>exact ⟨0,Nat.zero_le _,rfl,rfl,(fun j hj=>absurd hj (Nat.not_lt_zero _)),Below.refl _ _⟩
 case round =>
  obtain ⟨k,hk,rfl,rfl,hall,hb⟩:=hrel
  by_cases hlt:k < n
  ·have hk0:(0:Int)≤(k:Int):=by omega
   have hk1:(k:Int) < (n:Int):=by omega
   obtain ⟨b,off,ha,h1⟩:=HC.out (by omega)
   obtain ⟨b',off',ha',h1'⟩:=HC'.out (by omega)
   subst ha ha'
   have cc:=h1 k (by rw [← HN.out];exact hlt)
   have cc':=h1' k (by rw [← HN2.out];exact hlt)
   clear h1 h1'
   obtain ⟨x,hx⟩:∃ x,x=l.getD k default:=⟨_,rfl⟩
   obtain ⟨y,hy⟩:∃ y,y=l'.getD k default:=⟨_,rfl⟩
   rw [← hx] at cc
   rw [← hy] at cc'
   have HX:=LH hx
   have HY:=LH hy
   have c0:=keep hb.out cc.1.1.1
   have c1:=keep hb.out cc.1.1.2
   have c2:=keep hb.out cc.1.2
   have c3:=keep hb.out cc.2
   have d0:=keep hb.out cc'.1.1.1
   have d1:=keep hb.out cc'.1.1.2
   have d2:=keep hb.out cc'.1.2
   have d3:=keep hb.out cc'.2
   have hb2:=hb.out
   clear hx hy cc cc'
   obtain ⟨q,hq⟩:∃ q,q=eqEnt x y:=⟨_,rfl⟩
   have hq':=hq.symm
   have HQ:=LH hq
   clear hq
   cases q
   all_goals
    go_wp2_with fail
    refine wp_region_class (fun w'=>((((w'.cell? ⟨b,off+k * 4,none⟩=some (.int .i64 x.off)∧w'.cell? ⟨b,off+k * 4+1,none⟩=some (.int .i64 x.id))∧w'.cell? ⟨b,off+k * 4+2,none⟩=some (.string x.key))∧w'.cell? ⟨b,off+k * 4+3,none⟩=some (.string x.body)) ∧
     (((w'.cell? ⟨b',off'+k * 4,none⟩=some (.int .i64 y.off)∧w'.cell? ⟨b',off'+k * 4+1,none⟩=some (.int .i64 y.id))∧w'.cell? ⟨b',off'+k * 4+2,none⟩=some (.string y.key))∧w'.cell? ⟨b',off'+k * 4+3,none⟩=some (.string y.body)))∧Below w.heap.size w w') (by kernel_rfl) (by kernel_rfl)
     ⟨⟨⟨⟨⟨by simpa using c0,by simpa using c1⟩,by simpa using c2⟩,by simpa using c3⟩,⟨⟨by simpa using d0,by simpa using d1⟩,by simpa using d2⟩,by simpa using d3⟩,hb2.drew⟩ ?_
    repeat
     with_reducible refine wpQuiet_step (fun K hK=>?_)
     first
      |refine quiet_not (by rfl) (hK _ ?_)
      |refine quiet_any (by rfl) ?_
       apply Exists.intro
       refine ⟨fun wq hq=>?_,hK _ ?_⟩
       ·obtain ⟨⟨⟨⟨⟨k0,k1⟩,k2⟩,k3⟩,⟨⟨m0,m1⟩,m2⟩,m3⟩,kb⟩:=hq
        go_simp
        first
         |done
         |(with_reducible rfl)
         |(fail)
     clear hK K
     simp only [Act.put,List.setIfInBounds_toArray,List.set_cons_zero,List.set_cons_succ]
    refine wpQuiet_nil ?_
    intro wq hq
    have hbq:=LH hq.2
    clear hq hb2 c0 c1 c2 c3 d0 d1 d2 d3
    go_wp2_with fail
   ·go_ret
    refine ⟨?_,hbq.out⟩
    rw [HZ.out,sameE_at (k:=k) (by rw [← HX.out,← HY.out];exact HQ.out.symm)]
    rfl
   ·go_roundg (n - (k+1))
    case measure=>omega
    case rel =>
     refine ⟨k+1,by omega,rfl,by go_num,fun j hj=>?_,hbq⟩
     by_cases hjk:j < k
     ·exact hall.out j hjk
     ·obtain rfl:j=k:=by omega
      rw [← HX.out,← HY.out];exact HQ.out.symm
  ·obtain rfl:k=n:=by omega
   have hlt':¬ (k:Int) < (k:Int):=by omega
   go_wp2_with fail
   go_ret
   refine ⟨?_,hb.out⟩
   rw [HZ.out,sameE_all (by rw [← HN.out,← HN2.out]) (by rw [← HN.out];exact hall.out)]
   rfl
theorem equalEnts_len (a a':Option Addr) (n n' cap cap':Nat) (w:World) (h:n≠n') :
  Calls Tryz.prog 76 #[.slice a n cap,.slice a' n' cap'] w fun e w'=>e=.returned (.bool false)∧Below w.heap.size w w':=by
 have hd:((n:Int) != (n':Int))=true:=by simp;omega
 go_enter Tryz.func76,Tryz.ntmps76
 go_wp2_with fail
 go_ret
 exact ⟨rfl,Below.refl _ _⟩
theorem equalEnts_any {v v':Value} {l l':List Ent} {w:World} (h:SliceR w v 4 entCells l) (h':SliceR w v' 4 entCells l') :
  Calls Tryz.prog 76 #[v,v'] w fun e w'=>e=.returned (.bool (sameE l l'))∧Below w.heap.size w w':=by
 obtain ⟨a,cap,hv,_⟩:=id h
 obtain ⟨a',cap',hv',_⟩:=id h'
 subst hv hv'
 obtain ⟨⟨_,hcap⟩,⟨hmax,_⟩,hd⟩:=h.ents
 obtain ⟨⟨_,hcap'⟩,⟨_,_⟩,hd'⟩:=h'.ents
 unfold maxLen at hmax
 by_cases hl:l.length=l'.length
 ·rw [← hl] at hd' hcap' ⊢
  exact equalEnts_some a a' cap cap' _ l l' w rfl hl hcap hmax hcap' hd hd'
 ·rw [sameE_len hl]
  exact equalEnts_len _ _ _ _ _ _ w hl
end Go.Proofs.YtdfmcgekfogpbabGreatDoor
set_option maxRecDepth 100000
namespace Go.Proofs.YtdfmcgekfogpbabGreatDoor
open Go.RowKit
def sameT (t t':Top):Bool:=t.base == t'.base && (t.next == t'.next && (t.mark == t'.mark && sameE t.ents t'.ents))
theorem sameT_iff (t t':Top):sameT t t'=true↔t=t':=by
 obtain ⟨a,b,c,d⟩:=t
 obtain ⟨a',b',c',d'⟩:=t'
 simp [sameT,sameE_iff]
set_option maxRecDepth 100000 in
theorem topSame_any {v v':Value} {t t':Top} {w:World} (h:TopR w v t) (h':TopR w v' t') :
  Calls Tryz.prog 40 #[v,v'] w fun e w'=>e=.returned (.bool (sameT t t'))∧Below w.heap.size w w':=by
 obtain ⟨a,cap,rfl,hs⟩:=h
 obtain ⟨a',cap',rfl,hs'⟩:=h'
 have hb0:∀ o o':Obj,Below w.heap.size w ((w.alloc o).alloc o'):=fun o o'=>((Below.refl _ _).alloc (Nat.le_refl _) o).alloc (by simp) o'
 have K:=fun (o o':Obj)=>equalEnts_any (hs.below entCells_len (hb0 o o')) (hs'.below entCells_len (hb0 o o'))
 have HK:=LH K
 have HB0:=LH hb0
 obtain ⟨z,hz⟩:∃ z,z=sameT t t':=⟨_,rfl⟩
 obtain ⟨q,hq⟩:∃ q,q=sameE t.ents t'.ents:=⟨_,rfl⟩
 have hz2:z=(t.base == t'.base && (t.next == t'.next && (t.mark == t'.mark && q))):=by rw [hz,hq];rfl
 rw [← hz]
 rw [← hq] at HK
 have HZ:=LH hz2
 obtain ⟨base,hbase⟩:∃ base,base=t.base:=⟨_,rfl⟩
 obtain ⟨next,hnext⟩:∃ next,next=t.next:=⟨_,rfl⟩
 obtain ⟨mark,hmark⟩:∃ mark,mark=t.mark:=⟨_,rfl⟩
 obtain ⟨base',hbase'⟩:∃ base',base'=t'.base:=⟨_,rfl⟩
 obtain ⟨next',hnext'⟩:∃ next',next'=t'.next:=⟨_,rfl⟩
 obtain ⟨mark',hmark'⟩:∃ mark',mark'=t'.mark:=⟨_,rfl⟩
 rw [← hbase,← hnext,← hmark,← hbase',← hnext',← hmark'] at HZ ⊢
 clear hz hq hz2 hs hs' K hb0 hbase hnext hmark hbase' hnext' hmark'
 by_cases h1:base=base'
 ·by_cases h2:next=next'
  ·by_cases h3:mark=mark'
   ·subst h1 h2 h3
    have e1:(base == base)=true:=by simp
    have e2:(next == next)=true:=by simp
    have e3:(mark == mark)=true:=by simp
    go_enter Tryz.func40,Tryz.ntmps40
    go_wp2_with fail
    refine (HK.out _ _).mono ?_
    rintro e w2 ⟨rfl,hb⟩
    have HB2:=LH ((HB0.out _ _).trans (hb.mono (by simp;omega)))
    clear hb
    go_wp2_with fail
    go_ret
    refine ⟨?_,HB2.out⟩
    rw [HZ.out,e1,e2,e3]
    rfl
   ·have e3:(mark == mark')=false:=by simpa using h3
    have e1:(base == base')=true:=by simpa using h1
    have e2:(next == next')=true:=by simpa using h2
    clear h1 h2 h3
    go_enter Tryz.func40,Tryz.ntmps40
    go_wp2_with fail
    go_ret
    refine ⟨?_,HB0.out _ _⟩
    rw [HZ.out,e1,e2,e3]
    rfl
  ·have e1:(base == base')=true:=by simpa using h1
   have e2:(next == next')=false:=by simpa using h2
   clear h1 h2
   go_enter Tryz.func40,Tryz.ntmps40
   go_wp2_with fail
   go_ret
   refine ⟨?_,HB0.out _ _⟩
   rw [HZ.out,e1,e2]
   rfl
 ·have e1:(base == base')=false:=by simpa using h1
  clear h1
  go_enter Tryz.func40,Tryz.ntmps40
  go_wp2_with fail
  go_ret
  refine ⟨?_,HB0.out _ _⟩
  rw [HZ.out,e1]
  rfl
end Go.Proofs.YtdfmcgekfogpbabGreatDoor
set_option maxRecDepth 100000
namespace Go.Proofs.YtdfmcgekfogpbabGreatDoor
open Go.RowKit
theorem topSame_q {t t':Top} {q:Bool} {v v':Value} {w:World} (h:TopR w v t) (h':TopR w v' t') (hq:q=sameT t t') :
  Calls Tryz.prog 40 #[v,v'] w fun e w'=>e=.returned (.bool q)∧Below w.heap.size w w':=by
 rw [hq];exact topSame_any h h'
theorem cells_str:Tryz.prog.cellsOf 9=1:=by kernel_rfl
end Go.Proofs.YtdfmcgekfogpbabGreatDoor
set_option maxRecDepth 100000
namespace Go.Proofs.YtdfmcgekfogpbabGreatDoor
open Go.RowKit Go.Deep Go.WideShapes Go.ChangeShapes
theorem getD_lt {α:Type} {l:List α} {i:Nat} {d:α} (h:i < l.length):l.getD i d=l[i]:=by simp [List.getD,h]
structure Str where
 tops:List Top
 coms:List (List Int)
instance:Inhabited Top:=⟨Top.zero⟩
def topCells (p:Value × Top):List Value:=[.int .i64 p.2.base,.int .i64 p.2.next,.int .i64 p.2.mark,p.1]
theorem topCells_len (p:Value × Top):(topCells p).length=4:=rfl
def EntR (w:World) (u:Value) (t:Top):Prop:=∃ a cap,u=.slice a t.ents.length cap∧SliceR w u 4 entCells t.ents
def TopsR (w:World) (v:Value) (l:List Top):Prop:=∃ pl:List (Value × Top),pl.map (·.2)=l∧SliceR w v 4 topCells pl∧∀ p∈pl,EntR w p.1 p.2
def StrR (w:World) (v:Value) (s:Str):Prop:=∃ ta tc,v=.agg #[ta,tc]∧TopsR w ta s.tops∧RowsR w tc s.coms
theorem EntR.below {w w':World} {u:Value} {t:Top} (h:EntR w u t) (hb:Below w.heap.size w w'):EntR w' u t:=by
 obtain ⟨a,cap,h1,h2⟩:=h
 exact ⟨a,cap,h1,h2.below entCells_len hb⟩
theorem TopsR.below {w w':World} {v:Value} {l:List Top} (h:TopsR w v l) (hb:Below w.heap.size w w'):TopsR w' v l:=by
 obtain ⟨pl,h1,h2,h3⟩:=h
 exact ⟨pl,h1,h2.below topCells_len hb,fun p hp=>(h3 p hp).below hb⟩
theorem StrR.below {w w':World} {v:Value} {s:Str} (h:StrR w v s) (hb:Below w.heap.size w w'):StrR w' v s:=by
 obtain ⟨ta,tc,h1,h2,h3⟩:=h
 exact ⟨ta,tc,h1,h2.below hb,h3.below hb⟩
theorem topR_of {w:World} {u:Value} {t:Top} (h:EntR w u t):TopR w (.agg #[.int .i64 t.base,.int .i64 t.next,.int .i64 t.mark,u]) t:=by
 obtain ⟨a,cap,rfl,h2⟩:=h
 exact ⟨a,cap,rfl,h2⟩
def TopAt (w:World) (b o:Nat) (t:Top):Prop:=∃ ea ecap,(((w.cell? ⟨b,o,none⟩=some (.int .i64 t.base)∧w.cell? ⟨b,o+1,none⟩=some (.int .i64 t.next))∧w.cell? ⟨b,o+2,none⟩=some (.int .i64 t.mark)) ∧
 w.cell? ⟨b,o+3,none⟩=some (.slice ea t.ents.length ecap))∧TopR w (.agg #[.int .i64 t.base,.int .i64 t.next,.int .i64 t.mark,.slice ea t.ents.length ecap]) t
theorem strR_step {w w1 w2:World} {v:Value} {s:Str} (h:StrR w v s) (hu:Below w.heap.size w w1) (hb:Below w1.heap.size w1 w2):Hid (StrR w2 v s):=LH ((h.below hu).below hb)
theorem TopsR.shape {w:World} {v:Value} {l:List Top} (h:TopsR w v l):∃ a cap,v=.slice a l.length cap∧l.length≤cap∧cap≤maxLen∧(a=none→cap=0) ∧
  (0 < l.length→∃ b off,a=some ⟨b,off,none⟩∧∀ i,i < l.length→TopAt w b (off+i * 4) (l.getD i default)):=by
 obtain ⟨pl,rfl,⟨a,cap,h1,h2,h3,h4,h5⟩,h6⟩:=h
 refine ⟨a,cap,by rw [List.length_map];exact h1,by rw [List.length_map];exact h2,h3,h4,fun hp=>?_⟩
 rw [List.length_map] at hp
 obtain ⟨b,off,ha,hd⟩:=h5 hp
 refine ⟨b,off,ha,fun i hi=>?_⟩
 rw [List.length_map] at hi
 have e:(pl.map (·.2)).getD i default=pl[i].2:=by simp [List.getD,hi]
 rw [e]
 have hE:=h6 _ (List.getElem_mem hi)
 obtain ⟨ea,ecap,hu,hs⟩:=id hE
 have hT:=topR_of hE
 rw [hu] at hT
 refine ⟨ea,ecap,⟨⟨⟨by simpa [topCells] using hd i hi 0 (by omega),by simpa [topCells,Nat.add_assoc] using hd i hi 1 (by omega)⟩,by simpa [topCells,Nat.add_assoc] using hd i hi 2 (by omega)⟩,?_⟩,hT⟩
 have h3:=hd i hi 3 (by omega)
 rw [Nat.add_assoc,h3]
 simp [topCells,hu]
theorem StrR.shape {w:World} {v:Value} {s:Str} (h:StrR w v s):∃ a cap b n c,v=.agg #[.slice a s.tops.length cap,.slice b n c]∧TopsR w (.slice a s.tops.length cap) s.tops∧RowsR w (.slice b n c) s.coms:=by
 obtain ⟨ta,tc,rfl,h2,h3⟩:=h
 obtain ⟨a,cap,rfl,_⟩:=h2.shape
 obtain ⟨b,n,c,rfl⟩:=h3.shape
 exact ⟨a,cap,b,n,c,rfl,h2,h3⟩
theorem TopAt.keep {w w':World} {b o:Nat} {t:Top} (h:TopAt w b o t) (hb:Below w.heap.size w w'):TopAt w' b o t:=by
 obtain ⟨ea,ecap,⟨⟨⟨h0,h1⟩,h2⟩,h3⟩,h4⟩:=h
 exact ⟨ea,ecap,⟨⟨⟨Go.Proofs.YtdfmcgekfogpbabGreatDoor.keep hb h0,Go.Proofs.YtdfmcgekfogpbabGreatDoor.keep hb h1⟩,Go.Proofs.YtdfmcgekfogpbabGreatDoor.keep hb h2⟩,Go.Proofs.YtdfmcgekfogpbabGreatDoor.keep hb h3⟩,h4.below hb⟩
def RowAt (w:World) (g o:Nat) (r:List Int):Prop:=∃ ra rcap,w.cell? ⟨g,o,none⟩=some (.slice ra r.length rcap)∧SliceR w (.slice ra r.length rcap) 1 intCell r
theorem RowsR.at_ {w:World} {b:Option Addr} {n c:Nat} {m:List (List Int)} (h:RowsR w (.slice b n c) m):(n=m.length∧n≤c∧c≤maxLen)∧(0 < n→∃ g off,b=some ⟨g,off,none⟩∧∀ i,i < n→RowAt w g (off+i) (m.getD i [])):=by
 obtain ⟨us,e1,e2,e3⟩:=h
 obtain ⟨a,cap,hv,hcap,hm,_,hc⟩:=e1.one (c:=fun u=>u) .nilIface
 cases hv
 refine ⟨⟨e2,hcap,hm⟩,fun hp=>?_⟩
 obtain ⟨g,off,rfl,hd⟩:=hc hp
 refine ⟨g,off,rfl,fun i hi=>?_⟩
 have h1:=hd i hi
 have h2:=e3 i (by omega)
 obtain ⟨ra,rcap,hu,_⟩:=id h2
 rw [hu] at h1 h2
 exact ⟨ra,rcap,h1,h2⟩
theorem RowAt.keep {w w':World} {g o:Nat} {r:List Int} (h:RowAt w g o r) (hb:Below w.heap.size w w'):RowAt w' g o r:=by
 obtain ⟨ra,rcap,h1,h2⟩:=h
 exact ⟨ra,rcap,Go.Proofs.YtdfmcgekfogpbabGreatDoor.keep hb h1,h2.below (fun _=>rfl) hb⟩
end Go.Proofs.YtdfmcgekfogpbabGreatDoor
namespace Go.Proofs.YtdfmcgekfogpbabGreatDoor
open Go.RowKit
def addP (t:Top) (id:Int) (k b:ByteArray):Top × Int × Int :=
 if t.may then
  (if id < 0∨6291456≤id then (Top.zero,0,2) else if 16 < k.size∨64 < b.size then (Top.zero,0,3) else if t.next=1073741824∨t.ents.length=200 then (Top.zero,0,9)
   else (⟨t.base,t.next+1,t.mark,t.ents++[⟨t.next,id,k,b⟩]⟩,t.next,0))
 else (Top.zero,0,8)
def fetchP (t:Top) (o:Int):Ent × Int :=
 if t.may then
  (if o < 0 then (default,2) else if t.next≤o then (default,170) else if o < t.base then (default,171) else match t.ents.find? fun x=>x.off == o with
   |some x=>(x,0)
   |none=>(default,172))
 else (default,8)
def TopEnd2 (u:Top) (x y:Int) (w:World) (e:Ending) (w':World):Prop :=
 ∃ a cap,e=.returned (.tuple #[.agg #[.int .i64 u.base,.int .i64 u.next,.int .i64 u.mark,.slice a u.ents.length cap],.int .i64 x,.int .i64 y]) ∧
  OwnE w' w.heap.size (.slice a u.ents.length cap) u.ents∧Below w.heap.size w w'
theorem topEnd2_zero {w w':World} {e:Ending} (x y:Int) (h:e=.returned (.tuple #[.agg #[.int .i64 0,.int .i64 0,.int .i64 0,.slice none 0 0],.int .i64 x,.int .i64 y])) (hb:Below w.heap.size w w'):TopEnd2 Top.zero x y w e w' :=
 ⟨none,0,h,World.ownsRow_nil _ _ _ _,hb⟩
def EntEnd (x:Ent) (n:Int) (w:World) (e:Ending) (w':World):Prop :=
 e=.returned (.tuple #[.agg #[.int .i64 x.off,.int .i64 x.id,.string x.key,.string x.body],.int .i64 n])∧Below w.heap.size w w'
theorem own_ne {W:World} {B b:Nat} {v:Value} {l:List Ent} (h:OwnE W B v l) (hb:b < B):v.ownBlock≠some b:=fun e=>by have:=(h.lt _ e).1;omega
theorem below_grown {a W w':World} {B:Nat} {v:Value} {l:List Ent} (h:Below a.heap.size a W) (hg:W.grownBy w' v.ownBlock) (ho:OwnE W B v l) (hB:a.heap.size≤B):Below a.heap.size a w' :=
 h.grown hg h.size (fun k hk=>Nat.le_trans hB (ho.lt k hk).1)
theorem news_ent (x:Ent) {W:World} {g:Nat} {t:TypeId} (hg:g=W.heap.size):∀ j u,(entCells x)[j]?=some u→(W.alloc (.cells #[.int .i64 x.off,.int .i64 x.id,.string x.key,.string x.body] t)).cell? ((⟨g,0,none⟩:Addr).add j)=some u:=by
 intro j u hu
 have hB:=Blk.new (w:=W) (t:=t) (cs:=entCells x) hg
 have h:=hB.cell j
 rw [show ((⟨g,0,none⟩:Addr).add j)=⟨g,j,none⟩ by unfold Addr.add;split <;> simp_all]
 rw [← hu]
 exact h
theorem find_at {l:List Ent} (h:rises l) {i:Nat} (hi:i < l.length) {o:Int} (ho:(l.getD i default).off=o):l.find? (fun x=>x.off == o)=some (l.getD i default):=by
 rw [List.find?_eq_some_iff_getElem]
 refine ⟨by simpa using ho,i,hi,(getD_at hi).symm,fun j hj=>?_⟩
 have:=rises_lt h hj hi
 rw [getD_at (by omega)] at this
 simp
 omega
theorem find_none {l:List Ent} {o:Int} (h:∀ i,i < l.length→(l.getD i default).off≠o):l.find? (fun x=>x.off == o)=none:=by
 rw [List.find?_eq_none]
 intro x hx
 obtain ⟨i,hi,rfl⟩:=List.getElem_of_mem hx
 have:=h i hi
 rw [getD_at hi] at this
 simpa using this
end Go.Proofs.YtdfmcgekfogpbabGreatDoor
set_option maxRecDepth 100000
namespace Go.Proofs.YtdfmcgekfogpbabGreatDoor
open Go.RowKit
def inTW (t k:Int):Bool:=decide (0≤t∧t < 4∧0≤k∧k < 8)
def askC (m:List (List Int)) (t k:Int):Int:=if okC m then (if inTW t k then 0 else 2) else 8
def getC (m:List (List Int)) (t k:Int):Int:=(m.getD t.toNat []).getD k.toNat 0
def setC (m:List (List Int)) (t k n:Int):List (List Int):=m.set t.toNat ((m.getD t.toNat []).set k.toNat (max (getC m t k) n))
theorem okC_spec {m:List (List Int)} (h:okC m=true):m.length=4∧∀ r∈m,r.length=8∧∀ x∈r,0≤x∧x≤1073741824:=by
 simp only [okC,Bool.and_eq_true,decide_eq_true_eq,Bool.not_eq_true'] at h
 refine ⟨h.1,fun r hr=>?_⟩
 have h2:=List.any_eq_false.1 h.2 r hr
 simp only [rowBad,Bool.or_eq_true,decide_eq_true_eq,not_or,Bool.not_eq_true] at h2
 refine ⟨by omega,fun x hx=>?_⟩
 have h3:=List.any_eq_false.1 h2.2 x hx
 simp only [badI,Bool.or_eq_true,decide_eq_true_eq,not_or] at h3
 omega
theorem okC_few {m:List (List Int)} (h:okC m=true):few m:=by
 obtain ⟨h1,h2⟩:=okC_spec h
 exact ⟨by omega,fun r hr=>by have:=(h2 r hr).1;omega⟩
theorem asked_any {v:Value} {m:List (List Int)} (t k:Int) {w:World} (h:RowsR w v m) :
  Calls Tryz.prog 71 #[v,.int .i64 t,.int .i64 k] w fun e w'=>e=.returned (.int .i64 (askC m t k))∧Below w.heap.size w w':=by
 have K:=comCheck_any h
 obtain ⟨a,na,cap,rfl⟩:=h.shape
 cases hok:okC m
 ·simp only [hok,Bool.false_eq_true,if_false] at K
  have e:askC m t k=8:=by simp [askC,hok]
  rw [e]
  have HK:=LH K
  clear K hok e h
  go_enter Tryz.func71,Tryz.ntmps71
  go_wp2_with fail
  refine HK.out.mono ?_
  rintro e w1 ⟨rfl,hb⟩
  go_wp2_with fail
  go_ret
  exact ⟨rfl,hb⟩
 ·simp only [hok,if_true] at K
  have HK:=LH K
  by_cases hin:0≤t∧t < 4∧0≤k∧k < 8
  ·have e:askC m t k=0:=by simp [askC,hok,inTW,hin]
   rw [e]
   obtain ⟨h1,h2,h3,h4⟩:=hin
   clear K hok e h
   go_enter Tryz.func71,Tryz.ntmps71
   go_wp2_with fail
   refine HK.out.mono ?_
   rintro e w1 ⟨rfl,hb⟩
   go_wp2_with fail
   go_ret
   exact ⟨rfl,hb⟩
  ·have e:askC m t k=2:=by simp only [askC,hok,if_true,inTW,decide_eq_true_eq];rw [if_neg hin]
   rw [e]
   clear K hok e h
   by_cases h1:t < 0
   ·go_enter Tryz.func71,Tryz.ntmps71
    go_wp2_with fail
    refine HK.out.mono ?_
    rintro e w1 ⟨rfl,hb⟩
    go_wp2_with fail
    go_ret
    exact ⟨rfl,hb⟩
   ·by_cases h2:4≤t
    ·go_enter Tryz.func71,Tryz.ntmps71
     go_wp2_with fail
     refine HK.out.mono ?_
     rintro e w1 ⟨rfl,hb⟩
     go_wp2_with fail
     go_ret
     exact ⟨rfl,hb⟩
    ·by_cases h3:k < 0
     ·go_enter Tryz.func71,Tryz.ntmps71
      go_wp2_with fail
      refine HK.out.mono ?_
      rintro e w1 ⟨rfl,hb⟩
      go_wp2_with fail
      go_ret
      exact ⟨rfl,hb⟩
     ·have h4:8≤k:=by omega
      clear hin
      go_enter Tryz.func71,Tryz.ntmps71
      go_wp2_with fail
      refine HK.out.mono ?_
      rintro e w1 ⟨rfl,hb⟩
      go_wp2_with fail
      go_ret
      exact ⟨rfl,hb⟩
theorem rows_cell {w:World} {v:Value} {m:List (List Int)} (h:RowsR w v m) (hok:okC m=true) {t k:Int} (h1:0≤t) (h2:t < 4) (h3:0≤k) (h4:k < 8) :
  ∃ b off cap rb roff rcap,v=.slice (some ⟨b,off,none⟩) 4 cap∧w.cell? ⟨b,off+t.toNat,none⟩=some (.slice (some ⟨rb,roff,none⟩) 8 rcap)∧w.cell? ⟨rb,roff+k.toNat,none⟩=some (.int .i64 (getC m t k)):=by
 obtain ⟨hl,hr⟩:=okC_spec hok
 obtain ⟨us,e1,e2,e3⟩:=h
 obtain ⟨a,cap,rfl,hcap,hm,_,hc⟩:=e1.one (c:=fun u=>u) .nilIface
 obtain ⟨b,off,rfl,hd⟩:=hc (by omega)
 have ht:=hd t.toNat (by omega)
 have hrow:=e3 t.toNat (by omega)
 have h8:(m.getD t.toNat []).length=8:=by
  have e:m.getD t.toNat []=m[t.toNat]'(by omega):=by simp [List.getD,show t.toNat < m.length by omega]
  rw [e]
  exact (hr _ (List.getElem_mem _)).1
 obtain ⟨ra,rcap,hu,_,_,_,hrc⟩:=hrow.one (c:=fun n=>.int .i64 n) 0
 obtain ⟨rb,roff,rfl,hrd⟩:=hrc (by omega)
 have hk:=hrd k.toNat (by omega)
 rw [h8] at hu
 rw [hu] at ht
 exact ⟨b,off,cap,rb,roff,rcap,by rw [e2,hl],ht,hk⟩
theorem get_any {v:Value} {m:List (List Int)} (t k:Int) {w:World} (h:RowsR w v m) :
  Calls Tryz.prog 36 #[v,.int .i64 t,.int .i64 k] w fun e w'=>e=.returned (.tuple #[.int .i64 (if askC m t k=0 then getC m t k else 0),.int .i64 (askC m t k)])∧Below w.heap.size w w':=by
 have K:=asked_any t k h
 by_cases hok:okC m=true
 ·by_cases hin:0≤t∧t < 4∧0≤k∧k < 8
  ·have e:askC m t k=0:=by simp [askC,hok,inTW,hin]
   obtain ⟨h1,h2,h3,h4⟩:=hin
   obtain ⟨b,off,cap,rb,roff,rcap,rfl,c1,c2⟩:=rows_cell h hok h1 h2 h3 h4
   rw [e] at K ⊢
   rw [if_pos rfl]
   obtain ⟨x,hx⟩:∃ x,x=getC m t k:=⟨_,rfl⟩
   rw [← hx] at c2 ⊢
   have HK:=LH K
   clear K hx e h hok
   go_enter Tryz.func36,Tryz.ntmps36
   go_wp2_with fail
   refine HK.out.mono ?_
   rintro e w1 ⟨rfl,hb⟩
   have d1:=keep hb c1
   have d2:=keep hb c2
   clear c1 c2
   go_wp2_with fail
   go_ret2
   exact ⟨rfl,hb⟩
  ·have e:askC m t k=2:=by simp only [askC,hok,if_true,inTW,decide_eq_true_eq];rw [if_neg hin]
   rw [e] at K ⊢
   have HK:=LH K
   obtain ⟨a,na,cap,rfl⟩:=h.shape
   clear K e h
   go_enter Tryz.func36,Tryz.ntmps36
   go_wp2_with fail
   refine HK.out.mono ?_
   rintro e w1 ⟨rfl,hb⟩
   go_wp2_with fail
   go_ret2
   exact ⟨rfl,hb⟩
 ·have e:askC m t k=8:=by simp [askC,hok]
  rw [e] at K ⊢
  have HK:=LH K
  obtain ⟨a,na,cap,rfl⟩:=h.shape
  clear K e h
  go_enter Tryz.func36,Tryz.ntmps36
  go_wp2_with fail
  refine HK.out.mono ?_
  rintro e w1 ⟨rfl,hb⟩
  go_wp2_with fail
  go_ret2
  exact ⟨rfl,hb⟩
theorem getD_set_same {α:Type} {l:List α} {i:Nat} {x d:α} (h:i < l.length):(l.set i x).getD i d=x:=by simp [List.getD,h]
theorem getD_set_other {α:Type} {l:List α} {i j:Nat} {x d:α} (h:i≠j):(l.set i x).getD j d=l.getD j d:=by simp [List.getD,List.getElem?_set_ne h]
theorem rowVals_set (r:List Int) (i:Nat) (x:Int):rowVals (r.set i x)=(rowVals r).set i (.int .i64 x):=by simp [rowVals,List.map_set]
theorem own_cells {w:World} {base:Nat} {v:Value} {m:List (List Int)} (h:OwnC w base v m) (hok:okC m=true) {t k:Int} (h1:0≤t) (h2:t < 4) (h3:0≤k) (h4:k < 8) :
  ∃ g cap gt rcap,v=.slice (some ⟨g,0,none⟩) 4 cap∧w.cell? ⟨g,t.toNat,none⟩=some (.slice (some ⟨gt,0,none⟩) 8 rcap)∧w.cell? ⟨gt,k.toNat,none⟩=some (.int .i64 (getC m t k))∧w.frozen? ⟨gt,k.toNat,none⟩=false∧base≤gt ∧
   ∀ x,OwnC (w.setCell ⟨gt,k.toNat,none⟩ (.int .i64 x)) base v (m.set t.toNat ((m.getD t.toNat []).set k.toNat x)):=by
 obtain ⟨hl,hr⟩:=okC_spec hok
 obtain ⟨us,e1,e2,e3,e4⟩:=h
 have htl:t.toNat < m.length:=by omega
 have h8:(m.getD t.toNat []).length=8:=by
  have e:m.getD t.toNat []=m[t.toNat]:=by simp [List.getD,htl]
  rw [e]
  exact (hr _ (List.getElem_mem _)).1
 have hrow:=e3 t.toNat htl
 rw [h8] at hrow
 obtain ⟨g,cap,hv⟩:∃ g cap,v=.slice (some ⟨g,0,none⟩) us.length cap:=by
  rcases e1.2 with ⟨_,h0⟩|⟨g,cap,_,hv,_⟩
  ·omega
  ·exact ⟨g,cap,hv⟩
 obtain ⟨gt,rcap,hu⟩:∃ gt rcap,us.getD t.toNat .nilIface=.slice (some ⟨gt,0,none⟩) 8 rcap:=by
  rcases hrow.2 with ⟨_,h0⟩|⟨g,cap,_,hv,_⟩
  ·omega
  ·exact ⟨g,cap,hv⟩
 subst hv
 have c1:=e1.cellAt t.toNat (by omega)
 have c1':w.cell? ⟨g,t.toNat,none⟩=some (.slice (some ⟨gt,0,none⟩) 8 rcap):=by
  rw [c1,← hu]
  simp [List.getD,show t.toNat < us.length by omega]
 have hrow':=hrow
 rw [hu] at hrow'
 have c2:=hrow'.cellAt k.toNat (by omega)
 have c2':w.cell? ⟨gt,k.toNat,none⟩=some (.int .i64 (getC m t k)):=by
  rw [c2]
  exact rowVals_get (by omega)
 refine ⟨g,cap,gt,rcap,by rw [e2,hl],c1',c2',hrow'.frozenAt _,(hrow'.lt gt rfl).1,fun x=>?_⟩
 obtain ⟨st,_⟩:=hrow'.stored k.toNat (.int .i64 x)
 have hne:(Value.slice (some ⟨g,0,none⟩) us.length cap).ownBlock≠some gt:=by
  rcases rows_apart hrow' e1 (by decide) with h0|h0
  ·simp [Value.ownBlock] at h0
  ·simpa [Value.ownBlock] using fun e=>h0 (by simp [Value.ownBlock,e])
 refine ⟨us,ownsRow_setCell_other e1 hne _,by simpa using e2,fun i hi=>?_,fun i j hi hj hij=>e4 i j (by simpa using hi) (by simpa using hj) hij⟩
 have hi':i < m.length:=by simpa using hi
 by_cases hit:i=t.toNat
 ·subst hit
  rw [getD_set_same htl,rowVals_set,List.length_set,h8,hu]
  exact st
 ·rw [getD_set_other (fun e=>hit e.symm)]
  refine ownsRow_setCell_other (e3 i hi') ?_ _
  rcases e4 i t.toNat hi' htl hit with h0|h0
  ·rw [h0];simp
  ·rw [hu] at h0
   exact h0
def SetYes (m:List (List Int)) (t k n:Int) (w:World) (e:Ending) (w':World):Prop:=∃ v',e=.returned (.tuple #[v',.int .i64 0])∧OwnC w' w.heap.size v' (setC m t k n)∧Below w.heap.size w w'
set_option maxHeartbeats 1000000 in
theorem set_yes {v:Value} {m:List (List Int)} (t k n:Int) {w:World} (h:RowsR w v m) (hok:okC m=true) (h1:0≤t) (h2:t < 4) (h3:0≤k) (h4:k < 8) (h5:0≤n) (h6:n≤1073741824) :
  Calls Tryz.prog 152 #[v,.int .i64 t,.int .i64 k,.int .i64 n] w (SetYes m t k n w):=by
 have K:=asked_any t k h
 have e:askC m t k=0:=by simp [askC,hok,inTW,h1,h2,h3,h4]
 rw [e] at K
 have HK:=LH K
 have H0:=LH h
 have HOK:=LH hok
 obtain ⟨a,na,cap,rfl⟩:=h.shape
 clear K e hok h
 go_enter Tryz.func152,Tryz.ntmps152
 go_wp2_with fail
 refine HK.out.mono ?_
 rintro e w1 ⟨rfl,hb⟩
 go_wp2_with fail
 refine (twin_any (H0.out.below hb) (okC_few HOK.out)).mono ?_
 rintro e w2 ⟨v',rfl,hown,hb2⟩
 obtain ⟨g,cap',gt,rcap,rfl,c1,c2,c3,hbg,hst⟩:=own_cells hown HOK.out h1 h2 h3 h4
 obtain ⟨x,hx⟩:∃ x,x=getC m t k:=⟨_,rfl⟩
 rw [← hx] at c2
 have HX:=LH hx
 have HST:=LH hst
 have hbb:Below w.heap.size w w2:=hb.trans (hb2.mono hb.size)
 have hz:w.heap.size≤gt:=Nat.le_trans hb.size hbg
 clear hx hst hown
 have t1:(t:Int) < ((4:Nat):Int):=by omega
 have k1:(k:Int) < ((8:Nat):Int):=by omega
 by_cases hxn:x < n
 all_goals
  go_wp2_with fail
  refine wp_region_still_tail 15 (by kernel_rfl) (by kernel_rfl) ?_
  simp only [List.take_succ_cons,List.take_zero,List.drop_succ_cons,List.drop_zero]
  change wpStill _ _ (World.drew _) _ _ _
  repeat still_step
  refine wpStill_nil ?_
  change wpList _ _ _ _ _ (World.drew _)
  go_wp2_with fail
  go_ret2
  refine ⟨_,rfl,?_,(hbb.setCell (p:=⟨gt,k.toNat,none⟩) hz _).drew⟩
  have e:setC m t k n=m.set t.toNat ((m.getD t.toNat []).set k.toNat (max x n)):=by rw [HX.out];rfl
  rw [e]
  first
   |(rw [show max x n=n by omega];exact (HST.out n).drew.le hb.size)
   |(rw [show max x n=x by omega];exact (HST.out x).drew.le hb.size)
end Go.Proofs.YtdfmcgekfogpbabGreatDoor
namespace Go.Proofs.YtdfmcgekfogpbabGreatDoor
open Go.RowKit
def newC:List (List Int):=List.replicate 4 (List.replicate 8 0)
theorem rowVals_zero:(madeCells #[Value.int .i64 0] 8).toList=rowVals (List.replicate 8 0):=by
 simp [madeCells,rowVals,List.range_succ,Array.toList_range]
def NewEnd (w:World) (e:Ending) (w':World):Prop:=∃ v',e=.returned v'∧OwnC w' w.heap.size v' newC∧Below w.heap.size w w'
set_option maxHeartbeats 1000000 in
theorem comNew_any (w:World):Calls Tryz.prog 85 #[] w (NewEnd w):=by
 obtain ⟨i0,hi,hz0,hz1,hz2⟩:=info_parts info_row
 obtain ⟨i1,gi,gz0,gz1,gz2⟩:=info_parts info_intC
 obtain ⟨B,hB⟩:∃ B,B=w.heap.size:=⟨_,rfl⟩
 have HB:=LH hB
 clear hB
 go_enter Tryz.func85,Tryz.ntmps85
 go_wp2_with fail
 go_loopw [1,2] (fun o i wr=>∃ k:Nat,k≤4∧i=.int .i64 (k:Int)∧Hid (OwnC wr B o (List.replicate k (List.replicate 8 0)))∧Hid (Below B w wr)) (fun _ i _=>4 - (intOf i).toNat)
 case atStart=>exact ⟨0,Nat.zero_le _,rfl,OwnRows.nil _ _ _ _,Below.refl _ _⟩
 case round =>
  obtain ⟨k,hk,rfl,hown,hb⟩:=hrel
  by_cases hlt:k < 4
  ·have hk0:(0:Int)≤(k:Int):=by omega
   have hk1:(k:Int) < 4:=by omega
   have hbw:Below w.heap.size w wr:=by rw [← HB.out];exact hb.out
   have hBr:B≤wr.heap.size:=by rw [HB.out];exact hbw.size
   obtain ⟨us',h1,h2,h3,h4⟩:=hown.out
   have HO1:=LH h1
   have HO2:=LH h2
   have HO3:=LH h3
   have HO4:=LH h4
   have hul:us'.length≤4:=by
    rw [h2,List.length_replicate]
    omega
   clear hown h1 h2 h3 h4 hbw
   go_wp2_with (at_make;go_must (refine wpList_make_full _ rfl _ _ 34 rfl B 3 i1 (.int .i64 0) 1 Tryz.underlying34 gi gz0 gz1 .i64 .i64 _ _ 8 rfl rfl rfl rfl (by rw [gz2];omega) (by unfold maxLen;omega) hBr ?_))
   intro w1 hx hg1
   rw [rowVals_zero] at hx
   have hbr:=belowGrown hg1
   have HX2:=LH hx
   have HQ1:=LH (ownsRow_keep HO1.out hbr)
   have HQ3:=LH (fun i hi=>ownsRow_keep (HO3.out i hi) hbr)
   have HBR:=LH hbr
   clear hx hg1 hbr
   go_wp2_with (at_builtin;go_must (refine wpList_append_own _ rfl _ _ 31 rfl B 34 i0 (.slice none 0 0) 1 24 Tryz.underlying31 hi hz0 hz1 hz2 rfl (by decide) _ us'.length us' rfl (HQ1.out.alloc _) ⟨w1.heap.size,0,none⟩ 1 1 [.slice (some ⟨wr.heap.size,0,none⟩) 8 8] rfl rfl ?_ (by intro v hv;simp at hv;subst hv;rfl) (by unfold maxLen;omega) (by omega) (by have:=HBR.out.size;simp;omega) ?_))
   ·intro j v hv
    match j,hv with
    |0,hv=>simp at hv;subst hv;simp [Addr.add]
   ·intro v' w3 hown3 hgrow3 _
    have R:=OwnRows.snoc (te:=34) (ti:=3) (r:=List.replicate 8 0) (by decide) (HQ1.out.alloc (.cells #[.slice (some ⟨wr.heap.size,0,none⟩) 8 8] 34)) HO2.out (fun i hi=>(HQ3.out i hi).alloc _) HO4.out (HX2.out.alloc _) (fun i hi j hj=>by have:=((HO3.out i hi).lt j hj).2;simp only [Value.ownBlock,ne_eq,Option.some.injEq];omega) hown3 hgrow3
    have hb3:Below B w w3:=by
     refine Below.grown (hb.out.trans ((HBR.out.mono hBr).trans ((Below.refl _ _).alloc (by have:=HBR.out.size;omega) _))) hgrow3 (by have:=HBR.out.size;simp;omega) (fun j hj=>?_)
     exact (HQ1.out.lt j hj).1
    have HR3:=LH R
    have HB3:=LH hb3
    clear hown3 hgrow3 R hb3
    go_wp2_with fail
    go_roundw
    case rel =>
     refine ⟨k+1,by omega,by go_num,?_,HB3⟩
     show OwnC w3 B v' (List.replicate (k+1) (List.replicate 8 0))
     rw [List.replicate_succ']
     exact HR3.out
    case measure=>simp [intOf];omega
  ·obtain rfl:k=4:=by omega
   go_wp2_with fail
   go_ret
   refine ⟨_,rfl,?_,?_⟩
   ·have h1:=hown.out
    rw [HB.out] at h1
    exact h1
   ·rw [← HB.out];exact hb.out
theorem okC_new:okC newC=true:=by decide
end Go.Proofs.YtdfmcgekfogpbabGreatDoor
set_option maxRecDepth 100000
namespace Go.Proofs.YtdfmcgekfogpbabGreatDoor
open Go.RowKit
theorem okC_mk {m:List (List Int)} (h:m.length=4) (hr:∀ r∈m,r.length=8∧∀ x∈r,0≤x∧x≤1073741824):okC m=true:=by
 simp only [okC,Bool.and_eq_true,decide_eq_true_eq,Bool.not_eq_true']
 refine ⟨h,List.any_eq_false.2 fun r hr'=>?_⟩
 obtain ⟨h8,hx⟩:=hr r hr'
 simp only [rowBad,Bool.or_eq_true,decide_eq_true_eq,not_or,Bool.not_eq_true]
 refine ⟨by omega,List.any_eq_false.2 fun x hx'=>?_⟩
 have:=hx x hx'
 simp only [badI,Bool.or_eq_true,decide_eq_true_eq,not_or]
 omega
theorem row_mem {m:List (List Int)} {t:Nat} (h:t < m.length):m.getD t []∈m:=by
 have e:m.getD t []=m[t]:=by simp [List.getD,h]
 rw [e];exact List.getElem_mem _
theorem num_mem {r:List Int} {k:Nat} (h:k < r.length):r.getD k 0∈r:=by
 have e:r.getD k 0=r[k]:=by simp [List.getD,h]
 rw [e];exact List.getElem_mem _
theorem getC_bd {m:List (List Int)} (hok:okC m=true) {t k:Int} (h1:0≤t) (h2:t < 4) (h3:0≤k) (h4:k < 8):0≤getC m t k∧getC m t k≤1073741824:=by
 obtain ⟨hl,hr⟩:=okC_spec hok
 have h5:=hr _ (row_mem (t:=t.toNat) (by omega))
 exact h5.2 _ (num_mem (by omega))
theorem okC_set {m:List (List Int)} (hok:okC m=true) {t k n:Int} (h1:0≤t) (h2:t < 4) (h3:0≤k) (h4:k < 8) (h5:0≤n) (h6:n≤1073741824):okC (setC m t k n)=true:=by
 have hb:=getC_bd hok h1 h2 h3 h4
 obtain ⟨hl,hr⟩:=okC_spec hok
 have h8:=hr _ (row_mem (t:=t.toNat) (by omega))
 refine okC_mk (by simp [setC,hl]) (fun r hr'=>?_)
 rcases List.mem_or_eq_of_mem_set hr' with h|h
 ·exact hr r h
 ·subst h
  refine ⟨by rw [List.length_set];exact h8.1,fun x hx=>?_⟩
  rcases List.mem_or_eq_of_mem_set hx with h|h
  ·exact h8.2 x h
  ·omega
theorem getC_set {m:List (List Int)} (hok:okC m=true) {t k n t' k':Int} (h1:0≤t) (h2:t < 4) (h3:0≤k) (h4:k < 8) (h1':0≤t') (h3':0≤k') :
  getC (setC m t k n) t' k'=if t'=t∧k'=k then max (getC m t k) n else getC m t' k':=by
 obtain ⟨hl,hr⟩:=okC_spec hok
 have h8:=(hr _ (row_mem (t:=t.toNat) (by omega))).1
 unfold setC
 by_cases ht:t'=t
 ·subst ht
  by_cases hk:k'=k
  ·subst hk
   rw [if_pos ⟨rfl,rfl⟩]
   generalize hx:max (getC m t' k') n=x
   unfold getC
   rw [getD_set_same (by omega),getD_set_same (by omega)]
  ·rw [if_neg (fun h=>hk h.2)]
   generalize hx:max (getC m t' k) n=x
   unfold getC
   rw [getD_set_same (by omega),getD_set_other (by omega)]
 ·rw [if_neg (fun h=>ht h.1)]
  generalize hx:max (getC m t k) n=x
  unfold getC
  rw [getD_set_other (by omega)]
theorem askC_yes {m:List (List Int)} (hok:okC m=true) {t k:Int} (h1:0≤t) (h2:t < 4) (h3:0≤k) (h4:k < 8):askC m t k=0:=by
 simp [askC,hok,inTW,h1,h2,h3,h4]
end Go.Proofs.YtdfmcgekfogpbabGreatDoor
namespace Go.Proofs.YtdfmcgekfogpbabGreatDoor
open Go.RowKit
set_option maxRecDepth 100000 in
theorem new_any (w:World):Calls Tryz.prog 86 #[] w fun e w'=>e=.returned (.agg #[.int .i64 0,.int .i64 0,.int .i64 0,.slice none 0 0])∧Below w.heap.size w w':=by
 go_enter Tryz.func86,Tryz.ntmps86
 go_wp2_with fail
 refine bodyPost_ret (v:=.agg #[.int .i64 0,.int .i64 0,.int .i64 0,.slice none 0 0]) (by simp [results,Tryz.results86,go_sem]) rfl ⟨rfl,?_⟩
 repeat (first|with_reducible (first|exact Below.refl _ _|apply Below.drew|apply below_alloc)|((first|with_reducible refine Below.alloc ?_ ?_ _|with_reducible refine Below.setCell ?_ ?_ _);rotate_left;focus (first|(simp <;> omega)|omega)))
end Go.Proofs.YtdfmcgekfogpbabGreatDoor
