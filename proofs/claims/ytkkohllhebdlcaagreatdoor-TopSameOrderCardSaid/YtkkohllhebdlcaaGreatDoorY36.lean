/-
  Proved here: slices.Grow (of nothing) and slices.Concat at rows of given times. Con
-/
import Derived.Test.YtkkohllhebdlcaaGreatDoorY35
import Derived.Lib.AppendZeros
set_option maxRecDepth 100000
namespace Go.Proofs.YtkkohllhebdlcaaGreatDoor
open Go.RowKit
theorem info_gvc:(Tryz.prog.info? 95).map (fun i=>(i.zero,i.size,i.bytes))=some (some (.agg #[.int .i64 0,.int .i64 0,.slice none 0 0,.int .i64 0,.string ByteArray.empty,.string ByteArray.empty]),6,80):=by kernel_rfl
theorem gvCs_one {pl:List (Value × Gv)} (h:∀ p∈pl,∃ a n c,p.1=.slice a n c):∀ v∈pl.flatMap gvCs,v.oneCell'=true:=by
 intro v hv
 obtain ⟨p,hp,hv⟩:=List.mem_flatMap.1 hv
 obtain ⟨a,n,c,e⟩:=h p hp
 simp only [gvCs,e,List.mem_cons,List.not_mem_nil,or_false] at hv
 rcases hv with rfl|rfl|rfl|rfl|rfl|rfl <;> rfl
set_option maxHeartbeats 4000000 in
set_option maxRecDepth 100000 in
theorem growG_any (n:Nat) (hn:n≤100000) (w:World) :
  Calls Tryz.prog 50 #[.slice none 0 0,.int .i64 (n:Int)] w fun e w'=>∃ a cap,e=.returned (.slice a 0 cap)∧w'.ownsRow w.heap.size 95 6 (.slice a 0 cap) 0 []∧Below w.heap.size w w':=by
 obtain ⟨i0,hi,hz0,hz1,hz2⟩:=info_parts info_gvc
 have h1:¬ ((n:Int) < 0):=by omega
 have h2:wrap64 ((0:Int) - 0)=0:=by unfold wrap64;omega
 have h2b:IntKind.i64.wrap ((0:Int) - 0)=0:=by rw [IntKind.wrap_i64];omega
 have h3:wrap64 ((n:Int) - 0)=(n:Int):=by unfold wrap64;omega
 have h3b:IntKind.i64.wrap ((n:Int) - 0)=(n:Int):=by rw [IntKind.wrap_i64];omega
 rcases Nat.eq_zero_or_pos n with h0|h0
 ·have h4:¬ ((n:Int) > 0):=by omega
  go_enter Tryz.func50,Tryz.ntmps50
  go_wp2_with fail
  go_ret
  exact ⟨none,0,rfl,World.ownsRow_nil _ _ _ _,Below.refl _ _⟩
 ·have h4:(n:Int) > 0:=by omega
  obtain ⟨z,hzz⟩:∃ z:Value,z=.agg #[.int .i64 0,.int .i64 0,.slice none 0 0,.int .i64 0,.string ByteArray.empty,.string ByteArray.empty]:=⟨_,rfl⟩
  rw [← hzz] at hz0
  have hzs:z.cells.size=6:=by rw [hzz];rfl
  have hGn:n≤grownCap w n 0 95:=grownCap_ge w _ _ _
  have hG63:=grownCap_le_maxLen w n 0 95 (by unfold maxLen;omega)
  obtain ⟨G,hG⟩:∃ G,G=grownCap w n 0 95:=⟨_,rfl⟩
  obtain ⟨R,hR⟩:∃ R:Array Value,R=Builtin.zeroCells z.cells n++Builtin.zeroCells z.cells (G - n):=⟨_,rfl⟩
  have hrz:Hid (∀ ty,(Builtin.append_ #[89,3] ty #[.slice none 0 0,.int .i64 (n:Int)]).run Tryz.prog w=.ok (.slice (some ⟨w.heap.size,0,none⟩) n G) (w.drew.alloc (.cells R 95))):=fun ty=>by
   have h:=Lib.run_append_nil_zeros w 89 3 ty 95 i0 z .i64 .i64 Tryz.underlying89 Tryz.underlying3 hi hz0 n h0 (by omega) (by omega) (by rw [hz2];omega)
   rw [← hG,← hR] at h
   exact h
  have hRl:R.size=G * 6:=by
   rw [hR]
   simp only [Array.size_append,Builtin.zeroCells,hzs,Array.size_map,Array.size_range]
   rw [← hG] at hGn
   omega
  rw [← hG] at hGn hG63
  have HRL:=LH hRl
  have hG':(G:Int)≤9223372036854775807:=by unfold maxLen at hG63;omega
  have hG63':=LH hG63
  clear hG hR hzz hzs hz0 hz1 hz2 hi hRl hG63
  go_enter Tryz.func50,Tryz.ntmps50
  go_wp2_with (at_builtin;refine Lib.wpList_append_run _ rfl _ _ _ _ rfl _ _ rfl rfl _ _ (hrz.out _) ?_)
  go_ret
  refine ⟨_,G,rfl,⟨rfl,Or.inr ⟨w.heap.size,G,R,rfl,Nat.le_refl _,?_,Nat.zero_le _,hG63'.out,HRL.out,by simp⟩⟩,(Below.refl _ _).drew.alloc (Nat.le_refl _) _⟩
  show (w.heap.push _)[w.heap.size]?=_
  simp
theorem small_wrap {x:Int} (h0:0≤x) (h1:x≤1000000):wrap64 x=x∧IntKind.i64.wrap x=x:=⟨by unfold wrap64;omega,by rw [IntKind.wrap_i64];omega⟩
theorem z_next {z m k:Nat} (hz:z≤200 * k) (ul:m≤200):z+m≤200 * (k+1):=by omega
theorem TabR.pieces {w:World} {v:Value} {t:List (List Gv)} (h:TabR w v t):∃ us:List (Value × List (Value × Gv)),us.map (fun u=>u.2.map (·.2))=t∧SliceR w v 1 (fun u=>[u.1]) us∧∀ u∈us,SliceR w u.1 6 gvCs u.2∧∀ p∈u.2,IntsR w p.1 p.2.2.groups:=by
 obtain ⟨vs,rfl,h2,h3⟩:=h
 have hex:∀ vs:List (Value × List Gv),(∀ p∈vs,GivR w p.1 p.2)→∃ us:List (Value × List (Value × Gv)),us.map (fun u=>(u.1,u.2.map (·.2)))=vs∧∀ u∈us,SliceR w u.1 6 gvCs u.2∧∀ p∈u.2,IntsR w p.1 p.2.2.groups:=by
  intro vs
  induction vs with
  |nil=>exact fun _=>⟨[],rfl,fun _ h=>by cases h⟩
  |cons p vs ih =>
   intro hp
   obtain ⟨us,e1,e2⟩:=ih fun q hq=>hp q (List.mem_cons_of_mem _ hq)
   obtain ⟨pl,f1,f2,f3⟩:=hp p (List.mem_cons_self ..)
   refine ⟨(p.1,pl) :: us,by rw [List.map_cons,e1,f1],fun u hu=>?_⟩
   rcases List.mem_cons.1 hu with rfl|hu
   ·exact ⟨f2,f3⟩
   ·exact e2 u hu
 obtain ⟨us,rfl,e2⟩:=hex vs h3
 refine ⟨us,by rw [List.map_map];rfl,?_,e2⟩
 obtain ⟨a,cap,g1,g2,g3,g4,g5⟩:=h2
 rw [List.length_map] at g1 g2
 refine ⟨a,cap,g1,g2,g3,g4,fun hp=>?_⟩
 obtain ⟨b,off,k1,k2⟩:=g5 (by rw [List.length_map];exact hp)
 exact ⟨b,off,k1,fun i hi j hj=>by
  have:=k2 i (by rw [List.length_map];exact hi) j hj
  rwa [List.getElem_map] at this⟩
set_option maxHeartbeats 8000000 in
set_option maxRecDepth 100000 in
theorem concat_any {w:World} {v:Value} {t:List (List Gv)} (h:TabR w v t) (h4:t.length≤4) (hl:∀ l∈t,l.length≤200) :
  Calls Tryz.prog 27 #[v] w fun e w'=>∃ a cap,e=.returned (.slice a t.flatten.length cap)∧GivR w' (.slice a t.flatten.length cap) t.flatten∧Below w.heap.size w w'∧t.flatten.length≤800:=by
 obtain ⟨i0,hi,hz0,hz1,hz2⟩:=info_parts info_gvc
 obtain ⟨us,rfl,⟨a,cap,rfl,hcap,hmax,-,hd⟩,hin⟩:=h.pieces
 clear h
 rw [List.length_map] at h4
 have hl2:∀ u∈us,u.2.length≤200:=fun u hu=>by
  have:=hl _ (List.mem_map.2 ⟨u,hu,rfl⟩)
  rwa [List.length_map] at this
 obtain ⟨F,hF⟩:∃ F,F=(us.map (fun u=>u.2.map (·.2))).flatten:=⟨_,rfl⟩
 rw [← hF]
 obtain ⟨fn,hfn⟩:∃ fn,fn=F.length:=⟨_,rfl⟩
 rw [← hfn]
 have HF:=LH hF
 have HFN:=LH hfn
 have HD:=LH hd
 have HIN:=LH hin
 have HL:=LH hl2
 obtain ⟨n,hn⟩:∃ n,n=us.length:=⟨_,rfl⟩
 rw [← hn] at hcap h4 ⊢
 have HN:=LH hn
 clear hd hin hl hl2 hn hF hfn
 unfold maxLen at hmax
 go_enter Tryz.func27,Tryz.ntmps27
 go_wp2_with fail
 go_loopg [3,5,11] n (fun gh zv _ iv wr=>∃ (k z:Nat),k≤n∧gh=n - k∧iv=.int .i64 (k:Int)∧zv=.int .i64 (z:Int)∧z≤200 * k∧Hid (w=wr))
 case atStart=>exact ⟨0,0,Nat.zero_le _,rfl,rfl,rfl,Nat.le_refl _,rfl⟩
 case round =>
  obtain ⟨k,z,hk,rfl,rfl,rfl,hz,hw⟩:=hrel
  obtain rfl:w=wr:=hw
  by_cases hlt:k < n
  ·have hk0:(0:Int)≤(k:Int):=by omega
   have hk1:(k:Int) < (n:Int):=by omega
   have hkl:k < us.length:=by rw [← HN.out];exact hlt
   obtain ⟨b,off,rfl,hat⟩:=HD.out (by rw [← HN.out];omega)
   have c0:=hat k hkl 0 (by omega)
   obtain ⟨⟨ua,uc,ue,uc1,uc2,_,_⟩,_⟩:=HIN.out us[k] (List.getElem_mem hkl)
   have ul:=HL.out us[k] (List.getElem_mem hkl)
   obtain ⟨u,hu⟩:∃ u,u=us[k]:=⟨_,rfl⟩
   rw [← hu] at c0 ue uc1 ul
   obtain ⟨u1,u2⟩:=u
   simp only [Nat.mul_one,Nat.add_zero] at c0 ue uc1 ul
   subst ue
   obtain ⟨m,hm⟩:∃ m,m=u2.length:=⟨_,rfl⟩
   rw [← hm] at c0 ul uc1
   have c0':w.cell? ⟨b,off+k,none⟩=some (.slice ua m uc):=c0
   have e0:(z:Int)+(m:Int)≤1000000:=by omega
   have e1:¬ ((z:Int)+(m:Int) < 0):=by omega
   obtain ⟨e2,e2b⟩:=small_wrap (x:=(z:Int)+(m:Int)) (by omega) e0
   clear e0
   have hmi:(m:Int)≤9223372036854775807:=by omega
   clear hat hu hm c0
   go_wp2_with fail
   go_roundg (n - (k+1))
   case measure=>omega
   case rel=>exact ⟨k+1,z+m,by omega,rfl,by go_num,by first|exact congrArg (Value.int .i64) (Int.natCast_add z m).symm|go_num,z_next hz ul,rfl⟩
  ·obtain rfl:k=n:=by omega
   have hlt':¬ (k:Int) < (k:Int):=by omega
   have KG:=LH (growG_any z (by omega) w)
   go_wp2_with fail
   refine KG.out.mono ?_
   rintro e w1 ⟨ga,gc,rfl,hown,hb⟩
   have HOW:=LH hown
   have HB:=LH hb
   clear hown hb KG hlt'
   have hkk:(k:Int)≤9223372036854775807:=by omega
   go_wp2_with fail
   go_loopg [6,8,27] k (fun gh rv _ iv wr=>∃ (j q:Nat) (pl:List (Value × Gv)) (ra:Option Addr) (rc:Nat),j≤k∧gh=k - j∧iv=.int .i64 (j:Int)∧rv=.slice ra q rc∧q≤200 * j∧Hid (pl=(us.take j).flatMap (·.2))∧Hid (q=pl.length)∧Hid (wr.ownsRow w.heap.size 95 6 (.slice ra q rc) q (pl.flatMap gvCs))∧Hid (Below w.heap.size w wr))
   case atStart=>exact ⟨0,0,[],ga,gc,Nat.zero_le _,rfl,rfl,rfl,Nat.le_refl _,rfl,rfl,HOW,HB⟩
   case round =>
    clear HOW HB
    obtain ⟨j,q,pl,ra,rc,hj,rfl,rfl,rfl,hq,HPL,HQ,HO,HB⟩:=hrel
    by_cases hjlt:j < k
    ·have hk0:(0:Int)≤(j:Int):=by omega
     have hk1:(j:Int) < (k:Int):=by omega
     have hkl:j < us.length:=by rw [← HN.out];exact hjlt
     obtain ⟨b,off,rfl,hat⟩:=HD.out (by rw [← HN.out];omega)
     have c0:=hat j hkl 0 (by omega)
     have hsl:=HIN.out us[j] (List.getElem_mem hkl)
     have ul:=HL.out us[j] (List.getElem_mem hkl)
     have htk:us.take (j+1)=us.take j++[us[j]]:=by rw [List.take_succ_eq_append_getElem hkl]
     obtain ⟨u,hu⟩:∃ u,u=us[j]:=⟨_,rfl⟩
     rw [← hu] at c0 hsl ul htk
     obtain ⟨u1,u2⟩:=u
     simp only [Nat.mul_one,Nat.add_zero] at c0 hsl ul
     obtain ⟨h6,hgi⟩:=hsl
     have h6w:=h6.below gvCs_len HB.out
     obtain ⟨ua,uc,ue,uc1,uc2,uc3,uc5⟩:=id h6w
     subst ue
     have HNW:Hid (∀ ad,ua=some ad→∀ i u,(u2.flatMap gvCs)[i]?=some u→wr.cell? (ad.add i)=some u):=LH (fun ad ha=>by
      intro i u hiu
      have hp:0 < u2.length:=by
       rcases Nat.eq_zero_or_pos u2.length with h0|h0
       ·rw [List.eq_nil_of_length_eq_zero h0] at hiu
        cases hiu
       ·exact h0
      obtain ⟨b',off',e1,_⟩:=uc5 hp
      obtain rfl:ad=⟨b',off',none⟩:=Option.some.inj (ha.symm.trans e1)
      subst ha
      exact SliceR.flat h6w gvCs_len (by decide) i u hiu)
     have HNN:Hid (ua=none→u2.length=0∧uc=0):=LH (fun ha=>by have:=uc3 ha;omega)
     have HON:=LH (gvCs_one (pl:=u2) (fun p hp=>by obtain ⟨a,c,e,_⟩:=hgi p hp;exact ⟨a,_,c,e⟩))
     have HFL:=LH (flat_length gvCs_len u2)
     have c0':wr.cell? ⟨b,off+j,none⟩=some (.slice ua u2.length uc):=keep HB.out c0
     have HTK:=LH htk
     obtain ⟨m,hm⟩:∃ m,m=u2.length:=⟨_,rfl⟩
     have HM:=LH hm
     rw [← hm] at c0' ul uc1 HNN HFL
     have m1:q+m≤maxLen:=by unfold maxLen;omega
     have m2:(q+m) * 80≤140737488355328:=by omega
     have m3:w.heap.size≤wr.heap.size:=HB.out.size
     clear hat hu hm c0 h6 h6w hgi uc3 uc5 htk
     go_wp2_with (at_builtin;refine wpList_append_own_any wr rfl _ _ 89 rfl w.heap.size 95 i0 _ 6 80 Tryz.underlying89 hi hz0 hz1 hz2 rfl (by decide) _ q _ rfl HO.out ua m uc (u2.flatMap gvCs) rfl HFL.out HNN.out HNW.out HON.out m1 m2 m3 ?_)
     intro v7 w7 hown hgrow
     obtain ⟨a7,c7,rfl⟩:=row_shape hown
     have HB7:Hid (Below w.heap.size w w7):=LH (grown_below HB.out hgrow HB.out.size (fun i hi=>(HO.out.lt i hi).1))
     have HO7:Hid (w7.ownsRow w.heap.size 95 6 (.slice a7 (q+m) c7) (q+m) ((pl++u2).flatMap gvCs)):=LH (by rw [List.flatMap_append];exact hown)
     clear hown hgrow HO HB
     go_wp2_with fail
     go_roundg (k - (j+1))
     case measure=>omega
     case rel =>
      refine ⟨j+1,q+m,pl++u2,a7,c7,by omega,rfl,by go_num,rfl,z_next hq ul,?_,?_,HO7,HB7⟩
      ·refine LH ?_
       rw [HTK.out,List.flatMap_append,HPL.out]
       simp
      ·refine LH ?_
       rw [List.length_append,HQ.out,HM.out]
    ·obtain rfl:j=k:=by omega
     have hlt':¬ (j:Int) < (j:Int):=by omega
     have hpl:pl=us.flatMap (·.2):=by
      rw [HPL.out,List.take_of_length_le (by rw [← HN.out];exact Nat.le_refl _)]
     have hfl:F=pl.map (·.2):=by
      rw [HF.out,hpl,List.map_flatMap,List.flatMap]
     have hlen:fn=q:=by rw [HFN.out,hfl,List.length_map,HQ.out]
     have HFL:=LH hfl
     have HPL2:=LH hpl
     subst hlen
     clear hpl hfl
     go_wp2_with fail
     go_ret
     refine ⟨ra,rc,rfl,⟨pl,HFL.out.symm,?_,fun p hp=>?_⟩,HB.out,by omega⟩
     ·have:=HO.out
      rw [HQ.out] at this ⊢
      exact sliceR_of_owns gvCs_len this
     ·rw [HPL2.out] at hp
      obtain ⟨u,hu,hpu⟩:=List.mem_flatMap.1 hp
      exact ((HIN.out u hu).2 p hpu).below HB.out
end Go.Proofs.YtkkohllhebdlcaaGreatDoor
