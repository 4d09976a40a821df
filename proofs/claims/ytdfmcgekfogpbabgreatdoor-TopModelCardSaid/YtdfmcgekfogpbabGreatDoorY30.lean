/-
  Proved here: num.put, Put, Text, Ints at small numbers. Conditions: the numbers are stream.Put. command's reader: one kind of commands. No condition but the kind.
-/
import Derived.Test.YtdfmcgekfogpbabGreatDoorY18
import Derived.Test.YtdfmcgekfogpbabGreatDoorY24
import Derived.Test.YtdfmcgekfogpbabGreatDoorY25
import Derived.Test.YtdfmcgekfogpbabGreatDoorY26
import Derived.Lib.AppendStr
set_option maxRecDepth 100000
namespace Go.Proofs.YtdfmcgekfogpbabGreatDoor
open Go.RowKit
def byteVs (l:List Int):List Value:=l.map fun x=>.int .u8 x
def OwnB (w:World) (B:Nat) (v:Value) (l:List Int):Prop:=w.ownsRow B 5 1 v l.length (byteVs l)
theorem info_u8:(Tryz.prog.info? 5).map (fun i=>(i.zero,i.size,i.bytes))=some (some (.int .u8 0),1,1):=by kernel_rfl
theorem byteVs_one (l:List Int):∀ v∈byteVs l,v.oneCell'=true:=by
 intro v hv
 obtain ⟨x,_,rfl⟩:=List.mem_map.1 hv
 rfl
def PutEndB (B:Nat) (w0:World) (l:List Int) (e:Ending) (w':World):Prop:=∃ a n cap,e=.returned (.slice a n cap)∧n=l.length∧OwnB w' B (.slice a n cap) l∧Below w0.heap.size w0 w'
set_option maxHeartbeats 1000000 in
set_option maxRecDepth 100000 in
theorem putB_any {w0 w:World} {a:Option Addr} {k cap:Nat} {l:List Int} {n:Int} (h0:Below w0.heap.size w0 w) (h:OwnB w w0.heap.size (.slice a k cap) l) (hk:k=l.length) (n0:0≤n) (n1:n≤127) (hl:k≤1000) :
  Calls Tryz.prog 151 #[.slice a k cap,.int .i64 n] w (PutEndB w0.heap.size w0 (l++[n])):=by
 obtain ⟨i0,hi,hz0,hz1,hz2⟩:=info_parts info_u8
 have HB:=LH h0
 have hrow:w.ownsRow w0.heap.size 5 1 (.slice a k cap) k (byteVs l):=by rw [hk];rw [hk] at h;exact h
 have HO:=LH hrow
 have HK:=LH hk
 have hwr:IntKind.u8.wrap n=n:=by rw [IntKind.wrap_u8];omega
 have hn1:¬ (127:Int) < n:=by omega
 clear h0 h hrow hk
 go_enter Tryz.func151,Tryz.ntmps151
 go_wp2_with fail
 refine wp_loop_rounds 1 ?_
 rw [rounds_succ]
 go_wp2_with (at_builtin;refine wpList_append_own _ rfl _ _ 132 rfl w0.heap.size 5 i0 _ 1 1 Tryz.underlying132 hi hz0 hz1 hz2 rfl (by decide) _ k _ rfl (HO.out.alloc _) ⟨w.heap.size,0,none⟩ 1 1 [.int .u8 n] rfl rfl (news_new _ _ _) (by simp [Value.oneCell']) (by unfold maxLen;omega) (by omega) (by have:=HB.out.size;simp;omega) ?_)
 intro v' w' hown hgrow _
 obtain ⟨a',c',rfl⟩:=row_shape hown
 have HO2:=LH hown
 have HB2:Hid (Below w0.heap.size w0 w'):=LH ((HB.out.alloc HB.out.size _).grown hgrow (by have:=HB.out.size;simp;omega) (fun j hj=>(HO.out.lt j hj).1))
 clear hown hgrow
 go_wp2_with fail
 go_ret
 refine ⟨a',k+1,c',rfl,by rw [List.length_append,← HK.out];rfl,?_,HB2.out⟩
 unfold OwnB
 rw [List.length_append,← HK.out]
 have:=HO2.out
 simpa [byteVs] using this
theorem OwnB.nil (w:World) (B:Nat):OwnB w B (.slice none 0 0) []:=World.ownsRow_nil _ _ _ _
theorem inN_yes {n:Int} (n0:0≤n) (n1:n≤127):inN n=true:=by
 unfold inN
 simp
 omega
def PutEnd2 (w:World) (l:List Int) (e:Ending) (w':World):Prop:=∃ a n cap,e=.returned (.tuple #[.slice a n cap,.int .i64 0])∧n=l.length∧OwnB w' w.heap.size (.slice a n cap) l∧Below w.heap.size w w'
set_option maxHeartbeats 1000000 in
set_option maxRecDepth 100000 in
theorem numPut_any {w:World} {n:Int} (n0:0≤n) (n1:n≤127):Calls Tryz.prog 120 #[.int .i64 n] w (PutEnd2 w [n]):=by
 have KI:Hid (∀ W,Calls Tryz.prog 150 #[.int .i64 n] W fun e w'=>e=.returned (.bool true)∧W=w'):=fun W=>by
  have h:=inN_any n W
  rw [inN_yes n0 n1] at h
  exact h
 have KP:Hid (∀ W,Calls Tryz.prog 151 #[.slice none 0 0,.int .i64 n] W (PutEndB W.heap.size W [n])):=fun W=>putB_any (Below.refl _ _) (OwnB.nil _ _) rfl n0 n1 (by omega)
 clear n0 n1
 go_enter Tryz.func120,Tryz.ntmps120
 go_wp2_with fail
 refine (KI.out _).mono ?_
 rintro e w1 ⟨rfl,rfl⟩
 go_wp2_with fail
 refine (KP.out _).mono ?_
 rintro e w1 ⟨a,k,cap,rfl,hk,ho,hb⟩
 have HE:=LH (show k=[n].length∧OwnB w1 w.heap.size (.slice a k cap) [n]∧Below w.heap.size w w1 from ⟨hk,ho,hb⟩)
 clear hk ho hb
 go_wp2_with fail
 exact bodyPost_ret (v:=.tuple #[.slice a k cap,.int .i64 0]) (by simp [results,Tryz.results120,go_sem]) rfl ⟨a,k,cap,rfl,HE.out.1,HE.out.2.1,HE.out.2.2⟩
theorem strCells_bytes (s:ByteArray):Lib.strCells s=byteVs (s.data.toList.map fun b=>(b.toNat:Int)):=by
 simp [Lib.strCells,byteVs]
set_option maxHeartbeats 1000000 in
set_option maxRecDepth 100000 in
theorem numText_any {w:World} {s:ByteArray} (hs:s.size≤127):Calls Tryz.prog 124 #[.string s] w (PutEnd2 w ((s.size:Int) :: s.data.toList.map fun b=>(b.toNat:Int))):=by
 obtain ⟨i0,hi,hz0,hz1,hz2⟩:=info_parts info_u8
 have KP:Hid (∀ W,Calls Tryz.prog 151 #[.slice none 0 0,.int .i64 (s.size:Int)] W (PutEndB W.heap.size W [(s.size:Int)])):=fun W=>putB_any (Below.refl _ _) (OwnB.nil _ _) rfl (by omega) (by omega) (by omega)
 have HS:=LH hs
 have h1:¬ (4096:Int) < (s.size:Int):=by omega
 clear hs
 go_enter Tryz.func124,Tryz.ntmps124
 go_wp2_with fail
 refine (KP.out _).mono ?_
 rintro e w1 ⟨a,k,cap,rfl,hk,ho,hb⟩
 subst hk
 have HO:Hid (w1.ownsRow w.heap.size 5 1 (.slice a 1 cap) 1 (byteVs [(s.size:Int)])):=LH ho
 have HB:=LH hb
 clear ho hb
 go_wp2_with (at_builtin;refine Lib.wpList_append_own_string (w:=w1) rfl _ _ 132 9 rfl w.heap.size 5 i0 Tryz.underlying132 Tryz.underlying9 hi hz0 hz1 hz2 _ 1 _ rfl HO.out s rfl (by have:=HS.out;unfold maxLen;omega) (by have:=HS.out;omega) HB.out.size ?_)
 intro v' w' hown hgrow _
 obtain ⟨a',c',rfl⟩:=row_shape hown
 have HO2:=LH hown
 have HB2:Hid (Below w.heap.size w w'):=LH (HB.out.grown hgrow HB.out.size (fun j hj=>(HO.out.lt j hj).1))
 clear hown hgrow
 go_wp2_with fail
 refine bodyPost_ret (v:=.tuple #[.slice a' (1+s.size) c',.int .i64 0]) (by simp [results,Tryz.results124,go_sem]) rfl ⟨a',1+s.size,c',rfl,?_,?_,HB2.out⟩
 ·simp
  omega
 ·have h:=HO2.out
  rw [strCells_bytes] at h
  unfold OwnB
  have e:((s.size:Int) :: s.data.toList.map fun b=>(b.toNat:Int)).length=1+s.size:=by simp;omega
  rw [e]
  simpa [byteVs] using h
set_option maxHeartbeats 1000000 in
set_option maxRecDepth 100000 in
theorem numInts_one {w:World} {v:Value} {n:Int} (h:IntsR w v [n]) (n0:0≤n) (n1:n≤127):Calls Tryz.prog 122 #[v] w (PutEnd2 w [1,n]):=by
 obtain ⟨a,cap,rfl,_,_,_,hd⟩:=h.shape
 obtain ⟨b,off,rfl,hat⟩:=hd (by simp)
 have x0:=hat 0 (by simp)
 rw [show [n].getD 0 0=n from rfl,Nat.add_zero] at x0
 have KI:Hid (∀ W,Calls Tryz.prog 150 #[.int .i64 n] W fun e w'=>e=.returned (.bool true)∧W=w'):=fun W=>by
  have h:=inN_any n W
  rw [inN_yes n0 n1] at h
  exact h
 have KP:Hid (∀ W,Calls Tryz.prog 151 #[.slice none 0 0,.int .i64 1] W (PutEndB W.heap.size W [1])):=fun W=>putB_any (Below.refl _ _) (OwnB.nil _ _) rfl (by omega) (by omega) (by omega)
 have KQ:Hid (∀ W a k cap,Below w.heap.size w W→OwnB W w.heap.size (.slice a k cap) [1]→k=1→Calls Tryz.prog 151 #[.slice a k cap,.int .i64 n] W (PutEndB w.heap.size w [1,n])):=fun W a k cap h1 h2 h3=>putB_any (l:=[1]) h1 h2 h3 n0 n1 (by omega)
 have bl:=World.block_lt_of_cell? w _ x0
 have X0:=LH x0
 clear h n0 n1 hd hat
 simp only [List.length_cons,List.length_nil,Nat.zero_add]
 go_enter Tryz.func122,Tryz.ntmps122
 go_wp2_with fail
 refine (KP.out _).mono ?_
 rintro e w1 ⟨a1,k1,c1,rfl,hk,ho,hb⟩
 obtain rfl:k1=1:=hk
 have HO:=LH ho
 have HB:=LH hb
 have x1:=keep hb X0.out
 clear ho hb
 go_wp2_with fail
 refine wp_loop_rounds 2 ?_
 rw [rounds_succ]
 go_wp2_with fail
 refine (KI.out _).mono ?_
 rintro e w2 ⟨rfl,rfl⟩
 go_wp2_with fail
 refine (KQ.out _ _ _ _ HB.out HO.out rfl).mono ?_
 rintro e w2 ⟨a2,k2,c2,rfl,hk,ho,hb⟩
 obtain rfl:k2=2:=hk
 have HO2:=LH ho
 have HB2:=LH hb
 clear ho hb
 go_wp2_with fail
 rw [rounds_succ]
 go_wp2_with fail
 exact bodyPost_ret (v:=.tuple #[.slice a2 2 c2,.int .i64 0]) (by simp [results,Tryz.results122,go_sem]) rfl ⟨a2,2,c2,rfl,rfl,HO2.out,HB2.out⟩
end Go.Proofs.YtdfmcgekfogpbabGreatDoor
set_option maxRecDepth 100000
namespace Go.Proofs.YtdfmcgekfogpbabGreatDoor
open Go.RowKit
set_option maxHeartbeats 8000000 in
set_option maxRecDepth 100000 in
theorem strPut_any {v:Value} {s u:Str} {w:World} {n x:Int} {ga:Option Addr} {gn gc:Nat} (id topic:Int) (k b:ByteArray) (h:StrR w v s) (hk:strKeys s) (hu:putS s id topic k b=(u,n,x)) :
  Calls Tryz.prog 88 #[v,.agg #[.int .i64 id,.slice ga gn gc,.int .i64 topic,.string k,.string b]] w (PutEnd u n x w):=by
 have HS:=LH h
 have HK:=LH hk
 obtain ⟨a,cap,bb,nc,cc,rfl,hT,-⟩:=h.shape
 by_cases ha:askS s topic=0
 ·rw [putS,if_pos ha] at hu
  have HA:=LH ha
  obtain ⟨hm,h0,h1⟩:=askS_zero.1 ha
  have h4:=hm.1.1
  have HF:=LH (few_of_may hm)
  have HKT:=LH (hk _ (topN_mem hm h0 h1))
  obtain ⟨i,rfl⟩:∃ i:Nat,topic=(i:Int):=⟨topic.toNat,by omega⟩
  have HI:=LH (show i < s.tops.length by omega)
  obtain ⟨⟨-,hcap,hmx⟩,g,off,rfl,hat⟩:=StrR.top hT (i:=i) h0 (by omega)
  rw [show s.tops.getD (i:Int).toNat default=topN s i from rfl] at hat
  obtain ⟨t,ht⟩:∃ t,t=topN s i:=⟨_,rfl⟩
  rw [← ht] at hat hu HKT
  obtain ⟨t',y,f,hadd⟩:∃ t' y f,addP t id k b=(t',y,f):=⟨_,_,_,rfl⟩
  rw [hadd] at hu
  simp only [Int.toNat_natCast] at hu hat
  have HADD:=LH hadd
  have HU:=LH hu
  unfold maxLen at hmx
  have HAT:=LH hat
  have h5:(i:Int) < (s.tops.length:Int):=by omega
  have h6:(s.tops.length:Int)=4:=by omega
  have hgw:g < w.heap.size:=World.block_lt_of_cell? w _ hat.choose_spec.choose_spec.1.1.1.1
  clear h hk hT ha hm h4 hu ht hat hadd
  go_enter Tryz.func88,Tryz.ntmps88
  go_wp2_with fail
  refine Calls.mono (strAsked_any (i:Int) ?_ HK.out HA.out) ?_
  ·exact HS.out.below (by repeat (first|with_reducible (first|exact Below.refl _ _|apply Below.drew|apply below_alloc)|((first|with_reducible refine Below.alloc ?_ ?_ _|with_reducible refine Below.setCell ?_ ?_ _);rotate_left;focus (first|(simp <;> omega)|omega))))
  rintro e w1 ⟨rfl,hb⟩
  have HB:Hid (Below w.heap.size w _):=below_step (by repeat (first|with_reducible (first|exact Below.refl _ _|apply Below.drew|apply below_alloc)|((first|with_reducible refine Below.alloc ?_ ?_ _|with_reducible refine Below.setCell ?_ ?_ _);rotate_left;focus (first|(simp <;> omega)|omega)))) hb
  have P:Blk _ (w.heap.size) _ _:=Blk.step (by repeat (first|((with_reducible apply Blk.new);focus (first|rfl|(simp <;> omega)))|with_reducible (first|apply Blk.drew|apply Blk.alloc|apply Blk.set_)|((with_reducible apply Blk.far);rotate_left;focus (first|(simp <;> omega)|omega)))) hb
  obtain ⟨p0,p1,pz⟩:=cells2 P
  have pl:=Blk.lt P
  have HP:=LH P
  clear P
  have HM:Hid (Blk w1 (w.heap.size+1) 77 [.int .i64 id,.slice ga gn gc,.int .i64 (i:Int),.string k,.string b]):=Blk.step (by repeat (first|with_reducible exact Blk.new rfl|((with_reducible apply Blk.new);focus (first|rfl|(simp <;> omega)))|with_reducible (first|apply Blk.drew|apply Blk.alloc|apply Blk.set_)|((with_reducible apply Blk.far);rotate_left;focus (first|(simp <;> omega)|omega)))) hb
  obtain ⟨m0,m1,m2,m3,m4,mz⟩:=cells5 HM.out
  have ml:=HM.out.lt
  have R:Blk _ (w.heap.size+2) _ _:=Blk.step (by repeat (first|((with_reducible apply Blk.new);focus (first|rfl|(simp <;> omega)))|with_reducible (first|apply Blk.drew|apply Blk.alloc|apply Blk.set_)|((with_reducible apply Blk.far);rotate_left;focus (first|(simp <;> omega)|omega)))) hb
  obtain ⟨r0,r1,rz⟩:=cells2 R
  have rl:=Blk.lt R
  have HR:=LH R
  clear R
  obtain ⟨ea,ecap,⟨⟨⟨c0,c1⟩,c2⟩,c3⟩,hTT⟩:=HAT.out.keep HB.out
  have T:=LH hTT
  clear hb hTT
  go_wp2_with fail
  have KS:Hid (∀ W':World,Below w1.heap.size w1 W'→(W'.cell? ⟨w.heap.size,0,none⟩=some (.slice (some ⟨g,off,none⟩) s.tops.length cap)∧(W'.cell? ⟨w.heap.size+1,0,none⟩=some (.int .i64 id)∧W'.cell? ⟨w.heap.size+1,2,none⟩=some (.int .i64 (i:Int)))∧(W'.cell? ⟨w.heap.size+1,3,none⟩=some (.string k)∧W'.cell? ⟨w.heap.size+1,4,none⟩=some (.string b)))∧((W'.cell? ⟨g,off+i * 4,none⟩=some (.int .i64 t.base)∧W'.cell? ⟨g,off+i * 4+1,none⟩=some (.int .i64 t.next))∧W'.cell? ⟨g,off+i * 4+2,none⟩=some (.int .i64 t.mark)∧W'.cell? ⟨g,off+i * 4+3,none⟩=some (.slice ea t.ents.length ecap))):=fun W' hb=>by
   have c:=fun (p:Addr) (hp:p.block < w1.heap.size)=>hb.cell hp
   refine ⟨⟨(c _ ?_).trans p0,⟨(c _ ?_).trans m0,(c _ ?_).trans m2⟩,(c _ ?_).trans m3,(c _ ?_).trans m4⟩,⟨(c _ ?_).trans c0,(c _ ?_).trans c1⟩,(c _ ?_).trans c2,(c _ ?_).trans c3⟩ <;> (simp only [];omega)
  have KT:=KS.out w1 (Below.refl _ _)
  go_region_held3 (fun W'=>(W'.cell? ⟨w.heap.size,0,none⟩=some (.slice (some ⟨g,off,none⟩) s.tops.length cap)∧(W'.cell? ⟨w.heap.size+1,0,none⟩=some (.int .i64 id)∧W'.cell? ⟨w.heap.size+1,2,none⟩=some (.int .i64 (i:Int)))∧(W'.cell? ⟨w.heap.size+1,3,none⟩=some (.string k)∧W'.cell? ⟨w.heap.size+1,4,none⟩=some (.string b)))∧((W'.cell? ⟨g,off+i * 4,none⟩=some (.int .i64 t.base)∧W'.cell? ⟨g,off+i * 4+1,none⟩=some (.int .i64 t.next))∧W'.cell? ⟨g,off+i * 4+2,none⟩=some (.int .i64 t.mark)∧W'.cell? ⟨g,off+i * 4+3,none⟩=some (.slice ea t.ents.length ecap)))
   (first|with_reducible exact KT|(refine KS.out _ ?_;done)|(refine KS.out _ ?_;(repeat (first|with_reducible (first|exact Below.refl _ _|apply Below.drew|apply below_alloc)|((first|with_reducible refine Below.alloc ?_ ?_ _|with_reducible refine Below.setCell ?_ ?_ _);rotate_left;focus (first|(simp <;> omega)|omega))));done)|(refine KS.out _ ?_;(repeat (first|with_reducible (first|exact HQ.out|exact Below.refl _ _|apply Below.drew|apply below_alloc)|((first|with_reducible refine Below.alloc ?_ ?_ _|with_reducible refine Below.setCell ?_ ?_ _);rotate_left;focus (first|(simp <;> omega)|omega))));done))
   (first|(go_at_call 131;refine (add_any id k b (T.out.below (Below.drew (Below.refl _ _))) HKT.out HADD.out).mono ?_;rintro e w2 ⟨ad2,cp2,rfl,ow2,hb⟩;have HQ:Hid (Below w1.heap.size w1 w2):=below_step (Below.drew (Below.refl _ _)) hb;have O2:Hid (OwnE w2 w1.heap.size _ _):=LH (own_base ow2 (by simp));clear hb ow2)|(go_at_call 131;refine (add_any id k b (T.out.below (Below.drew (below_alloc (Below.refl _ _)))) HKT.out HADD.out).mono ?_;rintro e w2 ⟨ad2,cp2,rfl,ow2,hb⟩;have HQ:Hid (Below w1.heap.size w1 w2):=below_step (Below.drew (below_alloc (Below.refl _ _))) hb;have HY:=LH (Blk.step (Blk.drew (Blk.new (w:=w1) (t:=103) (cs:=[.int .i64 0,.int .i64 0,.int .i64 0,.slice none 0 0]) rfl)) hb);obtain ⟨y0,y1,y2,y3,yz⟩:=cells4 HY.out;have O2:Hid (OwnE w2 (w1.heap.size+1) _ _):=LH (own_base ow2 (by simp));clear hb ow2))
  all_goals
   have HP2:=LH (HP.out.below HQ.out pl)
   have HM2:=LH (HM.out.below HQ.out ml)
   have HR2:=LH (HR.out.below HQ.out rl)
   have HB2:Hid (Below w.heap.size w w2):=LH (HB.out.trans (HQ.out.mono (by omega)))
   have hw2:w1.heap.size≤w2.heap.size:=HQ.out.size
   clear p0 p1 pz m0 m1 m2 m3 m4 mz r0 r1 rz c0 c1 c2 c3 HP HM HR KS KT
   obtain ⟨p0,p1,pz⟩:=cells2 HP2.out
   obtain ⟨m0,m1,m2,m3,m4,mz⟩:=cells5 HM2.out
   obtain ⟨r0,r1,rz⟩:=cells2 HR2.out
   have pl2:=HP2.out.lt
   have ml2:=HM2.out.lt
   have rl2:=HR2.out.lt
   have hu:=HU.out
   by_cases hf:f=0
   ·subst hf
    simp only [if_true] at hu
    cases hu
    go_wp2_with fail
    refine Calls.mono (with_any (B:=w.heap.size) i ?_ HF.out HI.out ?_ ?_) ?_
    ·exact HS.out.below (by repeat (first|with_reducible (first|exact HB2.out|exact Below.refl _ _|apply Below.drew|apply below_alloc)|((first|with_reducible refine Below.alloc ?_ ?_ _|with_reducible refine Below.setCell ?_ ?_ _);rotate_left;focus (first|(simp <;> omega)|omega))))
    ·first
      |(refine own_base (B:=w1.heap.size+1) ?_ (by omega);(repeat (first|with_reducible (first|exact O2.out|apply own_drew|apply own_alloc)|((with_reducible apply own_set);rotate_left;focus (first|(simp <;> omega)|omega))));done)
      |(refine own_base (B:=w1.heap.size) ?_ (by omega);(repeat (first|with_reducible (first|exact O2.out|apply own_drew|apply own_alloc)|((with_reducible apply own_set);rotate_left;focus (first|(simp <;> omega)|omega))));done)
    ·first|omega|(simp;omega)
    rintro e w3 ⟨ta,tc,rfl,os,hb⟩
    obtain ⟨a3,cap3,b3,nc3,cc3,ev,-,-⟩:=os.reads.shape
    cases ev
    clear r0 r1 rz
    have HB3:Hid (Below w.heap.size w _):=below_step (by repeat (first|with_reducible (first|exact HB2.out|exact Below.refl _ _|apply Below.drew|apply below_alloc)|((first|with_reducible refine Below.alloc ?_ ?_ _|with_reducible refine Below.setCell ?_ ?_ _);rotate_left;focus (first|(simp <;> omega)|omega)))) hb
    have R:Blk _ (w.heap.size+2) _ _:=Blk.step (by repeat (first|with_reducible exact HR2.out|((with_reducible apply Blk.new);focus (first|rfl|(simp <;> omega)))|with_reducible (first|apply Blk.drew|apply Blk.alloc|apply Blk.set_)|((with_reducible apply Blk.far);rotate_left;focus (first|(simp <;> omega)|omega)))) hb
    try simp only [List.set_cons_zero,List.set_cons_succ] at R
    obtain ⟨r0,r1,rz⟩:=cells2 R
    have rl:=Blk.lt R
    have HR:=LH R
    clear R
    have e3:(s.tops.set i t').length=s.tops.length:=List.length_set ..
    have OS:Hid (OwnS w3 w.heap.size (.agg #[.slice a3 s.tops.length cap3,.slice b3 nc3 cc3]) ⟨s.tops.set i t',s.coms⟩):=LH (by rw [← e3];exact os)
    clear hb os e3
    go_wp2_with fail
    have HR3:=HR.out.set_ 0 (.slice a3 s.tops.length cap3)
    obtain ⟨t0,t1,-⟩:=cells2 (HR3.set_ 1 (.slice b3 nc3 cc3))
    refine bodyPost_ret (v:=.tuple #[.agg #[.slice a3 s.tops.length cap3,.slice b3 nc3 cc3],.int .i64 n,.int .i64 0]) (by simp [results,Tryz.results88,go_sem,t0,t1]) rfl ⟨_,_,rfl,?_,?_⟩
    ·exact (OS.out.blk HR.out (by decide) (by decide) (by decide) (by decide)).blk HR3 (by decide) (by decide) (by decide) (by decide)
    ·exact (HB3.out.setCell (p:=⟨w.heap.size+2,0,none⟩) (by simp) _).setCell (p:=⟨w.heap.size+2,1,none⟩) (by simp) _
   ·have hd:(f != 0)=true:=by simpa using hf
    rw [if_neg hf] at hu
    cases hu
    go_wp2_with fail
    first
     |(obtain ⟨t0,t1,-⟩:=cells2 (((HR2.out.set_ 0 (.slice none 0 0)).set_ 1 (.slice none 0 0)).alloc (.cells #[.int .i64 t'.base,.int .i64 t'.next,.int .i64 t'.mark,.slice ad2 t'.ents.length cp2] 103));refine bodyPost_ret (v:=.tuple #[.agg #[.slice none 0 0,.slice none 0 0],.int .i64 0,.int .i64 x]) ?_ rfl ⟨_,_,rfl,OwnS.zero _ _,?_⟩;focus (simp [results,Tryz.results88,go_sem,t0,t1];done))
     |(obtain ⟨t0,t1,-⟩:=cells2 ((((((HR2.out.far (b:=w1.heap.size) (o:=0) (by omega) (.int .i64 t'.base)).far (b:=w1.heap.size) (o:=1) (by omega) (.int .i64 t'.next)).far (b:=w1.heap.size) (o:=2) (by omega) (.int .i64 t'.mark)).far (b:=w1.heap.size) (o:=3) (by omega) (.slice ad2 t'.ents.length cp2)).set_ 0 (.slice none 0 0)).set_ 1 (.slice none 0 0));refine bodyPost_ret (v:=.tuple #[.agg #[.slice none 0 0,.slice none 0 0],.int .i64 0,.int .i64 x]) ?_ rfl ⟨_,_,rfl,OwnS.zero _ _,?_⟩;focus (simp [results,Tryz.results88,go_sem,t0,t1];done))
    repeat (first|with_reducible (first|exact HB2.out|exact Below.refl _ _|apply Below.drew|apply below_alloc)|((first|with_reducible refine Below.alloc ?_ ?_ _|with_reducible refine Below.setCell ?_ ?_ _);rotate_left;focus (first|(simp <;> omega)|omega)))
 ·rw [putS,if_neg ha] at hu
  injection hu with hx hy
  injection hy with hy hz
  subst hx
  subst hy
  have HA:=LH hz
  have hd:(x != 0)=true:=by rw [← hz];simpa using ha
  clear h hk hT ha hz
  go_enter Tryz.func88,Tryz.ntmps88
  go_wp2_with fail
  refine Calls.mono (strAsked_any topic ?_ HK.out HA.out) ?_
  ·exact HS.out.below (by repeat (first|with_reducible (first|exact Below.refl _ _|apply Below.drew|apply below_alloc)|((first|with_reducible refine Below.alloc ?_ ?_ _|with_reducible refine Below.setCell ?_ ?_ _);rotate_left;focus (first|(simp <;> omega)|omega))))
  rintro e w1 ⟨rfl,hb⟩
  have HB:Hid (Below w.heap.size w _):=below_step (by repeat (first|with_reducible (first|exact Below.refl _ _|apply Below.drew|apply below_alloc)|((first|with_reducible refine Below.alloc ?_ ?_ _|with_reducible refine Below.setCell ?_ ?_ _);rotate_left;focus (first|(simp <;> omega)|omega)))) hb
  have R:Blk _ (w.heap.size+2) _ _:=Blk.step (by repeat (first|((with_reducible apply Blk.new);focus (first|rfl|(simp <;> omega)))|with_reducible (first|apply Blk.drew|apply Blk.alloc|apply Blk.set_)|((with_reducible apply Blk.far);rotate_left;focus (first|(simp <;> omega)|omega)))) hb
  obtain ⟨r0,r1,rz⟩:=cells2 R
  have rl:=Blk.lt R
  have HR:=LH R
  clear R
  clear hb
  go_wp2_with fail
  refine bodyPost_ret (v:=.tuple #[.agg #[.slice none 0 0,.slice none 0 0],.int .i64 0,.int .i64 x]) (by simp [results,Tryz.results88,go_sem,r0,r1]) rfl ⟨_,_,rfl,OwnS.zero _ _,?_⟩
  repeat (first|with_reducible (first|exact HB.out|exact Below.refl _ _|apply Below.drew|apply below_alloc)|((first|with_reducible refine Below.alloc ?_ ?_ _|with_reducible refine Below.setCell ?_ ?_ _);rotate_left;focus (first|(simp <;> omega)|omega)))
set_option maxHeartbeats 8000000 in
set_option maxRecDepth 100000 in
theorem rd_k2 {w0 w:World} {g:Nat} {l:List Int} {o:Bool} {k:Int} (h:RdS w0 w g l o) (hk:k=min (nN l) 255) (hkk:k=2) {c:PC} {l':List Int} {o':Bool} (hr:rd2 (nL l) (nO l o)=(c,l',o')) :
  Calls Tryz.prog 53 #[.pointer (some ⟨g,0,none⟩)] w (RdCEnd w0 g c l' o' w):=by
 obtain ⟨n0,hn0⟩:∃ n,n=nN l:=⟨_,rfl⟩
 obtain ⟨l0,hl0⟩:∃ x,x=nL l:=⟨_,rfl⟩
 obtain ⟨o0,ho0⟩:∃ x,x=nO l o:=⟨_,rfl⟩
 have hpos:=nN_pos l
 rw [← hn0] at hk hpos
 rw [← hl0,← ho0] at hr
 have gl:g < w.heap.size:=by obtain ⟨_,_,hb,_⟩:=h;exact hb.lt
 have HR:=LH hr
 have RD:=LH h
 have HN0:=LH hn0
 have HL0:=LH hl0
 have HO0:=LH ho0
 clear h hr hn0 hl0 ho0
 obtain rfl:n0=2:=by omega
 clear hpos
 go_enter Tryz.func53,Tryz.ntmps53
 go_wp2_with fail
 refine Calls.mono (numbers_any (RD.out.keep (below_alloc (Below.refl _ _))) HN0.out HL0.out HO0.out) ?_
 rintro e w1 ⟨rfl,hrd,hf⟩
 have HZ:Hid (Blk w1 w.heap.size 79 [.int .u8 0,.int .i64 0,.slice none 0 0,.int .i64 0,.string ⟨#[]⟩,.string ⟨#[]⟩,.int .i64 0,.int .i64 0,.slice none 0 0,.int .i64 0,.int .i64 0,.int .i64 0]):=LH ((Blk.new rfl).frG hf (by omega))
 have FR:=LH (FrG.down (below_alloc (Below.refl _ _)) hf (Nat.le_of_lt gl))
 have RD:=LH hrd
 have s1:w.heap.size < w1.heap.size:=HZ.out.lt
 clear hrd hf
 go_wp2_with fail
 have HC:Hid (Blk (w1.alloc (.cells #[.int .u8 2,.int .i64 0,.slice none 0 0,.int .i64 0,.string ⟨#[]⟩,.string ⟨#[]⟩,.int .i64 0,.int .i64 0,.slice none 0 0,.int .i64 0,.int .i64 0,.int .i64 0] 79)) w1.heap.size 79 [.int .u8 2,.int .i64 0,.slice none 0 0,.int .i64 0,.string ⟨#[]⟩,.string ⟨#[]⟩,.int .i64 0,.int .i64 0,.slice none 0 0,.int .i64 0,.int .i64 0,.int .i64 0]):=LH (Blk.new rfl)
 replace HZ:Hid (Blk (w1.alloc (.cells #[.int .u8 2,.int .i64 0,.slice none 0 0,.int .i64 0,.string ⟨#[]⟩,.string ⟨#[]⟩,.int .i64 0,.int .i64 0,.slice none 0 0,.int .i64 0,.int .i64 0,.int .i64 0] 79)) w.heap.size 79 [.int .u8 0,.int .i64 0,.slice none 0 0,.int .i64 0,.string ⟨#[]⟩,.string ⟨#[]⟩,.int .i64 0,.int .i64 0,.slice none 0 0,.int .i64 0,.int .i64 0,.int .i64 0]):=LH (Blk.alloc HZ.out _)
 replace RD:Hid (RdS w0 (w1.alloc (.cells #[.int .u8 2,.int .i64 0,.slice none 0 0,.int .i64 0,.string ⟨#[]⟩,.string ⟨#[]⟩,.int .i64 0,.int .i64 0,.slice none 0 0,.int .i64 0,.int .i64 0,.int .i64 0] 79)) g l0 o0):=LH (RD.out.keep (below_alloc (Below.refl _ _)))
 replace FR:Hid (FrG g w (w1.alloc (.cells #[.int .u8 2,.int .i64 0,.slice none 0 0,.int .i64 0,.string ⟨#[]⟩,.string ⟨#[]⟩,.int .i64 0,.int .i64 0,.slice none 0 0,.int .i64 0,.int .i64 0,.int .i64 0] 79))):=LH (FR.out.up (below_alloc (Below.refl _ _)) (Nat.le_of_lt gl))
 try rw [show min (2:Int) 255=2 from rfl]
 generalize hW:w1.alloc (.cells #[.int .u8 2,.int .i64 0,.slice none 0 0,.int .i64 0,.string ⟨#[]⟩,.string ⟨#[]⟩,.int .i64 0,.int .i64 0,.slice none 0 0,.int .i64 0,.int .i64 0,.int .i64 0] 79)=W0 at HC HZ RD FR ⊢
 have sc:=HC.out.lt
 clear hW
 obtain ⟨⟨⟨c0,c1,c2,c3⟩,⟨c4,c5,c6,c7⟩,c8,c9,c10,c11⟩,cz⟩:=cells12 HC.out
 obtain ⟨n1,hn1⟩:∃ n,n=nN l0:=⟨_,rfl⟩
 obtain ⟨l1,hl1⟩:∃ x,x=nL l0:=⟨_,rfl⟩
 obtain ⟨o1,ho1⟩:∃ x,x=nO l0 o0:=⟨_,rfl⟩
 have HN1:=LH hn1
 have HL1:=LH hl1
 have HO1:=LH ho1
 clear hn1 hl1 ho1
 go_wp2_with fail
 refine Calls.mono (numbers_any RD.out HN1.out HL1.out HO1.out) ?_
 rintro e v1_ ⟨rfl,hrd,hf⟩
 replace HC:=LH (HC.out.frG hf (by omega))
 replace HZ:=LH (HZ.out.frG hf (by omega))
 replace FR:=LH (FR.out.trans hf)
 replace RD:=LH hrd
 have z1:W0.heap.size≤v1_.heap.size:=hf.1.size
 clear hrd hf c0 c1 c2 c3 c4 c5 c6 c7 c8 c9 c10 c11 cz
 obtain ⟨⟨⟨c0,c1,c2,c3⟩,⟨c4,c5,c6,c7⟩,c8,c9,c10,c11⟩,cz⟩:=cells12 HC.out
 have sc1:=HC.out.lt
 have HC1:Hid (Blk (v1_.setCell ⟨w1.heap.size,6,none⟩ (.int .i64 n1)) w1.heap.size 79 [.int .u8 2,.int .i64 0,.slice none 0 0,.int .i64 0,.string ⟨#[]⟩,.string ⟨#[]⟩,.int .i64 n1,.int .i64 0,.slice none 0 0,.int .i64 0,.int .i64 0,.int .i64 0]):=LH (HC.out.set_ 6 (.int .i64 n1))
 have HZ1:Hid (Blk (v1_.setCell ⟨w1.heap.size,6,none⟩ (.int .i64 n1)) w.heap.size 79 [.int .u8 0,.int .i64 0,.slice none 0 0,.int .i64 0,.string ⟨#[]⟩,.string ⟨#[]⟩,.int .i64 0,.int .i64 0,.slice none 0 0,.int .i64 0,.int .i64 0,.int .i64 0]):=LH (HZ.out.far (b:=w1.heap.size) (o:=6) (by omega) (.int .i64 n1))
 have RD1:Hid (RdS w0 (v1_.setCell ⟨w1.heap.size,6,none⟩ (.int .i64 n1)) g l1 o1):=LH (RD.out.far (by omega))
 have FR1:Hid (FrG g w (v1_.setCell ⟨w1.heap.size,6,none⟩ (.int .i64 n1))):=LH (FR.out.set_ (Nat.le_of_lt gl) (by omega))
 have zs1:(v1_.setCell ⟨w1.heap.size,6,none⟩ (.int .i64 n1)).heap.size=v1_.heap.size:=by simp
 clear HC HZ RD FR
 have HC:=HC1
 have HZ:=HZ1
 have RD:=RD1
 have FR:=FR1
 clear HC1 HZ1 RD1 FR1
 go_upto_region 12 with fail
 generalize hW:(v1_.setCell ⟨w1.heap.size,6,none⟩ (.int .i64 n1))=W1 at HC HZ RD FR zs1 ⊢
 clear hW c0 c1 c2 c3 c4 c5 c6 c7 c8 c9 c10 c11 cz
 obtain ⟨⟨⟨c0,c1,c2,c3⟩,⟨c4,c5,c6,c7⟩,c8,c9,c10,c11⟩,cz⟩:=cells12 HC.out
 have sd1:=HC.out.lt
 obtain ⟨n2,hn2⟩:∃ n,n=nN l1:=⟨_,rfl⟩
 obtain ⟨l2,hl2⟩:∃ x,x=nL l1:=⟨_,rfl⟩
 obtain ⟨o2,ho2⟩:∃ x,x=nO l1 o1:=⟨_,rfl⟩
 have HN2:=LH hn2
 have HL2:=LH hl2
 have HO2:=LH ho2
 clear hn2 hl2 ho2
 go_wp2_with fail
 refine Calls.mono (numbers_any RD.out HN2.out HL2.out HO2.out) ?_
 rintro e v2_ ⟨rfl,hrd,hf⟩
 replace HC:=LH (HC.out.frG hf (by omega))
 replace HZ:=LH (HZ.out.frG hf (by omega))
 replace FR:=LH (FR.out.trans hf)
 replace RD:=LH hrd
 have z2:W1.heap.size≤v2_.heap.size:=hf.1.size
 clear hrd hf c0 c1 c2 c3 c4 c5 c6 c7 c8 c9 c10 c11 cz
 obtain ⟨⟨⟨c0,c1,c2,c3⟩,⟨c4,c5,c6,c7⟩,c8,c9,c10,c11⟩,cz⟩:=cells12 HC.out
 have sc2:=HC.out.lt
 have HC2:Hid (Blk (v2_.setCell ⟨w1.heap.size,7,none⟩ (.int .i64 n2)) w1.heap.size 79 [.int .u8 2,.int .i64 0,.slice none 0 0,.int .i64 0,.string ⟨#[]⟩,.string ⟨#[]⟩,.int .i64 n1,.int .i64 n2,.slice none 0 0,.int .i64 0,.int .i64 0,.int .i64 0]):=LH (HC.out.set_ 7 (.int .i64 n2))
 have HZ2:Hid (Blk (v2_.setCell ⟨w1.heap.size,7,none⟩ (.int .i64 n2)) w.heap.size 79 [.int .u8 0,.int .i64 0,.slice none 0 0,.int .i64 0,.string ⟨#[]⟩,.string ⟨#[]⟩,.int .i64 0,.int .i64 0,.slice none 0 0,.int .i64 0,.int .i64 0,.int .i64 0]):=LH (HZ.out.far (b:=w1.heap.size) (o:=7) (by omega) (.int .i64 n2))
 have RD2:Hid (RdS w0 (v2_.setCell ⟨w1.heap.size,7,none⟩ (.int .i64 n2)) g l2 o2):=LH (RD.out.far (by omega))
 have FR2:Hid (FrG g w (v2_.setCell ⟨w1.heap.size,7,none⟩ (.int .i64 n2))):=LH (FR.out.set_ (Nat.le_of_lt gl) (by omega))
 have zs2:(v2_.setCell ⟨w1.heap.size,7,none⟩ (.int .i64 n2)).heap.size=v2_.heap.size:=by simp
 clear HC HZ RD FR
 have HC:=HC2
 have HZ:=HZ2
 have RD:=RD2
 have FR:=FR2
 clear HC2 HZ2 RD2 FR2
 go_upto_region 23 with fail
 generalize hW:(v2_.setCell ⟨w1.heap.size,7,none⟩ (.int .i64 n2))=W2 at HC HZ RD FR zs2 ⊢
 clear hW c0 c1 c2 c3 c4 c5 c6 c7 c8 c9 c10 c11 cz
 obtain ⟨⟨⟨c0,c1,c2,c3⟩,⟨c4,c5,c6,c7⟩,c8,c9,c10,c11⟩,cz⟩:=cells12 HC.out
 have sd2:=HC.out.lt
 have hfin:=HR.out
 rw [show rd2 l0 o0=(⟨2,default,n1,n2,[],0,0,0⟩,l2,o2) by rw [HO2.out,HL2.out,HN2.out,HO1.out,HL1.out,HN1.out];rfl] at hfin
 cases hfin
 obtain ⟨⟨⟨e0,e1,e2,e3⟩,⟨e4,e5,e6,e7⟩,e8,e9,e10,e11⟩,ez⟩:=cells12 HZ.out
 have el:=HZ.out.lt
 go_wp2_with fail
 obtain ⟨⟨⟨t0,t1_,t2,t3⟩,⟨t4,t5,t6,t7⟩,t8,t9,t10,t11⟩,-⟩:=cells12 (blk_put12 HZ.out (.int .u8 2) (.int .i64 0) (.slice none 0 0) (.int .i64 0) (.string ⟨#[]⟩) (.string ⟨#[]⟩) (.int .i64 n1) (.int .i64 n2) (.slice none 0 0) (.int .i64 0) (.int .i64 0) (.int .i64 0))
 exact bodyPost_ret (v:=.agg #[.int .u8 2,.int .i64 0,.slice none 0 0,.int .i64 0,.string ⟨#[]⟩,.string ⟨#[]⟩,.int .i64 n1,.int .i64 n2,.slice none 0 0,.int .i64 0,.int .i64 0,.int .i64 0]) (by simp [results,Tryz.results53,go_sem,t0,t1_,t2,t3,t4,t5,t6,t7,t8,t9,t10,t11]) rfl ⟨_,rfl,⟨none,0,none,0,rfl,ownI_nil _ _,ownI_nil _ _⟩,((((((((((((RD.out.far (b:=w.heap.size) (o:=0) (v:=.int .u8 2) gl).far (b:=w.heap.size) (o:=1) (v:=.int .i64 0) gl).far (b:=w.heap.size) (o:=2) (v:=.slice none 0 0) gl).far (b:=w.heap.size) (o:=3) (v:=.int .i64 0) gl).far (b:=w.heap.size) (o:=4) (v:=.string ⟨#[]⟩) gl).far (b:=w.heap.size) (o:=5) (v:=.string ⟨#[]⟩) gl).far (b:=w.heap.size) (o:=6) (v:=.int .i64 n1) gl).far (b:=w.heap.size) (o:=7) (v:=.int .i64 n2) gl).far (b:=w.heap.size) (o:=8) (v:=.slice none 0 0) gl).far (b:=w.heap.size) (o:=9) (v:=.int .i64 0) gl).far (b:=w.heap.size) (o:=10) (v:=.int .i64 0) gl).far (b:=w.heap.size) (o:=11) (v:=.int .i64 0) gl),((((((((((((FR.out.set_ (b:=w.heap.size) (o:=0) (v:=.int .u8 2) (Nat.le_of_lt gl) (Nat.le_refl _)).set_ (b:=w.heap.size) (o:=1) (v:=.int .i64 0) (Nat.le_of_lt gl) (Nat.le_refl _)).set_ (b:=w.heap.size) (o:=2) (v:=.slice none 0 0) (Nat.le_of_lt gl) (Nat.le_refl _)).set_ (b:=w.heap.size) (o:=3) (v:=.int .i64 0) (Nat.le_of_lt gl) (Nat.le_refl _)).set_ (b:=w.heap.size) (o:=4) (v:=.string ⟨#[]⟩) (Nat.le_of_lt gl) (Nat.le_refl _)).set_ (b:=w.heap.size) (o:=5) (v:=.string ⟨#[]⟩) (Nat.le_of_lt gl) (Nat.le_refl _)).set_ (b:=w.heap.size) (o:=6) (v:=.int .i64 n1) (Nat.le_of_lt gl) (Nat.le_refl _)).set_ (b:=w.heap.size) (o:=7) (v:=.int .i64 n2) (Nat.le_of_lt gl) (Nat.le_refl _)).set_ (b:=w.heap.size) (o:=8) (v:=.slice none 0 0) (Nat.le_of_lt gl) (Nat.le_refl _)).set_ (b:=w.heap.size) (o:=9) (v:=.int .i64 0) (Nat.le_of_lt gl) (Nat.le_refl _)).set_ (b:=w.heap.size) (o:=10) (v:=.int .i64 0) (Nat.le_of_lt gl) (Nat.le_refl _)).set_ (b:=w.heap.size) (o:=11) (v:=.int .i64 0) (Nat.le_of_lt gl) (Nat.le_refl _))⟩
end Go.Proofs.YtdfmcgekfogpbabGreatDoor
