/-
  Proved here: num.put, Put, Text, Ints at small numbers. Conditions: the numbers are command's reader at every kind; command.Read. No condition. log.Commands: the commands of a log. No condition but that its texts a Plain: what group.Play answers. No program in sight but its types. Plain: a clock's invariant, behind any commands: what was delivered ri
-/
import Derived.Test.YtkkohllhebdlcaaGreatDoorY27
import Derived.Test.YtkkohllhebdlcaaGreatDoorY29
import Derived.Test.YtkkohllhebdlcaaGreatDoorY30
import Derived.Test.YtkkohllhebdlcaaGreatDoorY31
import Derived.Lib.AppendStr
import Derived.Lib.ConvBytes
set_option maxRecDepth 100000
namespace Go.Proofs.YtkkohllhebdlcaaGreatDoor
open Go.RowKit
def byteVs (l:List Int):List Value:=l.map fun x=>.int .u8 x
def OwnB (w:World) (B:Nat) (v:Value) (l:List Int):Prop:=w.ownsRow B 5 1 v l.length (byteVs l)
theorem info_u8:(Tryz.prog.info? 5).map (fun i=>(i.zero,i.size,i.bytes))=some (some (.int .u8 0),1,1):=by kernel_rfl
theorem byteVs_one (l:List Int):∀ v∈byteVs l,v.oneCell'=true:=by
 intro v hv
 obtain ⟨x,_,rfl⟩:=List.mem_map.1 hv
 rfl
def PutEndB (B:Nat) (w0:World) (l:List Int) (e:Ending) (w':World):Prop:=∃ a n cap,e=.returned (.slice a n cap)∧n=l.length∧OwnB w' B (.slice a n cap) l∧Below w0.heap.size w0 w'
set_option maxHeartbeats 1000000 in
set_option maxRecDepth 100000 in
theorem putB_any {w0 w:World} {a:Option Addr} {k cap:Nat} {l:List Int} {n:Int} (h0:Below w0.heap.size w0 w) (h:OwnB w w0.heap.size (.slice a k cap) l) (hk:k=l.length) (n0:0≤n) (n1:n≤127) (hl:k≤1000) :
  Calls Tryz.prog 105 #[.slice a k cap,.int .i64 n] w (PutEndB w0.heap.size w0 (l++[n])):=by
 obtain ⟨i0,hi,hz0,hz1,hz2⟩:=info_parts info_u8
 have HB:=LH h0
 have hrow:w.ownsRow w0.heap.size 5 1 (.slice a k cap) k (byteVs l):=by rw [hk];rw [hk] at h;exact h
 have HO:=LH hrow
 have HK:=LH hk
 have hwr:IntKind.u8.wrap n=n:=by rw [IntKind.wrap_u8];omega
 have hn1:¬ (127:Int) < n:=by omega
 clear h0 h hrow hk
 go_enter Tryz.func105,Tryz.ntmps105
 go_wp2_with fail
 refine wp_loop_rounds 1 ?_
 rw [rounds_succ]
 go_wp2_with (at_builtin;refine wpList_append_own _ rfl _ _ 149 rfl w0.heap.size 5 i0 _ 1 1 Tryz.underlying149 hi hz0 hz1 hz2 rfl (by decide) _ k _ rfl (HO.out.alloc _) ⟨w.heap.size,0,none⟩ 1 1 [.int .u8 n] rfl rfl (news_new _ _ _) (by simp [Value.oneCell']) (by unfold maxLen;omega) (by omega) (by have:=HB.out.size;simp;omega) ?_)
 intro v' w' hown hgrow _
 obtain ⟨a',c',rfl⟩:=row_shape hown
 have HO2:=LH hown
 have HB2:Hid (Below w0.heap.size w0 w'):=LH ((HB.out.alloc HB.out.size _).grown hgrow (by have:=HB.out.size;simp;omega) (fun j hj=>(HO.out.lt j hj).1))
 clear hown hgrow
 go_wp2_with fail
 go_ret
 refine ⟨a',k+1,c',rfl,by rw [List.length_append,← HK.out];rfl,?_,HB2.out⟩
 unfold OwnB
 rw [List.length_append,← HK.out]
 have:=HO2.out
 simpa [byteVs] using this
theorem OwnB.nil (w:World) (B:Nat):OwnB w B (.slice none 0 0) []:=World.ownsRow_nil _ _ _ _
theorem inN_yes {n:Int} (n0:0≤n) (n1:n≤127):inN n=true:=by
 unfold inN
 simp
 omega
def PutEnd2 (w:World) (l:List Int) (e:Ending) (w':World):Prop:=∃ a n cap,e=.returned (.tuple #[.slice a n cap,.int .i64 0])∧n=l.length∧OwnB w' w.heap.size (.slice a n cap) l∧Below w.heap.size w w'
set_option maxHeartbeats 1000000 in
set_option maxRecDepth 100000 in
theorem numPut_any {w:World} {n:Int} (n0:0≤n) (n1:n≤127):Calls Tryz.prog 73 #[.int .i64 n] w (PutEnd2 w [n]):=by
 have KI:Hid (∀ W,Calls Tryz.prog 104 #[.int .i64 n] W fun e w'=>e=.returned (.bool true)∧W=w'):=fun W=>by
  have h:=inN_any n W
  rw [inN_yes n0 n1] at h
  exact h
 have KP:Hid (∀ W,Calls Tryz.prog 105 #[.slice none 0 0,.int .i64 n] W (PutEndB W.heap.size W [n])):=fun W=>putB_any (Below.refl _ _) (OwnB.nil _ _) rfl n0 n1 (by omega)
 clear n0 n1
 go_enter Tryz.func73,Tryz.ntmps73
 go_wp2_with fail
 refine (KI.out _).mono ?_
 rintro e w1 ⟨rfl,rfl⟩
 go_wp2_with fail
 refine (KP.out _).mono ?_
 rintro e w1 ⟨a,k,cap,rfl,hk,ho,hb⟩
 have HE:=LH (show k=[n].length∧OwnB w1 w.heap.size (.slice a k cap) [n]∧Below w.heap.size w w1 from ⟨hk,ho,hb⟩)
 clear hk ho hb
 go_wp2_with fail
 exact bodyPost_ret (v:=.tuple #[.slice a k cap,.int .i64 0]) (by simp [results,Tryz.results73,go_sem]) rfl ⟨a,k,cap,rfl,HE.out.1,HE.out.2.1,HE.out.2.2⟩
theorem strCells_bytes (s:ByteArray):Lib.strCells s=byteVs (s.data.toList.map fun b=>(b.toNat:Int)):=by
 simp [Lib.strCells,byteVs]
set_option maxHeartbeats 1000000 in
set_option maxRecDepth 100000 in
theorem numText_any {w:World} {s:ByteArray} (hs:s.size≤127):Calls Tryz.prog 77 #[.string s] w (PutEnd2 w ((s.size:Int) :: s.data.toList.map fun b=>(b.toNat:Int))):=by
 obtain ⟨i0,hi,hz0,hz1,hz2⟩:=info_parts info_u8
 have KP:Hid (∀ W,Calls Tryz.prog 105 #[.slice none 0 0,.int .i64 (s.size:Int)] W (PutEndB W.heap.size W [(s.size:Int)])):=fun W=>putB_any (Below.refl _ _) (OwnB.nil _ _) rfl (by omega) (by omega) (by omega)
 have HS:=LH hs
 have h1:¬ (4096:Int) < (s.size:Int):=by omega
 clear hs
 go_enter Tryz.func77,Tryz.ntmps77
 go_wp2_with fail
 refine (KP.out _).mono ?_
 rintro e w1 ⟨a,k,cap,rfl,hk,ho,hb⟩
 subst hk
 have HO:Hid (w1.ownsRow w.heap.size 5 1 (.slice a 1 cap) 1 (byteVs [(s.size:Int)])):=LH ho
 have HB:=LH hb
 clear ho hb
 go_wp2_with (at_builtin;refine Lib.wpList_append_own_string (w:=w1) rfl _ _ 149 9 rfl w.heap.size 5 i0 Tryz.underlying149 Tryz.underlying9 hi hz0 hz1 hz2 _ 1 _ rfl HO.out s rfl (by have:=HS.out;unfold maxLen;omega) (by have:=HS.out;omega) HB.out.size ?_)
 intro v' w' hown hgrow _
 obtain ⟨a',c',rfl⟩:=row_shape hown
 have HO2:=LH hown
 have HB2:Hid (Below w.heap.size w w'):=LH (HB.out.grown hgrow HB.out.size (fun j hj=>(HO.out.lt j hj).1))
 clear hown hgrow
 go_wp2_with fail
 refine bodyPost_ret (v:=.tuple #[.slice a' (1+s.size) c',.int .i64 0]) (by simp [results,Tryz.results77,go_sem]) rfl ⟨a',1+s.size,c',rfl,?_,?_,HB2.out⟩
 ·simp
  omega
 ·have h:=HO2.out
  rw [strCells_bytes] at h
  unfold OwnB
  have e:((s.size:Int) :: s.data.toList.map fun b=>(b.toNat:Int)).length=1+s.size:=by simp;omega
  rw [e]
  simpa [byteVs] using h
set_option maxHeartbeats 1000000 in
set_option maxRecDepth 100000 in
theorem numInts_one {w:World} {v:Value} {n:Int} (h:IntsR w v [n]) (n0:0≤n) (n1:n≤127):Calls Tryz.prog 75 #[v] w (PutEnd2 w [1,n]):=by
 obtain ⟨a,cap,rfl,_,_,_,hd⟩:=h.shape
 obtain ⟨b,off,rfl,hat⟩:=hd (by simp)
 have x0:=hat 0 (by simp)
 rw [show [n].getD 0 0=n from rfl,Nat.add_zero] at x0
 have KI:Hid (∀ W,Calls Tryz.prog 104 #[.int .i64 n] W fun e w'=>e=.returned (.bool true)∧W=w'):=fun W=>by
  have h:=inN_any n W
  rw [inN_yes n0 n1] at h
  exact h
 have KP:Hid (∀ W,Calls Tryz.prog 105 #[.slice none 0 0,.int .i64 1] W (PutEndB W.heap.size W [1])):=fun W=>putB_any (Below.refl _ _) (OwnB.nil _ _) rfl (by omega) (by omega) (by omega)
 have KQ:Hid (∀ W a k cap,Below w.heap.size w W→OwnB W w.heap.size (.slice a k cap) [1]→k=1→Calls Tryz.prog 105 #[.slice a k cap,.int .i64 n] W (PutEndB w.heap.size w [1,n])):=fun W a k cap h1 h2 h3=>putB_any (l:=[1]) h1 h2 h3 n0 n1 (by omega)
 have bl:=World.block_lt_of_cell? w _ x0
 have X0:=LH x0
 clear h n0 n1 hd hat
 simp only [List.length_cons,List.length_nil,Nat.zero_add]
 go_enter Tryz.func75,Tryz.ntmps75
 go_wp2_with fail
 refine (KP.out _).mono ?_
 rintro e w1 ⟨a1,k1,c1,rfl,hk,ho,hb⟩
 obtain rfl:k1=1:=hk
 have HO:=LH ho
 have HB:=LH hb
 have x1:=keep hb X0.out
 clear ho hb
 go_wp2_with fail
 refine wp_loop_rounds 2 ?_
 rw [rounds_succ]
 go_wp2_with fail
 refine (KI.out _).mono ?_
 rintro e w2 ⟨rfl,rfl⟩
 go_wp2_with fail
 refine (KQ.out _ _ _ _ HB.out HO.out rfl).mono ?_
 rintro e w2 ⟨a2,k2,c2,rfl,hk,ho,hb⟩
 obtain rfl:k2=2:=hk
 have HO2:=LH ho
 have HB2:=LH hb
 clear ho hb
 go_wp2_with fail
 rw [rounds_succ]
 go_wp2_with fail
 exact bodyPost_ret (v:=.tuple #[.slice a2 2 c2,.int .i64 0]) (by simp [results,Tryz.results75,go_sem]) rfl ⟨a2,2,c2,rfl,rfl,HO2.out,HB2.out⟩
theorem rdC_any {w0 w:World} {g:Nat} {l:List Int} {o:Bool} (h:RdS w0 w g l o) {c:PC} {l':List Int} {o':Bool} (hr:rdC l o=(c,l',o')) :
  Calls Tryz.prog 62 #[.pointer (some ⟨g,0,none⟩)] w (RdCEnd w0 g c l' o' w):=by
 obtain ⟨k,hk⟩:∃ k,k=min (nN l) 255:=⟨_,rfl⟩
 rw [rdC,← hk] at hr
 by_cases h1:k=1
 ·rw [if_pos h1] at hr
  exact rd_k1 h hk h1 hr
 rw [if_neg h1] at hr
 by_cases h2:k=2
 ·rw [if_pos h2] at hr
  exact rd_k2 h hk h2 hr
 rw [if_neg h2] at hr
 by_cases h3:k=3
 ·rw [if_pos h3] at hr
  exact rd_k3 h hk h3 hr
 rw [if_neg h3] at hr
 by_cases h4:k=4
 ·rw [if_pos h4] at hr
  exact rd_k4 h hk h4 hr
 rw [if_neg h4] at hr
 by_cases h5:k=5
 ·rw [if_pos (Or.inl h5),h5] at hr
  exact rd_k5 h hk h5 hr
 by_cases h6:k=6
 ·rw [if_pos (Or.inr h6),h6] at hr
  exact rd_k6 h hk h6 hr
 rw [if_neg (by rintro (h|h) <;> contradiction)] at hr
 by_cases h255:255 < nN l
 ·obtain rfl:k=255:=by omega
  exact rd_k9a h hk h255 hr
 ·exact rd_k9b h hk ⟨h255,h1,h2,h3,h4,h5,h6⟩ hr
def bytesI (s:ByteArray):List Int:=s.data.toList.map fun b=>(b.toNat:Int)
theorem bytesI_len (s:ByteArray):(bytesI s).length=s.size:=by simp [bytesI]
def readP (s:ByteArray):PC × Int :=
 if 1024 < s.size then (default,3) else if ((rdC (bytesI s) true).2.2 && (decide ((rdC (bytesI s) true).2.1=[]) && okCom (rdC (bytesI s) true).1))=true then ((rdC (bytesI s) true).1,0) else (default,8)
theorem readP_ok {s:ByteArray} {c:PC} (h:readP s=(c,0)):okCom c=true:=by
 rw [readP] at h
 split at h
 ·cases h
 ·split at h
  ·rename_i h2
   cases h
   rw [Bool.and_eq_true,Bool.and_eq_true] at h2
   exact h2.2.2
  ·cases h
def ReadEnd (c:PC) (x:Int) (w:World) (e:Ending) (w':World):Prop:=∃ v,e=.returned (.tuple #[v,.int .i64 x])∧ComO w' w.heap.size v c∧Below w.heap.size w w'
theorem bytes_reads (w:World) (e:TypeId) (s:ByteArray) (h:s.size≤maxLen):SliceR (Lib.bytesWorld w e s) (.slice (some ⟨w.heap.size,0,none⟩) s.size (grownCap w s.size 0 e)) 1 byteCell (bytesI s):=by
 refine ⟨some ⟨w.heap.size,0,none⟩,grownCap w s.size 0 e,by rw [bytesI_len],by rw [bytesI_len];exact grownCap_ge _ _ _ _,grownCap_le_maxLen _ _ _ _ h,fun hn=>by simp at hn,fun hl=>⟨_,0,rfl,fun i hi j hj=>?_⟩⟩
 obtain rfl:j=0:=by omega
 rw [bytesI_len] at hi
 have:=Lib.bytesWorld_cell w e s i hi
 rw [show 0+(i * 1+0)=i by omega,this]
 simp [byteCell,bytesI,List.getD,hi]
set_option maxHeartbeats 8000000 in
set_option maxRecDepth 100000 in
theorem read_any {s:ByteArray} {w:World} {c:PC} {x:Int} (hr:readP s=(c,x)) (hs:s.size≤maxLen):Calls Tryz.prog 39 #[.string s] w (ReadEnd c x w):=by
 by_cases h1:1024 < s.size
 ·rw [readP,if_pos h1] at hr
  cases hr
  have h1':(1024:Int) < (s.size:Int):=by omega
  go_enter Tryz.func39,Tryz.ntmps39
  go_wp2_with fail
  obtain ⟨⟨⟨t0,t1_,t2,t3⟩,⟨t4,t5,t6,t7⟩,t8,t9,t10,t11⟩,-⟩:=cells12 (Blk.new (w:=w) (t:=58) (cs:=[.int .u8 0,.int .i64 0,.slice none 0 0,.int .i64 0,.string ⟨#[]⟩,.string ⟨#[]⟩,.int .i64 0,.int .i64 0,.slice none 0 0,.int .i64 0,.int .i64 0,.int .i64 0]) rfl)
  exact bodyPost_ret (v:=.tuple #[.agg #[.int .u8 0,.int .i64 0,.slice none 0 0,.int .i64 0,.string ⟨#[]⟩,.string ⟨#[]⟩,.int .i64 0,.int .i64 0,.slice none 0 0,.int .i64 0,.int .i64 0,.int .i64 0],.int .i64 3]) (by simp [results,Tryz.results39,go_sem,t0,t1_,t2,t3,t4,t5,t6,t7,t8,t9,t10,t11]) rfl ⟨_,rfl,⟨none,0,none,0,rfl,ownI_nil _ _,ownI_nil _ _⟩,below_alloc (Below.refl _ _)⟩
 ·rw [readP,if_neg h1] at hr
  have h1':¬ (1024:Int) < (s.size:Int):=by omega
  obtain ⟨W0,hW0⟩:∃ W0,W0=w.alloc (.cells #[.int .u8 0,.int .i64 0,.slice none 0 0,.int .i64 0,.string ⟨#[]⟩,.string ⟨#[]⟩,.int .i64 0,.int .i64 0,.slice none 0 0,.int .i64 0,.int .i64 0,.int .i64 0] 58):=⟨_,rfl⟩
  have hcv:=Lib.run_convert_string_bytes W0 9 149 5 s Tryz.underlying9 Tryz.underlying149 Tryz.underlying5
  have hsb:=bytes_reads W0 5 s hs
  have hbw:Below W0.heap.size W0 (Lib.bytesWorld W0 5 s):=⟨rfl,rfl,rfl,by rw [Lib.bytesWorld_size];omega,fun k hk=>Lib.bytesWorld_at_old W0 5 s k hk⟩
  obtain ⟨bcap,hbc⟩:∃ n,n=grownCap W0 s.size 0 5:=⟨_,rfl⟩
  obtain ⟨WB,hWB⟩:∃ W,W=Lib.bytesWorld W0 5 s:=⟨_,rfl⟩
  rw [← hbc] at hcv hsb
  rw [← hWB] at hcv hsb hbw
  have hw0:W0.heap.size=w.heap.size+1:=by rw [hW0];simp
  rw [hw0] at hcv hsb
  have HZ0:Hid (Blk WB w.heap.size 58 [.int .u8 0,.int .i64 0,.slice none 0 0,.int .i64 0,.string ⟨#[]⟩,.string ⟨#[]⟩,.int .i64 0,.int .i64 0,.slice none 0 0,.int .i64 0,.int .i64 0,.int .i64 0]):=LH (Blk.step (by rw [hW0];exact Blk.new rfl) hbw)
  have HB0:Hid (Below w.heap.size w WB):=LH ((below_alloc (Below.refl _ _)).trans (by rw [← hW0];exact hbw.mono (by omega)))
  have sB:w.heap.size+1≤WB.heap.size:=by have:=hbw.size;omega
  have SB:=LH hsb
  rw [hW0] at hcv
  obtain ⟨L,hL⟩:∃ L,L=bytesI s:=⟨_,rfl⟩
  rw [← hL] at hr SB
  have HLN:=LH (show L.length=s.size by rw [hL];exact bytesI_len s)
  obtain ⟨rc,rl,ro,hrd⟩:∃ rc rl ro,rdC L true=(rc,rl,ro):=⟨_,_,_,rfl⟩
  rw [hrd] at hr
  have HRD:=LH hrd
  have HRR:=LH hr
  clear hW0 hbc hWB hw0 hbw hsb hL hrd hr h1 hs
  go_enter Tryz.func39,Tryz.ntmps39
  go_wp2_with fail
  have HR0:Hid (RdS WB (WB.alloc (.cells #[.slice (some ⟨w.heap.size+1,0,none⟩) s.size bcap,.bool true] 151)) WB.heap.size L true):=LH ⟨some ⟨w.heap.size+1,0,none⟩,bcap,by rw [HLN.out];exact Blk.new rfl,by rw [HLN.out];exact SB.out,Nat.le_refl _,below_alloc (Below.refl _ _)⟩
  refine Calls.mono (rdC_any HR0.out HRD.out) ?_
  rintro e w1 ⟨v,rfl,hv,hrs,hf⟩
  obtain ⟨a,cap,b,bc,rfl,hg,hm⟩:=id hv
  have CO:Hid (ComO w1 (w.heap.size+1) _ rc):=LH (hv.le (by simp;omega))
  have HZ:Hid (Blk w1 w.heap.size 58 [.int .u8 0,.int .i64 0,.slice none 0 0,.int .i64 0,.string ⟨#[]⟩,.string ⟨#[]⟩,.int .i64 0,.int .i64 0,.slice none 0 0,.int .i64 0,.int .i64 0,.int .i64 0]):=LH ((hf.1.block _ (by omega)).trans (HZ0.out.alloc _))
  have HB:Hid (Below w.heap.size w w1):=LH ((HB0.out.alloc HB0.out.size _).trans (hf.1.mono (by omega)))
  obtain ⟨ra,rcap,hrb,-,-⟩:=hrs
  have HRB:=LH hrb
  have s1:WB.heap.size < w1.heap.size:=hrb.lt
  clear hv hg hm hf hrb hcv
  obtain ⟨okx,hokx⟩:∃ q,q=okCom rc:=⟨_,rfl⟩
  obtain ⟨xk,hxk⟩:∃ q:Int,q=if okCom rc=true then 0 else 120:=⟨_,rfl⟩
  have HXK:=LH hxk
  have hxk2:=hxk
  rw [← hokx] at hxk2
  have HX2:=LH hxk2
  obtain ⟨m,hm⟩:∃ m,m=rl.length:=⟨_,rfl⟩
  have HRX:=LH (show (if (ro && (decide (m=0) && okx))=true then (rc,(0:Int)) else (default,8))=(c,x) by
   rw [← HRR.out,hokx,hm]
   have:decide (rl.length=0)=decide (rl=[]):=by simp
   rw [this])
  rw [← hm] at HRB
  clear hxk hxk2 hokx hm HRR HRD HLN
  obtain ⟨rb0,rb1,rbz⟩:=cells2 HRB.out
  obtain ⟨⟨⟨z0,z1,z2,z3⟩,⟨z4,z5,z6,z7⟩,z8,z9,z10,z11⟩,zz⟩:=cells12 HZ.out
  have zl:=HZ.out.lt
  have CR:=LH CO.out.reads
  obtain ⟨gn,hgn⟩:∃ n,n=rc.msg.groups.length:=⟨_,rfl⟩
  obtain ⟨mn,hmn⟩:∃ n,n=rc.members.length:=⟨_,rfl⟩
  have HGN:=LH hgn
  have HMN:=LH hmn
  rw [← hgn,← hmn] at CR ⊢
  clear hgn hmn
  obtain ⟨kd,⟨i1,g1,t1,k1,b1⟩,ci,ct,ml,cp,cw,cn⟩:=rc
  simp only at CR HGN HMN CO ⊢
  have hB1:Hid (Below w.heap.size w (w1.alloc (.cells #[.int .u8 kd,.int .i64 i1,.slice a gn cap,.int .i64 t1,.string k1,.string b1,.int .i64 ci,.int .i64 ct,.slice b mn bc,.int .i64 cp,.int .i64 cw,.int .i64 cn] 58))):=LH (HB.out.alloc HB.out.size _)
  have hZ1:Hid (Blk (w1.alloc (.cells #[.int .u8 kd,.int .i64 i1,.slice a gn cap,.int .i64 t1,.string k1,.string b1,.int .i64 ci,.int .i64 ct,.slice b mn bc,.int .i64 cp,.int .i64 cw,.int .i64 cn] 58)) w.heap.size 58 [.int .u8 0,.int .i64 0,.slice none 0 0,.int .i64 0,.string ⟨#[]⟩,.string ⟨#[]⟩,.int .i64 0,.int .i64 0,.slice none 0 0,.int .i64 0,.int .i64 0,.int .i64 0]):=LH (HZ.out.alloc _)
  cases ro
  ·have e:=HRX.out
   cases e
   go_wp2_with fail
   obtain ⟨⟨⟨t0,t1_,t2,t3⟩,⟨t4,t5,t6,t7⟩,t8,t9,t10,t11⟩,-⟩:=cells12 (Blk.alloc (blk_put12 HZ.out (.int .u8 0) (.int .i64 0) (.slice none 0 0) (.int .i64 0) (.string ⟨#[]⟩) (.string ⟨#[]⟩) (.int .i64 0) (.int .i64 0) (.slice none 0 0) (.int .i64 0) (.int .i64 0) (.int .i64 0)) (.cells #[.int .u8 kd,.int .i64 i1,.slice a gn cap,.int .i64 t1,.string k1,.string b1,.int .i64 ci,.int .i64 ct,.slice b mn bc,.int .i64 cp,.int .i64 cw,.int .i64 cn] 58))
   have HBX:=((((((((((((HB.out.setCell (p:=⟨w.heap.size,0,none⟩) (Nat.le_refl _) (.int .u8 0)).setCell (p:=⟨w.heap.size,1,none⟩) (Nat.le_refl _) (.int .i64 0)).setCell (p:=⟨w.heap.size,2,none⟩) (Nat.le_refl _) (.slice none 0 0)).setCell (p:=⟨w.heap.size,3,none⟩) (Nat.le_refl _) (.int .i64 0)).setCell (p:=⟨w.heap.size,4,none⟩) (Nat.le_refl _) (.string ⟨#[]⟩)).setCell (p:=⟨w.heap.size,5,none⟩) (Nat.le_refl _) (.string ⟨#[]⟩)).setCell (p:=⟨w.heap.size,6,none⟩) (Nat.le_refl _) (.int .i64 0)).setCell (p:=⟨w.heap.size,7,none⟩) (Nat.le_refl _) (.int .i64 0)).setCell (p:=⟨w.heap.size,8,none⟩) (Nat.le_refl _) (.slice none 0 0)).setCell (p:=⟨w.heap.size,9,none⟩) (Nat.le_refl _) (.int .i64 0)).setCell (p:=⟨w.heap.size,10,none⟩) (Nat.le_refl _) (.int .i64 0)).setCell (p:=⟨w.heap.size,11,none⟩) (Nat.le_refl _) (.int .i64 0))
   exact bodyPost_ret (v:=.tuple #[.agg #[.int .u8 0,.int .i64 0,.slice none 0 0,.int .i64 0,.string ⟨#[]⟩,.string ⟨#[]⟩,.int .i64 0,.int .i64 0,.slice none 0 0,.int .i64 0,.int .i64 0,.int .i64 0],.int .i64 8]) (by simp [results,Tryz.results39,go_sem,t0,t1_,t2,t3,t4,t5,t6,t7,t8,t9,t10,t11]) rfl ⟨_,rfl,⟨none,0,none,0,rfl,ownI_nil _ _,ownI_nil _ _⟩,HBX.alloc HBX.size _⟩
  ·by_cases hm0:0 < m
   ·have e:=HRX.out
    rw [show decide (m=0)=false by simp;omega] at e
    cases e
    have hm1:(0:Int) < (m:Int):=by omega
    go_wp2_with fail
    obtain ⟨⟨⟨t0,t1_,t2,t3⟩,⟨t4,t5,t6,t7⟩,t8,t9,t10,t11⟩,-⟩:=cells12 (Blk.alloc (blk_put12 HZ.out (.int .u8 0) (.int .i64 0) (.slice none 0 0) (.int .i64 0) (.string ⟨#[]⟩) (.string ⟨#[]⟩) (.int .i64 0) (.int .i64 0) (.slice none 0 0) (.int .i64 0) (.int .i64 0) (.int .i64 0)) (.cells #[.int .u8 kd,.int .i64 i1,.slice a gn cap,.int .i64 t1,.string k1,.string b1,.int .i64 ci,.int .i64 ct,.slice b mn bc,.int .i64 cp,.int .i64 cw,.int .i64 cn] 58))
    have HBX:=((((((((((((HB.out.setCell (p:=⟨w.heap.size,0,none⟩) (Nat.le_refl _) (.int .u8 0)).setCell (p:=⟨w.heap.size,1,none⟩) (Nat.le_refl _) (.int .i64 0)).setCell (p:=⟨w.heap.size,2,none⟩) (Nat.le_refl _) (.slice none 0 0)).setCell (p:=⟨w.heap.size,3,none⟩) (Nat.le_refl _) (.int .i64 0)).setCell (p:=⟨w.heap.size,4,none⟩) (Nat.le_refl _) (.string ⟨#[]⟩)).setCell (p:=⟨w.heap.size,5,none⟩) (Nat.le_refl _) (.string ⟨#[]⟩)).setCell (p:=⟨w.heap.size,6,none⟩) (Nat.le_refl _) (.int .i64 0)).setCell (p:=⟨w.heap.size,7,none⟩) (Nat.le_refl _) (.int .i64 0)).setCell (p:=⟨w.heap.size,8,none⟩) (Nat.le_refl _) (.slice none 0 0)).setCell (p:=⟨w.heap.size,9,none⟩) (Nat.le_refl _) (.int .i64 0)).setCell (p:=⟨w.heap.size,10,none⟩) (Nat.le_refl _) (.int .i64 0)).setCell (p:=⟨w.heap.size,11,none⟩) (Nat.le_refl _) (.int .i64 0))
    exact bodyPost_ret (v:=.tuple #[.agg #[.int .u8 0,.int .i64 0,.slice none 0 0,.int .i64 0,.string ⟨#[]⟩,.string ⟨#[]⟩,.int .i64 0,.int .i64 0,.slice none 0 0,.int .i64 0,.int .i64 0,.int .i64 0],.int .i64 8]) (by simp [results,Tryz.results39,go_sem,t0,t1_,t2,t3,t4,t5,t6,t7,t8,t9,t10,t11]) rfl ⟨_,rfl,⟨none,0,none,0,rfl,ownI_nil _ _,ownI_nil _ _⟩,HBX.alloc HBX.size _⟩
   ·obtain rfl:m=0:=by omega
    have e:=HRX.out
    clear HRX hm0
    go_wp2_with fail
    refine Calls.mono (chkCom_any (x:=xk) (CR.out.below (below_alloc (Below.refl _ _))) HXK.out) ?_
    rintro e2 w2 ⟨rfl,hb⟩
    have hB2:=LH (hB1.out.trans (hb.mono hB1.out.size))
    have hZ2:=LH (Blk.step hZ1.out hb)
    have HC2:Hid (Blk w2 w1.heap.size 58 [.int .u8 kd,.int .i64 i1,.slice a gn cap,.int .i64 t1,.string k1,.string b1,.int .i64 ci,.int .i64 ct,.slice b mn bc,.int .i64 cp,.int .i64 cw,.int .i64 cn]):=LH (Blk.step (Blk.new rfl) hb)
    have CO2:=LH ((CO.out.keep (below_alloc (Below.refl _ _))).keep hb)
    have s2:w1.heap.size < w2.heap.size:=HC2.out.lt
    clear hb z0 z1 z2 z3 z4 z5 z6 z7 z8 z9 z10 z11 zz zl rb0 rb1 rbz
    obtain ⟨⟨⟨z0,z1,z2,z3⟩,⟨z4,z5,z6,z7⟩,z8,z9,z10,z11⟩,zz⟩:=cells12 hZ2.out
    have zl:=hZ2.out.lt
    obtain ⟨⟨⟨d0,d1,d2,d3⟩,⟨d4,d5,d6,d7⟩,d8,d9,d10,d11⟩,dz⟩:=cells12 HC2.out
    cases okx
    ·obtain rfl:xk=120:=by rw [HX2.out];rfl
     cases e
     go_wp2_with fail
     obtain ⟨⟨⟨t0,t1_,t2,t3⟩,⟨t4,t5,t6,t7⟩,t8,t9,t10,t11⟩,-⟩:=cells12 (blk_put12 hZ2.out (.int .u8 0) (.int .i64 0) (.slice none 0 0) (.int .i64 0) (.string ⟨#[]⟩) (.string ⟨#[]⟩) (.int .i64 0) (.int .i64 0) (.slice none 0 0) (.int .i64 0) (.int .i64 0) (.int .i64 0))
     have HBX:=((((((((((((hB2.out.setCell (p:=⟨w.heap.size,0,none⟩) (Nat.le_refl _) (.int .u8 0)).setCell (p:=⟨w.heap.size,1,none⟩) (Nat.le_refl _) (.int .i64 0)).setCell (p:=⟨w.heap.size,2,none⟩) (Nat.le_refl _) (.slice none 0 0)).setCell (p:=⟨w.heap.size,3,none⟩) (Nat.le_refl _) (.int .i64 0)).setCell (p:=⟨w.heap.size,4,none⟩) (Nat.le_refl _) (.string ⟨#[]⟩)).setCell (p:=⟨w.heap.size,5,none⟩) (Nat.le_refl _) (.string ⟨#[]⟩)).setCell (p:=⟨w.heap.size,6,none⟩) (Nat.le_refl _) (.int .i64 0)).setCell (p:=⟨w.heap.size,7,none⟩) (Nat.le_refl _) (.int .i64 0)).setCell (p:=⟨w.heap.size,8,none⟩) (Nat.le_refl _) (.slice none 0 0)).setCell (p:=⟨w.heap.size,9,none⟩) (Nat.le_refl _) (.int .i64 0)).setCell (p:=⟨w.heap.size,10,none⟩) (Nat.le_refl _) (.int .i64 0)).setCell (p:=⟨w.heap.size,11,none⟩) (Nat.le_refl _) (.int .i64 0))
     exact bodyPost_ret (v:=.tuple #[.agg #[.int .u8 0,.int .i64 0,.slice none 0 0,.int .i64 0,.string ⟨#[]⟩,.string ⟨#[]⟩,.int .i64 0,.int .i64 0,.slice none 0 0,.int .i64 0,.int .i64 0,.int .i64 0],.int .i64 8]) (by simp [results,Tryz.results39,go_sem,t0,t1_,t2,t3,t4,t5,t6,t7,t8,t9,t10,t11]) rfl ⟨_,rfl,⟨none,0,none,0,rfl,ownI_nil _ _,ownI_nil _ _⟩,HBX⟩
    ·obtain rfl:xk=0:=by rw [HX2.out];rfl
     cases e
     go_wp2_with fail
     obtain rfl:=HGN.out
     obtain rfl:=HMN.out
     obtain ⟨⟨⟨t0,t1_,t2,t3⟩,⟨t4,t5,t6,t7⟩,t8,t9,t10,t11⟩,-⟩:=cells12 (blk_put12 hZ2.out (.int .u8 kd) (.int .i64 i1) (.slice a g1.length cap) (.int .i64 t1) (.string k1) (.string b1) (.int .i64 ci) (.int .i64 ct) (.slice b ml.length bc) (.int .i64 cp) (.int .i64 cw) (.int .i64 cn))
     have HBX:=((((((((((((hB2.out.setCell (p:=⟨w.heap.size,0,none⟩) (Nat.le_refl _) (.int .u8 kd)).setCell (p:=⟨w.heap.size,1,none⟩) (Nat.le_refl _) (.int .i64 i1)).setCell (p:=⟨w.heap.size,2,none⟩) (Nat.le_refl _) (.slice a g1.length cap)).setCell (p:=⟨w.heap.size,3,none⟩) (Nat.le_refl _) (.int .i64 t1)).setCell (p:=⟨w.heap.size,4,none⟩) (Nat.le_refl _) (.string k1)).setCell (p:=⟨w.heap.size,5,none⟩) (Nat.le_refl _) (.string b1)).setCell (p:=⟨w.heap.size,6,none⟩) (Nat.le_refl _) (.int .i64 ci)).setCell (p:=⟨w.heap.size,7,none⟩) (Nat.le_refl _) (.int .i64 ct)).setCell (p:=⟨w.heap.size,8,none⟩) (Nat.le_refl _) (.slice b ml.length bc)).setCell (p:=⟨w.heap.size,9,none⟩) (Nat.le_refl _) (.int .i64 cp)).setCell (p:=⟨w.heap.size,10,none⟩) (Nat.le_refl _) (.int .i64 cw)).setCell (p:=⟨w.heap.size,11,none⟩) (Nat.le_refl _) (.int .i64 cn))
     exact bodyPost_ret (v:=.tuple #[.agg #[.int .u8 kd,.int .i64 i1,.slice a g1.length cap,.int .i64 t1,.string k1,.string b1,.int .i64 ci,.int .i64 ct,.slice b ml.length bc,.int .i64 cp,.int .i64 cw,.int .i64 cn],.int .i64 0]) (by simp [results,Tryz.results39,go_sem,t0,t1_,t2,t3,t4,t5,t6,t7,t8,t9,t10,t11]) rfl ⟨_,rfl,(ComO.le ((((((((((((CO2.out.far (b:=w.heap.size) (o:=0) (u:=.int .u8 kd) (by omega)).far (b:=w.heap.size) (o:=1) (u:=.int .i64 i1) (by omega)).far (b:=w.heap.size) (o:=2) (u:=.slice a g1.length cap) (by omega)).far (b:=w.heap.size) (o:=3) (u:=.int .i64 t1) (by omega)).far (b:=w.heap.size) (o:=4) (u:=.string k1) (by omega)).far (b:=w.heap.size) (o:=5) (u:=.string b1) (by omega)).far (b:=w.heap.size) (o:=6) (u:=.int .i64 ci) (by omega)).far (b:=w.heap.size) (o:=7) (u:=.int .i64 ct) (by omega)).far (b:=w.heap.size) (o:=8) (u:=.slice b ml.length bc) (by omega)).far (b:=w.heap.size) (o:=9) (u:=.int .i64 cp) (by omega)).far (b:=w.heap.size) (o:=10) (u:=.int .i64 cw) (by omega)).far (b:=w.heap.size) (o:=11) (u:=.int .i64 cn) (by omega)) (by omega)),HBX⟩
def strCell (s:ByteArray):List Value:=[.string s]
def cmdsL:List ByteArray→List PC→List PC × Int
 |[],acc=>(acc,0)
 |s :: l,acc=>if (readP s).2=0 then cmdsL l (acc++[(readP s).1]) else ([],8)
def cmdsP (l:List ByteArray):List PC × Int:=if 200 < l.length then ([],4) else cmdsL l []
def CmdsEnd (l:List PC) (x:Int) (w:World) (e:Ending) (w':World):Prop:=∃ a cap,e=.returned (.tuple #[.slice a l.length cap,.int .i64 x])∧OwnK w' w.heap.size (.slice a l.length cap) l∧Below w.heap.size w w'
theorem drop_consS {l:List ByteArray} {k:Nat} (h:k < l.length):l.drop k=l.getD k ByteArray.empty :: l.drop (k+1):=by
 rw [List.drop_eq_getElem_cons h];simp [List.getD,h]
theorem news_com (p:PCV) {W:World} {g:Nat} {t:TypeId} (hg:g=W.heap.size):∀ j u,(comCs p)[j]?=some u→(W.alloc (.cells #[.int .u8 p.2.kind,.int .i64 p.2.msg.id,p.1.1,.int .i64 p.2.msg.topic,.string p.2.msg.key,.string p.2.msg.body,.int .i64 p.2.id,.int .i64 p.2.time,p.1.2,.int .i64 p.2.topic,.int .i64 p.2.who,.int .i64 p.2.n] t)).cell? ((⟨g,0,none⟩:Addr).add j)=some u:=by
 intro j u hj
 have hB:=Blk.new (w:=W) (t:=t) (cs:=comCs p) hg
 have h:=hB.cell j
 rw [show ((⟨g,0,none⟩:Addr).add j)=⟨g,j,none⟩ by unfold Addr.add;split <;> simp_all]
 rw [← hj]
 exact h
set_option maxHeartbeats 8000000 in
set_option maxRecDepth 100000 in
theorem logCmds_any {v:Value} {l:List ByteArray} {w:World} {cs:List PC} {x:Int} (h:SliceR w v 1 strCell l) (hs:∀ s∈l,s.size≤maxLen) (hr:cmdsP l=(cs,x)) :
  Calls Tryz.prog 20 #[v] w (CmdsEnd cs x w):=by
 obtain ⟨i0,hi,hz0,hz1,hz2⟩:=info_parts info_com
 obtain ⟨a,cap,rfl,hcap,hmx,_,hd⟩:=h.one (c:=fun s=>.string s) ByteArray.empty
 obtain ⟨n,hn⟩:∃ n,n=l.length:=⟨_,rfl⟩
 rw [cmdsP,← hn] at hr
 rw [← hn] at hcap hd ⊢
 have HN:=LH hn
 have HD:=LH hd
 have HS:=LH hs
 unfold maxLen at hmx
 by_cases h2:200 < n
 ·rw [if_pos h2] at hr
  cases hr
  have h2':(200:Int) < (n:Int):=by omega
  clear hd hn h hs h2
  go_enter Tryz.func20,Tryz.ntmps20
  go_wp2_with fail
  exact bodyPost_ret (v:=.tuple #[.slice none 0 0,.int .i64 4]) (by simp [results,Tryz.results20,go_sem]) rfl ⟨none,0,rfl,OwnK.nil _ _,Below.refl _ _⟩
 ·rw [if_neg h2] at hr
  have HR:=LH (show cmdsL (l.drop 0) []=(cs,x) from hr)
  have h2':¬ (200:Int) < (n:Int):=by omega
  have HN2:=LH (show n≤200 by omega)
  clear hd hn h hs h2 hr
  go_enter Tryz.func20,Tryz.ntmps20
  go_wp2_with fail
  go_loopg [2,5,6,7,13] n (fun g t2 _ _ _ i wr=>∃ (k:Nat) (al:Option Addr) (cl:Nat) (acc:List PC),k≤n∧g=n - k∧i=.int .i64 (k:Int)∧t2=.slice al k cl∧Hid (acc.length=k)∧Hid (OwnK wr w.heap.size (.slice al k cl) acc)∧Hid (cmdsL (l.drop k) acc=(cs,x))∧Hid (Below w.heap.size w wr))
  case atStart=>exact ⟨0,none,0,[],Nat.zero_le _,rfl,rfl,rfl,rfl,OwnK.nil _ _,HR,Below.refl _ _⟩
  case round =>
   clear HR
   obtain ⟨k,al,cl,acc,hk,rfl,rfl,rfl,HL,HO,HR,HB⟩:=hrel
   by_cases hlt:k < n
   ·have hk0:(0:Int)≤(k:Int):=by omega
    have hk1:(k:Int) < (n:Int):=by omega
    obtain ⟨b,off,rfl,hat⟩:=HD.out (by omega)
    have c0:=keep HB.out (hat k hlt)
    have hkl:k < l.length:=by rw [← HN.out];exact hlt
    obtain ⟨s,hs⟩:∃ s,s=l.getD k ByteArray.empty:=⟨_,rfl⟩
    have HSZ:=LH (show s.size≤maxLen by
     rw [hs,show l.getD k ByteArray.empty=l[k] by simp [List.getD,hkl]]
     exact HS.out _ (List.getElem_mem hkl))
    have HE:=HR.out
    rw [drop_consS hkl,cmdsL,← hs] at HE
    rw [← hs] at c0
    obtain ⟨c,e0,hrd⟩:∃ c e,readP s=(c,e):=⟨_,_,rfl⟩
    rw [hrd] at HE
    have HRD:=LH hrd
    have HE2:=LH HE
    clear hat hkl hs hrd HE HR
    go_wp2_with fail
    refine Calls.mono (read_any HRD.out HSZ.out) ?_
    rintro e w1 ⟨v,rfl,hv,hb⟩
    have CO:=LH hv
    have HO1:=LH (HO.out.keep hb)
    have HB1:Hid (Below w.heap.size w w1):=LH (HB.out.trans (hb.mono HB.out.size))
    have s1:wr.heap.size≤w1.heap.size:=hb.size
    have s0:w.heap.size≤wr.heap.size:=HB.out.size
    obtain ⟨ga,gc,ma,mc,rfl,hg,hm⟩:=hv
    obtain ⟨gn,hgn⟩:∃ q,q=c.msg.groups.length:=⟨_,rfl⟩
    obtain ⟨mn,hmn⟩:∃ q,q=c.members.length:=⟨_,rfl⟩
    rw [← hgn] at hg
    rw [← hmn] at hm
    rw [← hgn,← hmn]
    have HPV:=LH (show OwnL w1 w.heap.size (((.slice ga gn gc,.slice ma mn mc),c):PCV) from ⟨hg.le (by omega),hm.le (by omega)⟩)
    clear hb hgn hmn hg hm c0 CO HO HB
    obtain ⟨kd,⟨i1,g1,t1,k1,b1⟩,ci,ct,ml,cp,cw,cn⟩:=c
    simp only at HPV ⊢
    by_cases he:e0=0
    ·have HE3:=HE2.out
     rw [if_pos he] at HE3
     have HE4:=LH HE3
     subst he
     clear HE2 HE3
     obtain ⟨pl,hpl,hrow,hall⟩:=HO1.out
     rw [HL.out] at hrow
     have HROW:=LH hrow
     have HPL:=LH hpl
     have HALL:=LH hall
     clear hpl hrow hall
     go_wp2_with (at_builtin;go_must (refine wpList_append_own _ rfl _ _ 74 rfl w.heap.size 58 i0 _ 12 144 Tryz.underlying74 hi hz0 hz1 hz2 rfl (by decide) _ _ _ rfl (ownsRow_keep HROW.out (((Below.refl _ _).alloc (Nat.le_refl _) _).alloc (by simp) _)) ⟨w1.heap.size+1,0,none⟩ 1 1 (comCs ((.slice ga gn gc,.slice ma mn mc),⟨kd,⟨i1,g1,t1,k1,b1⟩,ci,ct,ml,cp,cw,cn⟩)) rfl rfl ?_ (by intro v hv;simp [comCs] at hv;rcases hv with rfl|rfl|rfl|rfl|rfl|rfl|rfl|rfl|rfl|rfl|rfl|rfl <;> rfl) (by have:=HN2.out;unfold maxLen;omega) (by have:=HN2.out;omega) (by simp;omega) ?_))
     ·exact news_com ((.slice ga gn gc,.slice ma mn mc),⟨kd,⟨i1,g1,t1,k1,b1⟩,ci,ct,ml,cp,cw,cn⟩) (by simp)
     ·intro v' w3 hown2 hgrow _
      have hbw:∀ o o':Obj,Below w1.heap.size w1 ((w1.alloc o).alloc o'):=fun o o'=>((Below.refl _ _).alloc (Nat.le_refl _) o).alloc (by simp) o'
      have HO3:=LH (OwnK.snoc (c:=((.slice ga gn gc,.slice ma mn mc),⟨kd,⟨i1,g1,t1,k1,b1⟩,ci,ct,ml,cp,cw,cn⟩)) HPL.out (ownsRow_keep HROW.out (hbw _ _)) (fun p hp=>(HALL.out p hp).keep (hbw _ _)) (HPV.out.keep (hbw _ _)) hgrow hown2 HL.out.symm)
      have HB3:=LH (((HB1.out.alloc HB1.out.size _).alloc (by have:=HB1.out.size;simp;omega) _).grown hgrow (by have:=HB1.out.size;simp;omega) (fun j hj=>(HROW.out.lt j hj).1))
      obtain ⟨a',c',hv'⟩:=HO3.out.shape
      have HL3:=LH (show (acc++[(⟨kd,⟨i1,g1,t1,k1,b1⟩,ci,ct,ml,cp,cw,cn⟩:PC)]).length=k+1 by rw [List.length_append,HL.out];rfl)
      simp only at HO3 hv'
      rw [HL3.out] at hv'
      subst hv'
      clear hown2 hgrow hbw
      go_wp2_with fail
      go_roundg (n - (k+1))
      case measure=>omega
      case rel=>exact ⟨k+1,a',c',_,by omega,rfl,by go_num,rfl,HL3,HO3,HE4,HB3⟩
    ·have HE3:=HE2.out
     rw [if_neg he] at HE3
     cases HE3
     have hne:(e0 != 0)=true:=by simp [he]
     clear HE2 he
     go_wp2_with fail
     exact bodyPost_ret (v:=.tuple #[.slice none 0 0,.int .i64 8]) (by simp [results,Tryz.results20,go_sem]) rfl ⟨none,0,rfl,OwnK.nil _ _,HB1.out.alloc HB1.out.size _⟩
   ·obtain rfl:k=n:=by omega
    have hlt':¬ (k:Int) < (k:Int):=by omega
    have HE:=HR.out
    rw [List.drop_eq_nil_of_le (by rw [← HN.out];exact Nat.le_refl _),cmdsL] at HE
    cases HE
    clear HR
    go_wp2_with fail
    exact bodyPost_ret (v:=.tuple #[.slice al k cl,.int .i64 0]) (by simp [results,Tryz.results20,go_sem]) rfl ⟨al,cl,by rw [HL.out],by rw [HL.out];exact HO.out,HB.out⟩
theorem cmdsL_ok:∀ (l:List ByteArray) (acc cs:List PC),cmdsL l acc=(cs,0)→(∀ c∈acc,okCom c=true)→(∀ c∈cs,okCom c=true)∧cs.length=acc.length+l.length
 |[],acc,cs,h,ha=>by
  rw [cmdsL] at h
  cases h
  exact ⟨ha,rfl⟩
 |s :: l,acc,cs,h,ha=>by
  rw [cmdsL] at h
  split at h
  ·next h0 =>
   have hc:okCom (readP s).1=true:=readP_ok (c:=(readP s).1) (by rw [← h0])
   have:=cmdsL_ok l (acc++[(readP s).1]) cs h (fun c hm=>by
    rcases List.mem_append.1 hm with hm|hm
    ·exact ha c hm
    ·rw [List.mem_singleton.1 hm]
     exact hc)
   refine ⟨this.1,?_⟩
   rw [this.2]
   simp only [List.length_append,List.length_cons,List.length_nil]
   omega
  ·cases h
theorem cmdsP_ok {l:List ByteArray} {cs:List PC} (h:cmdsP l=(cs,0)):(∀ c∈cs,okCom c=true)∧cs.length≤200:=by
 unfold cmdsP at h
 split at h
 ·cases h
 ·next hn =>
  have:=cmdsL_ok l [] cs h (fun c hm=>by cases hm)
  refine ⟨this.1,?_⟩
  have h2:=this.2
  simp only [List.length_nil] at h2
  omega
def playX (g:Int) (l:List ByteArray):Int:=if g < 0∨4≤g then 2 else (cmdsP l).2
def playR (g:Int) (l:List ByteArray):Gs × List Tk:=runQ g (cmdsP l).1 gs0 []
theorem putsM_len:∀ (l:List PM) (m:Mdl) (tk:List Tk),(putsM m tk l).2.length≤tk.length+l.length
 |[],_,tk=>by rw [putsM];exact Nat.le_refl _
 |x :: l,m,tk=>by
  rw [putsM]
  split
  ·have:=putsM_len l (putM m x.id x.topic x.key x.body).1 (tk++[(x.id,x.topic,(putM m x.id x.topic x.key x.body).2.1)])
   simp only [List.length_append,List.length_cons,List.length_nil] at this ⊢
   omega
  ·have:=putsM_len l m tk
   simp only [List.length_cons]
   omega
theorem stepQ_few {g:Int} {c:PC} {s:Gs}:(stepQ g c s).2.1.length≤200:=by
 unfold stepQ
 split
 ·exact Nat.zero_le _
 ·split
  ·exact Nat.zero_le _
  ·next h4 h0 =>
   obtain ⟨e1,e2⟩:=apS_len (Classical.not_not.1 h0)
   have:=putsM_len (apS g c s.sk).2.2 s.m []
   simp only [List.length_nil] at this
   show (putsM s.m [] (apS g c s.sk).2.2).2.length≤200
   omega
theorem stepQ_bad {g:Int} {c:PC} {s:Gs} (h:(stepQ g c s).2.2≠0):(stepQ g c s).2.1=[]:=by
 unfold stepQ at h ⊢
 split
 ·rfl
 ·next h4 =>
  rw [if_neg h4] at h
  split
  ·rfl
  ·next h0 =>
   rw [if_neg h0] at h
   exact absurd rfl h
theorem skZ_reads (w:World):SkR w (.agg #[.int .i64 skZ.clock,.slice none 0 0,.slice none 0 0]) skZ :=
 OwnSk.reads (B:=0) (show OwnSk w 0 _ skZ from ⟨none,0,none,0,rfl,OwnW.nil _ _,OwnD.nil _ _⟩)
def ltS (a b:Int × Int):Prop:=a.1 < b.1∨(a.1=b.1∧a.2 < b.2)
theorem ltS_trans {a b c:Int × Int} (h:ltS a b) (h':ltS b c):ltS a c:=by unfold ltS at *;omega
theorem ltS_irr (a:Int × Int):¬ ltS a a:=by unfold ltS;omega
theorem lessW_iff {x y:Wt}:lessW x y=true↔ltS (ofW x) (ofW y):=by simp [lessW,lessB,ltS,ofW]
structure InvK (s:Sk):Prop where
 c0:0≤s.clock
 up:s.done.Pairwise ltS
 dc:∀ d∈s.done,d.1≤s.clock
 dw:∀ w∈s.waits,∀ d∈s.done,ltS d (ofW w)
 wi:s.waits.Pairwise fun x y=>x.msg.id < y.msg.id
 wd:∀ w∈s.waits,∀ d∈s.done,w.msg.id≠d.2
 di:s.done.Pairwise fun a b=>a.2≠b.2
 wc:∀ w∈s.waits,w.time≤s.clock
 sm:∀ w∈s.waits,smallI w.msg.id
 mn:minS s.waits=false
theorem invK_z:InvK skZ:=⟨Int.le_refl _,List.Pairwise.nil,(fun _ h=>by cases h),(fun _ h=>by cases h),List.Pairwise.nil,(fun _ h=>by cases h),List.Pairwise.nil,(fun _ h=>by cases h),(fun _ h=>by cases h),rfl⟩
theorem minW_mem:∀ (m:Wt) (l:List Wt),minW m l∈m :: l
 |m,[]=>List.mem_singleton.2 rfl
 |m,x :: l=>by
  rw [minW]
  have:=minW_mem (if cmpW x m < 0 then x else m) l
  rcases List.mem_cons.1 this with h|h
  ·rw [h]
   split
   ·exact List.mem_cons_of_mem _ (List.mem_cons_self ..)
   ·exact List.mem_cons_self ..
  ·exact List.mem_cons_of_mem _ (List.mem_cons_of_mem _ h)
theorem cmpW_neg {x y:Wt}:cmpW x y < 0↔ltS (ofW x) (ofW y):=by
 rw [← lessW_iff]
 unfold cmpW
 split
 ·next h=>simp [h]
 ·next h =>
  constructor
  ·intro h2
   split at h2 <;> omega
  ·intro h2
   exact absurd h2 h
theorem minW_le:∀ (m:Wt) (l:List Wt),∀ y∈m :: l,¬ ltS (ofW y) (ofW (minW m l))
 |m,[],y,h=>by
  rw [List.mem_singleton.1 h]
  exact ltS_irr _
 |m,x :: l,y,h=>by
  rw [minW]
  by_cases hc:cmpW x m < 0
  ·rw [if_pos hc]
   have hx:=cmpW_neg.1 hc
   rcases List.mem_cons.1 h with rfl|h
   ·intro h2
    exact minW_le x l x (List.mem_cons_self ..) (ltS_trans hx h2)
   ·exact minW_le x l y h
  ·rw [if_neg hc]
   have hx:¬ ltS (ofW x) (ofW m):=fun h2=>hc (cmpW_neg.2 h2)
   rcases List.mem_cons.1 h with rfl|h
   ·exact minW_le y l y (List.mem_cons_self ..)
   ·rcases List.mem_cons.1 h with rfl|h
    ·intro h2
     have h3:=minW_le m l m (List.mem_cons_self ..)
     apply hx
     unfold ltS at *
     omega
    ·exact minW_le m l y (List.mem_cons_of_mem _ h)
theorem posW_self:∀ {l:List Wt} (_:l.Pairwise fun x y=>x.msg.id < y.msg.id) (x:Wt),x∈l→l[posW l x.msg.id]?=some x
 |[],_,x,h=>by cases h
 |y :: l,hp,x,h=>by
  rw [List.pairwise_cons] at hp
  unfold posW
  rcases List.mem_cons.1 h with rfl|h
  ·rw [List.takeWhile_cons_of_neg (by simp)]
   rfl
  ·rw [List.takeWhile_cons_of_pos (by simpa using hp.1 x h)]
   exact posW_self hp.2 x h
theorem delW_self {l:List Wt} (hp:l.Pairwise fun x y=>x.msg.id < y.msg.id) {x:Wt} (hx:x∈l):∀ y∈delW l (posW l x.msg.id),y∈l∧y.msg.id≠x.msg.id:=by
 intro y hy
 refine ⟨delW_mem hy,fun e=>?_⟩
 have hg:=posW_self hp x hx
 obtain ⟨hlt,hget⟩:=List.getElem?_eq_some_iff.1 hg
 have hsplit:l=l.take (posW l x.msg.id)++x :: l.drop (posW l x.msg.id+1):=by
  have h:=(List.take_append_drop (posW l x.msg.id) l).symm
  rw [List.drop_eq_getElem_cons hlt,hget] at h
  exact h
 rw [hsplit] at hp
 obtain ⟨p1,p2,p3⟩:=List.pairwise_append.1 hp
 rw [List.pairwise_cons] at p2
 rcases List.mem_append.1 hy with hy|hy
 ·have:=p3 y hy x (List.mem_cons_self ..)
  omega
 ·have:=p2.1 y hy
  omega
structure InvD (s:Sk):Prop where
 c0:0≤s.clock
 up:s.done.Pairwise ltS
 dc:∀ d∈s.done,d.1≤s.clock
 dw:∀ w∈s.waits,∀ d∈s.done,ltS d (ofW w)
 wi:s.waits.Pairwise fun x y=>x.msg.id < y.msg.id
 wd:∀ w∈s.waits,∀ d∈s.done,w.msg.id≠d.2
 di:s.done.Pairwise fun a b=>a.2≠b.2
 wc:∀ w∈s.waits,w.time≤s.clock
 sm:∀ w∈s.waits,smallI w.msg.id
theorem InvD.one {s:Sk} (h:InvD s) {x:Wt} {l:List Wt} (he:s.waits=x :: l) :
  InvD ⟨s.clock,delW s.waits (posW s.waits (minW x l).msg.id),s.done++[ofW (minW x l)]⟩:=by
 have hm:minW x l∈s.waits:=by rw [he];exact minW_mem x l
 have hd:=delW_self h.wi hm
 have hle:∀ y∈s.waits,¬ ltS (ofW y) (ofW (minW x l)):=fun y hy=>minW_le x l y (by rw [← he];exact hy)
 refine ⟨h.c0,?_,?_,?_,h.wi.sublist (delW_sub _ _),?_,?_,fun w hw=>h.wc w (hd w hw).1,fun w hw=>h.sm w (hd w hw).1⟩
 ·refine List.pairwise_append.2 ⟨h.up,List.pairwise_singleton _ _,fun a ha b hb=>?_⟩
  rw [List.mem_singleton.1 hb]
  exact h.dw _ hm a ha
 ·intro d hdm
  rcases List.mem_append.1 hdm with hdm|hdm
  ·exact h.dc d hdm
  ·rw [List.mem_singleton.1 hdm]
   exact h.wc _ hm
 ·intro w hw d hdm
  rcases List.mem_append.1 hdm with hdm|hdm
  ·exact h.dw w (hd w hw).1 d hdm
  ·rw [List.mem_singleton.1 hdm]
   have h1:=hle w (hd w hw).1
   have h2:=(hd w hw).2
   unfold ltS ofW at *
   simp only at *
   omega
 ·intro w hw d hdm
  rcases List.mem_append.1 hdm with hdm|hdm
  ·exact h.wd w (hd w hw).1 d hdm
  ·rw [List.mem_singleton.1 hdm]
   exact (hd w hw).2
 ·refine List.pairwise_append.2 ⟨h.di,List.pairwise_singleton _ _,fun a ha b hb=>?_⟩
  rw [List.mem_singleton.1 hb]
  exact fun e=>h.wd _ hm a ha e.symm
theorem delW_short {s:Sk} {x:Wt} {l:List Wt} (h:InvD s) (he:s.waits=x :: l):(delW s.waits (posW s.waits (minW x l).msg.id)).length+1=s.waits.length:=by
 have hm:minW x l∈s.waits:=by rw [he];exact minW_mem x l
 obtain ⟨hlt,_⟩:=List.getElem?_eq_some_iff.1 (posW_self h.wi _ hm)
 rw [delW_len hlt]
 omega
theorem delS_inv:∀ (f:Nat) (s:Sk) (out:List PM),InvD s→s.waits.length≤f→InvK (delS f s out).1
 |0,s,out,h,hf=>by
  rw [delS]
  have hw:s.waits=[]:=List.length_eq_zero_iff.1 (by omega)
  exact ⟨h.c0,h.up,h.dc,h.dw,h.wi,h.wd,h.di,h.wc,h.sm,by rw [hw];rfl⟩
 |f+1,s,out,h,hf=>by
  rw [delS]
  split
  ·next he=>exact ⟨h.c0,h.up,h.dc,h.dw,h.wi,h.wd,h.di,h.wc,h.sm,by rw [he];rfl⟩
  ·next x l he =>
   split
   ·refine delS_inv f _ _ (h.one he) ?_
    have:=delW_short h he
    simp only
    omega
   ·next hfin=>exact ⟨h.c0,h.up,h.dc,h.dw,h.wi,h.wd,h.di,h.wc,h.sm,by rw [he];simpa [minS] using hfin⟩
theorem delS_none {s:Sk} (h:minS s.waits=false):∀ (f:Nat) (out:List PM),delS f s out=(s,out)
 |0,out=>by rw [delS]
 |f+1,out=>by
  rw [delS]
  split
  ·rfl
  ·next x l he =>
   rw [he] at h
   rw [if_neg (by simpa [minS] using h)]
end Go.Proofs.YtkkohllhebdlcaaGreatDoor
