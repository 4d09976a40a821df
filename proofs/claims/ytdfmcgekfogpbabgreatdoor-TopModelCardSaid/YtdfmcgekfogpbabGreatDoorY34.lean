/-
  Proved here: command's reader at every kind; command.Read. No condition. log.Commands: the commands of a log. No condition but that its texts a model.Stream: the stream that a model stands for, or the error.
-/
import Derived.Test.YtdfmcgekfogpbabGreatDoorY27
import Derived.Test.YtdfmcgekfogpbabGreatDoorY28
import Derived.Test.YtdfmcgekfogpbabGreatDoorY29
import Derived.Test.YtdfmcgekfogpbabGreatDoorY30
import Derived.Lib.ConvBytes
set_option maxRecDepth 100000
namespace Go.Proofs.YtdfmcgekfogpbabGreatDoor
open Go.RowKit
theorem rdC_any {w0 w:World} {g:Nat} {l:List Int} {o:Bool} (h:RdS w0 w g l o) {c:PC} {l':List Int} {o':Bool} (hr:rdC l o=(c,l',o')) :
  Calls Tryz.prog 53 #[.pointer (some ⟨g,0,none⟩)] w (RdCEnd w0 g c l' o' w):=by
 obtain ⟨k,hk⟩:∃ k,k=min (nN l) 255:=⟨_,rfl⟩
 rw [rdC,← hk] at hr
 by_cases h1:k=1
 ·rw [if_pos h1] at hr
  exact rd_k1 h hk h1 hr
 rw [if_neg h1] at hr
 by_cases h2:k=2
 ·rw [if_pos h2] at hr
  exact rd_k2 h hk h2 hr
 rw [if_neg h2] at hr
 by_cases h3:k=3
 ·rw [if_pos h3] at hr
  exact rd_k3 h hk h3 hr
 rw [if_neg h3] at hr
 by_cases h4:k=4
 ·rw [if_pos h4] at hr
  exact rd_k4 h hk h4 hr
 rw [if_neg h4] at hr
 by_cases h5:k=5
 ·rw [if_pos (Or.inl h5),h5] at hr
  exact rd_k5 h hk h5 hr
 by_cases h6:k=6
 ·rw [if_pos (Or.inr h6),h6] at hr
  exact rd_k6 h hk h6 hr
 rw [if_neg (by rintro (h|h) <;> contradiction)] at hr
 by_cases h255:255 < nN l
 ·obtain rfl:k=255:=by omega
  exact rd_k9a h hk h255 hr
 ·exact rd_k9b h hk ⟨h255,h1,h2,h3,h4,h5,h6⟩ hr
def bytesI (s:ByteArray):List Int:=s.data.toList.map fun b=>(b.toNat:Int)
theorem bytesI_len (s:ByteArray):(bytesI s).length=s.size:=by simp [bytesI]
def readP (s:ByteArray):PC × Int :=
 if 1024 < s.size then (default,3) else if ((rdC (bytesI s) true).2.2 && (decide ((rdC (bytesI s) true).2.1=[]) && okCom (rdC (bytesI s) true).1))=true then ((rdC (bytesI s) true).1,0) else (default,8)
theorem readP_ok {s:ByteArray} {c:PC} (h:readP s=(c,0)):okCom c=true:=by
 rw [readP] at h
 split at h
 ·cases h
 ·split at h
  ·rename_i h2
   cases h
   rw [Bool.and_eq_true,Bool.and_eq_true] at h2
   exact h2.2.2
  ·cases h
def ReadEnd (c:PC) (x:Int) (w:World) (e:Ending) (w':World):Prop:=∃ v,e=.returned (.tuple #[v,.int .i64 x])∧ComO w' w.heap.size v c∧Below w.heap.size w w'
theorem bytes_reads (w:World) (e:TypeId) (s:ByteArray) (h:s.size≤maxLen):SliceR (Lib.bytesWorld w e s) (.slice (some ⟨w.heap.size,0,none⟩) s.size (grownCap w s.size 0 e)) 1 byteCell (bytesI s):=by
 refine ⟨some ⟨w.heap.size,0,none⟩,grownCap w s.size 0 e,by rw [bytesI_len],by rw [bytesI_len];exact grownCap_ge _ _ _ _,grownCap_le_maxLen _ _ _ _ h,fun hn=>by simp at hn,fun hl=>⟨_,0,rfl,fun i hi j hj=>?_⟩⟩
 obtain rfl:j=0:=by omega
 rw [bytesI_len] at hi
 have:=Lib.bytesWorld_cell w e s i hi
 rw [show 0+(i * 1+0)=i by omega,this]
 simp [byteCell,bytesI,List.getD,hi]
set_option maxHeartbeats 8000000 in
set_option maxRecDepth 100000 in
theorem read_any {s:ByteArray} {w:World} {c:PC} {x:Int} (hr:readP s=(c,x)) (hs:s.size≤maxLen):Calls Tryz.prog 24 #[.string s] w (ReadEnd c x w):=by
 by_cases h1:1024 < s.size
 ·rw [readP,if_pos h1] at hr
  cases hr
  have h1':(1024:Int) < (s.size:Int):=by omega
  go_enter Tryz.func24,Tryz.ntmps24
  go_wp2_with fail
  obtain ⟨⟨⟨t0,t1_,t2,t3⟩,⟨t4,t5,t6,t7⟩,t8,t9,t10,t11⟩,-⟩:=cells12 (Blk.new (w:=w) (t:=79) (cs:=[.int .u8 0,.int .i64 0,.slice none 0 0,.int .i64 0,.string ⟨#[]⟩,.string ⟨#[]⟩,.int .i64 0,.int .i64 0,.slice none 0 0,.int .i64 0,.int .i64 0,.int .i64 0]) rfl)
  exact bodyPost_ret (v:=.tuple #[.agg #[.int .u8 0,.int .i64 0,.slice none 0 0,.int .i64 0,.string ⟨#[]⟩,.string ⟨#[]⟩,.int .i64 0,.int .i64 0,.slice none 0 0,.int .i64 0,.int .i64 0,.int .i64 0],.int .i64 3]) (by simp [results,Tryz.results24,go_sem,t0,t1_,t2,t3,t4,t5,t6,t7,t8,t9,t10,t11]) rfl ⟨_,rfl,⟨none,0,none,0,rfl,ownI_nil _ _,ownI_nil _ _⟩,below_alloc (Below.refl _ _)⟩
 ·rw [readP,if_neg h1] at hr
  have h1':¬ (1024:Int) < (s.size:Int):=by omega
  obtain ⟨W0,hW0⟩:∃ W0,W0=w.alloc (.cells #[.int .u8 0,.int .i64 0,.slice none 0 0,.int .i64 0,.string ⟨#[]⟩,.string ⟨#[]⟩,.int .i64 0,.int .i64 0,.slice none 0 0,.int .i64 0,.int .i64 0,.int .i64 0] 79):=⟨_,rfl⟩
  have hcv:=Lib.run_convert_string_bytes W0 9 132 5 s Tryz.underlying9 Tryz.underlying132 Tryz.underlying5
  have hsb:=bytes_reads W0 5 s hs
  have hbw:Below W0.heap.size W0 (Lib.bytesWorld W0 5 s):=⟨rfl,rfl,rfl,by rw [Lib.bytesWorld_size];omega,fun k hk=>Lib.bytesWorld_at_old W0 5 s k hk⟩
  obtain ⟨bcap,hbc⟩:∃ n,n=grownCap W0 s.size 0 5:=⟨_,rfl⟩
  obtain ⟨WB,hWB⟩:∃ W,W=Lib.bytesWorld W0 5 s:=⟨_,rfl⟩
  rw [← hbc] at hcv hsb
  rw [← hWB] at hcv hsb hbw
  have hw0:W0.heap.size=w.heap.size+1:=by rw [hW0];simp
  rw [hw0] at hcv hsb
  have HZ0:Hid (Blk WB w.heap.size 79 [.int .u8 0,.int .i64 0,.slice none 0 0,.int .i64 0,.string ⟨#[]⟩,.string ⟨#[]⟩,.int .i64 0,.int .i64 0,.slice none 0 0,.int .i64 0,.int .i64 0,.int .i64 0]):=LH (Blk.step (by rw [hW0];exact Blk.new rfl) hbw)
  have HB0:Hid (Below w.heap.size w WB):=LH ((below_alloc (Below.refl _ _)).trans (by rw [← hW0];exact hbw.mono (by omega)))
  have sB:w.heap.size+1≤WB.heap.size:=by have:=hbw.size;omega
  have SB:=LH hsb
  rw [hW0] at hcv
  obtain ⟨L,hL⟩:∃ L,L=bytesI s:=⟨_,rfl⟩
  rw [← hL] at hr SB
  have HLN:=LH (show L.length=s.size by rw [hL];exact bytesI_len s)
  obtain ⟨rc,rl,ro,hrd⟩:∃ rc rl ro,rdC L true=(rc,rl,ro):=⟨_,_,_,rfl⟩
  rw [hrd] at hr
  have HRD:=LH hrd
  have HRR:=LH hr
  clear hW0 hbc hWB hw0 hbw hsb hL hrd hr h1 hs
  go_enter Tryz.func24,Tryz.ntmps24
  go_wp2_with fail
  have HR0:Hid (RdS WB (WB.alloc (.cells #[.slice (some ⟨w.heap.size+1,0,none⟩) s.size bcap,.bool true] 134)) WB.heap.size L true):=LH ⟨some ⟨w.heap.size+1,0,none⟩,bcap,by rw [HLN.out];exact Blk.new rfl,by rw [HLN.out];exact SB.out,Nat.le_refl _,below_alloc (Below.refl _ _)⟩
  refine Calls.mono (rdC_any HR0.out HRD.out) ?_
  rintro e w1 ⟨v,rfl,hv,hrs,hf⟩
  obtain ⟨a,cap,b,bc,rfl,hg,hm⟩:=id hv
  have CO:Hid (ComO w1 (w.heap.size+1) _ rc):=LH (hv.le (by simp;omega))
  have HZ:Hid (Blk w1 w.heap.size 79 [.int .u8 0,.int .i64 0,.slice none 0 0,.int .i64 0,.string ⟨#[]⟩,.string ⟨#[]⟩,.int .i64 0,.int .i64 0,.slice none 0 0,.int .i64 0,.int .i64 0,.int .i64 0]):=LH ((hf.1.block _ (by omega)).trans (HZ0.out.alloc _))
  have HB:Hid (Below w.heap.size w w1):=LH ((HB0.out.alloc HB0.out.size _).trans (hf.1.mono (by omega)))
  obtain ⟨ra,rcap,hrb,-,-⟩:=hrs
  have HRB:=LH hrb
  have s1:WB.heap.size < w1.heap.size:=hrb.lt
  clear hv hg hm hf hrb hcv
  obtain ⟨okx,hokx⟩:∃ q,q=okCom rc:=⟨_,rfl⟩
  obtain ⟨xk,hxk⟩:∃ q:Int,q=if okCom rc=true then 0 else 120:=⟨_,rfl⟩
  have HXK:=LH hxk
  have hxk2:=hxk
  rw [← hokx] at hxk2
  have HX2:=LH hxk2
  obtain ⟨m,hm⟩:∃ m,m=rl.length:=⟨_,rfl⟩
  have HRX:=LH (show (if (ro && (decide (m=0) && okx))=true then (rc,(0:Int)) else (default,8))=(c,x) by
   rw [← HRR.out,hokx,hm]
   have:decide (rl.length=0)=decide (rl=[]):=by simp
   rw [this])
  rw [← hm] at HRB
  clear hxk hxk2 hokx hm HRR HRD HLN
  obtain ⟨rb0,rb1,rbz⟩:=cells2 HRB.out
  obtain ⟨⟨⟨z0,z1,z2,z3⟩,⟨z4,z5,z6,z7⟩,z8,z9,z10,z11⟩,zz⟩:=cells12 HZ.out
  have zl:=HZ.out.lt
  have CR:=LH CO.out.reads
  obtain ⟨gn,hgn⟩:∃ n,n=rc.msg.groups.length:=⟨_,rfl⟩
  obtain ⟨mn,hmn⟩:∃ n,n=rc.members.length:=⟨_,rfl⟩
  have HGN:=LH hgn
  have HMN:=LH hmn
  rw [← hgn,← hmn] at CR ⊢
  clear hgn hmn
  obtain ⟨kd,⟨i1,g1,t1,k1,b1⟩,ci,ct,ml,cp,cw,cn⟩:=rc
  simp only at CR HGN HMN CO ⊢
  have hB1:Hid (Below w.heap.size w (w1.alloc (.cells #[.int .u8 kd,.int .i64 i1,.slice a gn cap,.int .i64 t1,.string k1,.string b1,.int .i64 ci,.int .i64 ct,.slice b mn bc,.int .i64 cp,.int .i64 cw,.int .i64 cn] 79))):=LH (HB.out.alloc HB.out.size _)
  have hZ1:Hid (Blk (w1.alloc (.cells #[.int .u8 kd,.int .i64 i1,.slice a gn cap,.int .i64 t1,.string k1,.string b1,.int .i64 ci,.int .i64 ct,.slice b mn bc,.int .i64 cp,.int .i64 cw,.int .i64 cn] 79)) w.heap.size 79 [.int .u8 0,.int .i64 0,.slice none 0 0,.int .i64 0,.string ⟨#[]⟩,.string ⟨#[]⟩,.int .i64 0,.int .i64 0,.slice none 0 0,.int .i64 0,.int .i64 0,.int .i64 0]):=LH (HZ.out.alloc _)
  cases ro
  ·have e:=HRX.out
   cases e
   go_wp2_with fail
   obtain ⟨⟨⟨t0,t1_,t2,t3⟩,⟨t4,t5,t6,t7⟩,t8,t9,t10,t11⟩,-⟩:=cells12 (Blk.alloc (blk_put12 HZ.out (.int .u8 0) (.int .i64 0) (.slice none 0 0) (.int .i64 0) (.string ⟨#[]⟩) (.string ⟨#[]⟩) (.int .i64 0) (.int .i64 0) (.slice none 0 0) (.int .i64 0) (.int .i64 0) (.int .i64 0)) (.cells #[.int .u8 kd,.int .i64 i1,.slice a gn cap,.int .i64 t1,.string k1,.string b1,.int .i64 ci,.int .i64 ct,.slice b mn bc,.int .i64 cp,.int .i64 cw,.int .i64 cn] 79))
   have HBX:=((((((((((((HB.out.setCell (p:=⟨w.heap.size,0,none⟩) (Nat.le_refl _) (.int .u8 0)).setCell (p:=⟨w.heap.size,1,none⟩) (Nat.le_refl _) (.int .i64 0)).setCell (p:=⟨w.heap.size,2,none⟩) (Nat.le_refl _) (.slice none 0 0)).setCell (p:=⟨w.heap.size,3,none⟩) (Nat.le_refl _) (.int .i64 0)).setCell (p:=⟨w.heap.size,4,none⟩) (Nat.le_refl _) (.string ⟨#[]⟩)).setCell (p:=⟨w.heap.size,5,none⟩) (Nat.le_refl _) (.string ⟨#[]⟩)).setCell (p:=⟨w.heap.size,6,none⟩) (Nat.le_refl _) (.int .i64 0)).setCell (p:=⟨w.heap.size,7,none⟩) (Nat.le_refl _) (.int .i64 0)).setCell (p:=⟨w.heap.size,8,none⟩) (Nat.le_refl _) (.slice none 0 0)).setCell (p:=⟨w.heap.size,9,none⟩) (Nat.le_refl _) (.int .i64 0)).setCell (p:=⟨w.heap.size,10,none⟩) (Nat.le_refl _) (.int .i64 0)).setCell (p:=⟨w.heap.size,11,none⟩) (Nat.le_refl _) (.int .i64 0))
   exact bodyPost_ret (v:=.tuple #[.agg #[.int .u8 0,.int .i64 0,.slice none 0 0,.int .i64 0,.string ⟨#[]⟩,.string ⟨#[]⟩,.int .i64 0,.int .i64 0,.slice none 0 0,.int .i64 0,.int .i64 0,.int .i64 0],.int .i64 8]) (by simp [results,Tryz.results24,go_sem,t0,t1_,t2,t3,t4,t5,t6,t7,t8,t9,t10,t11]) rfl ⟨_,rfl,⟨none,0,none,0,rfl,ownI_nil _ _,ownI_nil _ _⟩,HBX.alloc HBX.size _⟩
  ·by_cases hm0:0 < m
   ·have e:=HRX.out
    rw [show decide (m=0)=false by simp;omega] at e
    cases e
    have hm1:(0:Int) < (m:Int):=by omega
    go_wp2_with fail
    obtain ⟨⟨⟨t0,t1_,t2,t3⟩,⟨t4,t5,t6,t7⟩,t8,t9,t10,t11⟩,-⟩:=cells12 (Blk.alloc (blk_put12 HZ.out (.int .u8 0) (.int .i64 0) (.slice none 0 0) (.int .i64 0) (.string ⟨#[]⟩) (.string ⟨#[]⟩) (.int .i64 0) (.int .i64 0) (.slice none 0 0) (.int .i64 0) (.int .i64 0) (.int .i64 0)) (.cells #[.int .u8 kd,.int .i64 i1,.slice a gn cap,.int .i64 t1,.string k1,.string b1,.int .i64 ci,.int .i64 ct,.slice b mn bc,.int .i64 cp,.int .i64 cw,.int .i64 cn] 79))
    have HBX:=((((((((((((HB.out.setCell (p:=⟨w.heap.size,0,none⟩) (Nat.le_refl _) (.int .u8 0)).setCell (p:=⟨w.heap.size,1,none⟩) (Nat.le_refl _) (.int .i64 0)).setCell (p:=⟨w.heap.size,2,none⟩) (Nat.le_refl _) (.slice none 0 0)).setCell (p:=⟨w.heap.size,3,none⟩) (Nat.le_refl _) (.int .i64 0)).setCell (p:=⟨w.heap.size,4,none⟩) (Nat.le_refl _) (.string ⟨#[]⟩)).setCell (p:=⟨w.heap.size,5,none⟩) (Nat.le_refl _) (.string ⟨#[]⟩)).setCell (p:=⟨w.heap.size,6,none⟩) (Nat.le_refl _) (.int .i64 0)).setCell (p:=⟨w.heap.size,7,none⟩) (Nat.le_refl _) (.int .i64 0)).setCell (p:=⟨w.heap.size,8,none⟩) (Nat.le_refl _) (.slice none 0 0)).setCell (p:=⟨w.heap.size,9,none⟩) (Nat.le_refl _) (.int .i64 0)).setCell (p:=⟨w.heap.size,10,none⟩) (Nat.le_refl _) (.int .i64 0)).setCell (p:=⟨w.heap.size,11,none⟩) (Nat.le_refl _) (.int .i64 0))
    exact bodyPost_ret (v:=.tuple #[.agg #[.int .u8 0,.int .i64 0,.slice none 0 0,.int .i64 0,.string ⟨#[]⟩,.string ⟨#[]⟩,.int .i64 0,.int .i64 0,.slice none 0 0,.int .i64 0,.int .i64 0,.int .i64 0],.int .i64 8]) (by simp [results,Tryz.results24,go_sem,t0,t1_,t2,t3,t4,t5,t6,t7,t8,t9,t10,t11]) rfl ⟨_,rfl,⟨none,0,none,0,rfl,ownI_nil _ _,ownI_nil _ _⟩,HBX.alloc HBX.size _⟩
   ·obtain rfl:m=0:=by omega
    have e:=HRX.out
    clear HRX hm0
    go_wp2_with fail
    refine Calls.mono (chkCom_any (x:=xk) (CR.out.below (below_alloc (Below.refl _ _))) HXK.out) ?_
    rintro e2 w2 ⟨rfl,hb⟩
    have hB2:=LH (hB1.out.trans (hb.mono hB1.out.size))
    have hZ2:=LH (Blk.step hZ1.out hb)
    have HC2:Hid (Blk w2 w1.heap.size 79 [.int .u8 kd,.int .i64 i1,.slice a gn cap,.int .i64 t1,.string k1,.string b1,.int .i64 ci,.int .i64 ct,.slice b mn bc,.int .i64 cp,.int .i64 cw,.int .i64 cn]):=LH (Blk.step (Blk.new rfl) hb)
    have CO2:=LH ((CO.out.keep (below_alloc (Below.refl _ _))).keep hb)
    have s2:w1.heap.size < w2.heap.size:=HC2.out.lt
    clear hb z0 z1 z2 z3 z4 z5 z6 z7 z8 z9 z10 z11 zz zl rb0 rb1 rbz
    obtain ⟨⟨⟨z0,z1,z2,z3⟩,⟨z4,z5,z6,z7⟩,z8,z9,z10,z11⟩,zz⟩:=cells12 hZ2.out
    have zl:=hZ2.out.lt
    obtain ⟨⟨⟨d0,d1,d2,d3⟩,⟨d4,d5,d6,d7⟩,d8,d9,d10,d11⟩,dz⟩:=cells12 HC2.out
    cases okx
    ·obtain rfl:xk=120:=by rw [HX2.out];rfl
     cases e
     go_wp2_with fail
     obtain ⟨⟨⟨t0,t1_,t2,t3⟩,⟨t4,t5,t6,t7⟩,t8,t9,t10,t11⟩,-⟩:=cells12 (blk_put12 hZ2.out (.int .u8 0) (.int .i64 0) (.slice none 0 0) (.int .i64 0) (.string ⟨#[]⟩) (.string ⟨#[]⟩) (.int .i64 0) (.int .i64 0) (.slice none 0 0) (.int .i64 0) (.int .i64 0) (.int .i64 0))
     have HBX:=((((((((((((hB2.out.setCell (p:=⟨w.heap.size,0,none⟩) (Nat.le_refl _) (.int .u8 0)).setCell (p:=⟨w.heap.size,1,none⟩) (Nat.le_refl _) (.int .i64 0)).setCell (p:=⟨w.heap.size,2,none⟩) (Nat.le_refl _) (.slice none 0 0)).setCell (p:=⟨w.heap.size,3,none⟩) (Nat.le_refl _) (.int .i64 0)).setCell (p:=⟨w.heap.size,4,none⟩) (Nat.le_refl _) (.string ⟨#[]⟩)).setCell (p:=⟨w.heap.size,5,none⟩) (Nat.le_refl _) (.string ⟨#[]⟩)).setCell (p:=⟨w.heap.size,6,none⟩) (Nat.le_refl _) (.int .i64 0)).setCell (p:=⟨w.heap.size,7,none⟩) (Nat.le_refl _) (.int .i64 0)).setCell (p:=⟨w.heap.size,8,none⟩) (Nat.le_refl _) (.slice none 0 0)).setCell (p:=⟨w.heap.size,9,none⟩) (Nat.le_refl _) (.int .i64 0)).setCell (p:=⟨w.heap.size,10,none⟩) (Nat.le_refl _) (.int .i64 0)).setCell (p:=⟨w.heap.size,11,none⟩) (Nat.le_refl _) (.int .i64 0))
     exact bodyPost_ret (v:=.tuple #[.agg #[.int .u8 0,.int .i64 0,.slice none 0 0,.int .i64 0,.string ⟨#[]⟩,.string ⟨#[]⟩,.int .i64 0,.int .i64 0,.slice none 0 0,.int .i64 0,.int .i64 0,.int .i64 0],.int .i64 8]) (by simp [results,Tryz.results24,go_sem,t0,t1_,t2,t3,t4,t5,t6,t7,t8,t9,t10,t11]) rfl ⟨_,rfl,⟨none,0,none,0,rfl,ownI_nil _ _,ownI_nil _ _⟩,HBX⟩
    ·obtain rfl:xk=0:=by rw [HX2.out];rfl
     cases e
     go_wp2_with fail
     obtain rfl:=HGN.out
     obtain rfl:=HMN.out
     obtain ⟨⟨⟨t0,t1_,t2,t3⟩,⟨t4,t5,t6,t7⟩,t8,t9,t10,t11⟩,-⟩:=cells12 (blk_put12 hZ2.out (.int .u8 kd) (.int .i64 i1) (.slice a g1.length cap) (.int .i64 t1) (.string k1) (.string b1) (.int .i64 ci) (.int .i64 ct) (.slice b ml.length bc) (.int .i64 cp) (.int .i64 cw) (.int .i64 cn))
     have HBX:=((((((((((((hB2.out.setCell (p:=⟨w.heap.size,0,none⟩) (Nat.le_refl _) (.int .u8 kd)).setCell (p:=⟨w.heap.size,1,none⟩) (Nat.le_refl _) (.int .i64 i1)).setCell (p:=⟨w.heap.size,2,none⟩) (Nat.le_refl _) (.slice a g1.length cap)).setCell (p:=⟨w.heap.size,3,none⟩) (Nat.le_refl _) (.int .i64 t1)).setCell (p:=⟨w.heap.size,4,none⟩) (Nat.le_refl _) (.string k1)).setCell (p:=⟨w.heap.size,5,none⟩) (Nat.le_refl _) (.string b1)).setCell (p:=⟨w.heap.size,6,none⟩) (Nat.le_refl _) (.int .i64 ci)).setCell (p:=⟨w.heap.size,7,none⟩) (Nat.le_refl _) (.int .i64 ct)).setCell (p:=⟨w.heap.size,8,none⟩) (Nat.le_refl _) (.slice b ml.length bc)).setCell (p:=⟨w.heap.size,9,none⟩) (Nat.le_refl _) (.int .i64 cp)).setCell (p:=⟨w.heap.size,10,none⟩) (Nat.le_refl _) (.int .i64 cw)).setCell (p:=⟨w.heap.size,11,none⟩) (Nat.le_refl _) (.int .i64 cn))
     exact bodyPost_ret (v:=.tuple #[.agg #[.int .u8 kd,.int .i64 i1,.slice a g1.length cap,.int .i64 t1,.string k1,.string b1,.int .i64 ci,.int .i64 ct,.slice b ml.length bc,.int .i64 cp,.int .i64 cw,.int .i64 cn],.int .i64 0]) (by simp [results,Tryz.results24,go_sem,t0,t1_,t2,t3,t4,t5,t6,t7,t8,t9,t10,t11]) rfl ⟨_,rfl,(ComO.le ((((((((((((CO2.out.far (b:=w.heap.size) (o:=0) (u:=.int .u8 kd) (by omega)).far (b:=w.heap.size) (o:=1) (u:=.int .i64 i1) (by omega)).far (b:=w.heap.size) (o:=2) (u:=.slice a g1.length cap) (by omega)).far (b:=w.heap.size) (o:=3) (u:=.int .i64 t1) (by omega)).far (b:=w.heap.size) (o:=4) (u:=.string k1) (by omega)).far (b:=w.heap.size) (o:=5) (u:=.string b1) (by omega)).far (b:=w.heap.size) (o:=6) (u:=.int .i64 ci) (by omega)).far (b:=w.heap.size) (o:=7) (u:=.int .i64 ct) (by omega)).far (b:=w.heap.size) (o:=8) (u:=.slice b ml.length bc) (by omega)).far (b:=w.heap.size) (o:=9) (u:=.int .i64 cp) (by omega)).far (b:=w.heap.size) (o:=10) (u:=.int .i64 cw) (by omega)).far (b:=w.heap.size) (o:=11) (u:=.int .i64 cn) (by omega)) (by omega)),HBX⟩
def strCell (s:ByteArray):List Value:=[.string s]
def cmdsL:List ByteArray→List PC→List PC × Int
 |[],acc=>(acc,0)
 |s :: l,acc=>if (readP s).2=0 then cmdsL l (acc++[(readP s).1]) else ([],8)
def cmdsP (l:List ByteArray):List PC × Int:=if 200 < l.length then ([],4) else cmdsL l []
def CmdsEnd (l:List PC) (x:Int) (w:World) (e:Ending) (w':World):Prop:=∃ a cap,e=.returned (.tuple #[.slice a l.length cap,.int .i64 x])∧OwnK w' w.heap.size (.slice a l.length cap) l∧Below w.heap.size w w'
theorem drop_consS {l:List ByteArray} {k:Nat} (h:k < l.length):l.drop k=l.getD k ByteArray.empty :: l.drop (k+1):=by
 rw [List.drop_eq_getElem_cons h];simp [List.getD,h]
theorem news_com (p:PCV) {W:World} {g:Nat} {t:TypeId} (hg:g=W.heap.size):∀ j u,(comCs p)[j]?=some u→(W.alloc (.cells #[.int .u8 p.2.kind,.int .i64 p.2.msg.id,p.1.1,.int .i64 p.2.msg.topic,.string p.2.msg.key,.string p.2.msg.body,.int .i64 p.2.id,.int .i64 p.2.time,p.1.2,.int .i64 p.2.topic,.int .i64 p.2.who,.int .i64 p.2.n] t)).cell? ((⟨g,0,none⟩:Addr).add j)=some u:=by
 intro j u hj
 have hB:=Blk.new (w:=W) (t:=t) (cs:=comCs p) hg
 have h:=hB.cell j
 rw [show ((⟨g,0,none⟩:Addr).add j)=⟨g,j,none⟩ by unfold Addr.add;split <;> simp_all]
 rw [← hj]
 exact h
set_option maxHeartbeats 8000000 in
set_option maxRecDepth 100000 in
theorem logCmds_any {v:Value} {l:List ByteArray} {w:World} {cs:List PC} {x:Int} (h:SliceR w v 1 strCell l) (hs:∀ s∈l,s.size≤maxLen) (hr:cmdsP l=(cs,x)) :
  Calls Tryz.prog 7 #[v] w (CmdsEnd cs x w):=by
 obtain ⟨i0,hi,hz0,hz1,hz2⟩:=info_parts info_com
 obtain ⟨a,cap,rfl,hcap,hmx,_,hd⟩:=h.one (c:=fun s=>.string s) ByteArray.empty
 obtain ⟨n,hn⟩:∃ n,n=l.length:=⟨_,rfl⟩
 rw [cmdsP,← hn] at hr
 rw [← hn] at hcap hd ⊢
 have HN:=LH hn
 have HD:=LH hd
 have HS:=LH hs
 unfold maxLen at hmx
 by_cases h2:200 < n
 ·rw [if_pos h2] at hr
  cases hr
  have h2':(200:Int) < (n:Int):=by omega
  clear hd hn h hs h2
  go_enter Tryz.func7,Tryz.ntmps7
  go_wp2_with fail
  exact bodyPost_ret (v:=.tuple #[.slice none 0 0,.int .i64 4]) (by simp [results,Tryz.results7,go_sem]) rfl ⟨none,0,rfl,OwnK.nil _ _,Below.refl _ _⟩
 ·rw [if_neg h2] at hr
  have HR:=LH (show cmdsL (l.drop 0) []=(cs,x) from hr)
  have h2':¬ (200:Int) < (n:Int):=by omega
  have HN2:=LH (show n≤200 by omega)
  clear hd hn h hs h2 hr
  go_enter Tryz.func7,Tryz.ntmps7
  go_wp2_with fail
  go_loopg [2,5,6,7,13] n (fun g t2 _ _ _ i wr=>∃ (k:Nat) (al:Option Addr) (cl:Nat) (acc:List PC),k≤n∧g=n - k∧i=.int .i64 (k:Int)∧t2=.slice al k cl∧Hid (acc.length=k)∧Hid (OwnK wr w.heap.size (.slice al k cl) acc)∧Hid (cmdsL (l.drop k) acc=(cs,x))∧Hid (Below w.heap.size w wr))
  case atStart=>exact ⟨0,none,0,[],Nat.zero_le _,rfl,rfl,rfl,rfl,OwnK.nil _ _,HR,Below.refl _ _⟩
  case round =>
   clear HR
   obtain ⟨k,al,cl,acc,hk,rfl,rfl,rfl,HL,HO,HR,HB⟩:=hrel
   by_cases hlt:k < n
   ·have hk0:(0:Int)≤(k:Int):=by omega
    have hk1:(k:Int) < (n:Int):=by omega
    obtain ⟨b,off,rfl,hat⟩:=HD.out (by omega)
    have c0:=keep HB.out (hat k hlt)
    have hkl:k < l.length:=by rw [← HN.out];exact hlt
    obtain ⟨s,hs⟩:∃ s,s=l.getD k ByteArray.empty:=⟨_,rfl⟩
    have HSZ:=LH (show s.size≤maxLen by
     rw [hs,show l.getD k ByteArray.empty=l[k] by simp [List.getD,hkl]]
     exact HS.out _ (List.getElem_mem hkl))
    have HE:=HR.out
    rw [drop_consS hkl,cmdsL,← hs] at HE
    rw [← hs] at c0
    obtain ⟨c,e0,hrd⟩:∃ c e,readP s=(c,e):=⟨_,_,rfl⟩
    rw [hrd] at HE
    have HRD:=LH hrd
    have HE2:=LH HE
    clear hat hkl hs hrd HE HR
    go_wp2_with fail
    refine Calls.mono (read_any HRD.out HSZ.out) ?_
    rintro e w1 ⟨v,rfl,hv,hb⟩
    have CO:=LH hv
    have HO1:=LH (HO.out.keep hb)
    have HB1:Hid (Below w.heap.size w w1):=LH (HB.out.trans (hb.mono HB.out.size))
    have s1:wr.heap.size≤w1.heap.size:=hb.size
    have s0:w.heap.size≤wr.heap.size:=HB.out.size
    obtain ⟨ga,gc,ma,mc,rfl,hg,hm⟩:=hv
    obtain ⟨gn,hgn⟩:∃ q,q=c.msg.groups.length:=⟨_,rfl⟩
    obtain ⟨mn,hmn⟩:∃ q,q=c.members.length:=⟨_,rfl⟩
    rw [← hgn] at hg
    rw [← hmn] at hm
    rw [← hgn,← hmn]
    have HPV:=LH (show OwnL w1 w.heap.size (((.slice ga gn gc,.slice ma mn mc),c):PCV) from ⟨hg.le (by omega),hm.le (by omega)⟩)
    clear hb hgn hmn hg hm c0 CO HO HB
    obtain ⟨kd,⟨i1,g1,t1,k1,b1⟩,ci,ct,ml,cp,cw,cn⟩:=c
    simp only at HPV ⊢
    by_cases he:e0=0
    ·have HE3:=HE2.out
     rw [if_pos he] at HE3
     have HE4:=LH HE3
     subst he
     clear HE2 HE3
     obtain ⟨pl,hpl,hrow,hall⟩:=HO1.out
     rw [HL.out] at hrow
     have HROW:=LH hrow
     have HPL:=LH hpl
     have HALL:=LH hall
     clear hpl hrow hall
     go_wp2_with (at_builtin;go_must (refine wpList_append_own _ rfl _ _ 41 rfl w.heap.size 79 i0 _ 12 144 Tryz.underlying41 hi hz0 hz1 hz2 rfl (by decide) _ _ _ rfl (ownsRow_keep HROW.out (((Below.refl _ _).alloc (Nat.le_refl _) _).alloc (by simp) _)) ⟨w1.heap.size+1,0,none⟩ 1 1 (comCs ((.slice ga gn gc,.slice ma mn mc),⟨kd,⟨i1,g1,t1,k1,b1⟩,ci,ct,ml,cp,cw,cn⟩)) rfl rfl ?_ (by intro v hv;simp [comCs] at hv;rcases hv with rfl|rfl|rfl|rfl|rfl|rfl|rfl|rfl|rfl|rfl|rfl|rfl <;> rfl) (by have:=HN2.out;unfold maxLen;omega) (by have:=HN2.out;omega) (by simp;omega) ?_))
     ·exact news_com ((.slice ga gn gc,.slice ma mn mc),⟨kd,⟨i1,g1,t1,k1,b1⟩,ci,ct,ml,cp,cw,cn⟩) (by simp)
     ·intro v' w3 hown2 hgrow _
      have hbw:∀ o o':Obj,Below w1.heap.size w1 ((w1.alloc o).alloc o'):=fun o o'=>((Below.refl _ _).alloc (Nat.le_refl _) o).alloc (by simp) o'
      have HO3:=LH (OwnK.snoc (c:=((.slice ga gn gc,.slice ma mn mc),⟨kd,⟨i1,g1,t1,k1,b1⟩,ci,ct,ml,cp,cw,cn⟩)) HPL.out (ownsRow_keep HROW.out (hbw _ _)) (fun p hp=>(HALL.out p hp).keep (hbw _ _)) (HPV.out.keep (hbw _ _)) hgrow hown2 HL.out.symm)
      have HB3:=LH (((HB1.out.alloc HB1.out.size _).alloc (by have:=HB1.out.size;simp;omega) _).grown hgrow (by have:=HB1.out.size;simp;omega) (fun j hj=>(HROW.out.lt j hj).1))
      obtain ⟨a',c',hv'⟩:=HO3.out.shape
      have HL3:=LH (show (acc++[(⟨kd,⟨i1,g1,t1,k1,b1⟩,ci,ct,ml,cp,cw,cn⟩:PC)]).length=k+1 by rw [List.length_append,HL.out];rfl)
      simp only at HO3 hv'
      rw [HL3.out] at hv'
      subst hv'
      clear hown2 hgrow hbw
      go_wp2_with fail
      go_roundg (n - (k+1))
      case measure=>omega
      case rel=>exact ⟨k+1,a',c',_,by omega,rfl,by go_num,rfl,HL3,HO3,HE4,HB3⟩
    ·have HE3:=HE2.out
     rw [if_neg he] at HE3
     cases HE3
     have hne:(e0 != 0)=true:=by simp [he]
     clear HE2 he
     go_wp2_with fail
     exact bodyPost_ret (v:=.tuple #[.slice none 0 0,.int .i64 8]) (by simp [results,Tryz.results7,go_sem]) rfl ⟨none,0,rfl,OwnK.nil _ _,HB1.out.alloc HB1.out.size _⟩
   ·obtain rfl:k=n:=by omega
    have hlt':¬ (k:Int) < (k:Int):=by omega
    have HE:=HR.out
    rw [List.drop_eq_nil_of_le (by rw [← HN.out];exact Nat.le_refl _),cmdsL] at HE
    cases HE
    clear HR
    go_wp2_with fail
    exact bodyPost_ret (v:=.tuple #[.slice al k cl,.int .i64 0]) (by simp [results,Tryz.results7,go_sem]) rfl ⟨al,cl,by rw [HL.out],by rw [HL.out];exact HO.out,HB.out⟩
def streamE (m:Mdl):Str × Int:=if mayM m then (streamM m,0) else (Str.zero,8)
set_option maxHeartbeats 4000000 in
set_option maxRecDepth 100000 in
theorem mdlStream_any {v:Value} {m:Mdl} {w:World} {u:Str} {x:Int} (h:MdlR w v m) (hf:few m.coms) (hu:streamE m=(u,x)) :
  Calls Tryz.prog 15 #[v] w (DoEnd u x w):=by
 have S:=LH h
 have HF:=LH hf
 obtain ⟨a,cap,b,nc,cc,rfl,-,-⟩:=h.shape
 by_cases hm:mayM m
 ·rw [streamE,if_pos hm] at hu
  cases hu
  have HC:=LH (show (0:Int)=if mayM m then 0 else 8 by rw [if_pos hm])
  have HSH:=LH (mayM_shaped hm)
  have HT:=LH (show m.tops.length≤1000000∧few m.coms from ⟨by have:=hm.1.1;omega,hf⟩)
  clear h hf hm
  go_enter Tryz.func15,Tryz.ntmps15
  go_wp2_with fail
  refine Calls.mono (mdlCheck_any ?_ HF.out 0 HC.out) ?_
  ·exact S.out.below (by repeat (first|with_reducible (first|exact Below.refl _ _|apply Below.drew|apply below_alloc)|((first|with_reducible refine Below.alloc ?_ ?_ _|with_reducible refine Below.setCell ?_ ?_ _);rotate_left;focus (first|(simp <;> omega)|omega))))
  rintro e w1 ⟨rfl,hb⟩
  have HB:Hid (Below w.heap.size w _):=below_step (by repeat (first|with_reducible (first|exact Below.refl _ _|apply Below.drew|apply below_alloc)|((first|with_reducible refine Below.alloc ?_ ?_ _|with_reducible refine Below.setCell ?_ ?_ _);rotate_left;focus (first|(simp <;> omega)|omega)))) hb
  have P:Blk _ (w.heap.size) _ _:=Blk.step (by repeat (first|((with_reducible apply Blk.new);focus (first|rfl|(simp <;> omega)))|with_reducible (first|apply Blk.drew|apply Blk.alloc|apply Blk.set_)|((with_reducible apply Blk.far);rotate_left;focus (first|(simp <;> omega)|omega)))) hb
  obtain ⟨p0,p1,pz⟩:=cells2 P
  have pl:=Blk.lt P
  have HP:=LH P
  clear P
  have R:Blk _ (w.heap.size+1) _ _:=Blk.step (by repeat (first|((with_reducible apply Blk.new);focus (first|rfl|(simp <;> omega)))|with_reducible (first|apply Blk.drew|apply Blk.alloc|apply Blk.set_)|((with_reducible apply Blk.far);rotate_left;focus (first|(simp <;> omega)|omega)))) hb
  obtain ⟨r0,r1,rz⟩:=cells2 R
  have rl:=Blk.lt R
  have HR:=LH R
  clear R
  replace S:Hid (MdlR _ _ _):=mdlR_step S.out (by repeat (first|with_reducible (first|exact Below.refl _ _|apply Below.drew|apply below_alloc)|((first|with_reducible refine Below.alloc ?_ ?_ _|with_reducible refine Below.setCell ?_ ?_ _);rotate_left;focus (first|(simp <;> omega)|omega)))) hb
  have s1:w.heap.size+2≤w1.heap.size:=rl
  clear hb
  go_wp2_with fail
  refine Calls.mono (streamed_any ?_ HSH.out HT.out) ?_
  ·exact S.out.below (by repeat (first|with_reducible (first|exact Below.refl _ _|apply Below.drew|apply below_alloc)|((first|with_reducible refine Below.alloc ?_ ?_ _|with_reducible refine Below.setCell ?_ ?_ _);rotate_left;focus (first|(simp <;> omega)|omega))))
  rintro e w2 ⟨ta,tc,rfl,os,hb⟩
  obtain ⟨a6,cap6,b6,nc6,cc6,ev,-,-⟩:=os.reads.shape
  cases ev
  replace HB:Hid (Below w.heap.size w _):=below_step (by repeat (first|with_reducible (first|exact HB.out|exact Below.refl _ _|apply Below.drew|apply below_alloc)|((first|with_reducible refine Below.alloc ?_ ?_ _|with_reducible refine Below.setCell ?_ ?_ _);rotate_left;focus (first|(simp <;> omega)|omega)))) hb
  clear p0 p1 pz pl
  replace HP:Hid (Blk _ (w.heap.size) _ _):=Blk.step (by repeat (first|with_reducible exact HP.out|((with_reducible apply Blk.new);focus (first|rfl|(simp <;> omega)))|with_reducible (first|apply Blk.drew|apply Blk.alloc|apply Blk.set_)|((with_reducible apply Blk.far);rotate_left;focus (first|(simp <;> omega)|omega)))) hb
  obtain ⟨p0,p1,pz⟩:=cells2 HP.out
  have pl:=Blk.lt HP.out
  clear r0 r1 rz rl
  replace HR:Hid (Blk _ (w.heap.size+1) _ _):=Blk.step (by repeat (first|with_reducible exact HR.out|((with_reducible apply Blk.new);focus (first|rfl|(simp <;> omega)))|with_reducible (first|apply Blk.drew|apply Blk.alloc|apply Blk.set_)|((with_reducible apply Blk.far);rotate_left;focus (first|(simp <;> omega)|omega)))) hb
  obtain ⟨r0,r1,rz⟩:=cells2 HR.out
  have rl:=Blk.lt HR.out
  have OS:Hid (OwnS w2 (w.heap.size+2) _ (streamM m)):=LH (os.le (by first|omega|(simp;omega)))
  clear hb os
  go_wp2_with fail
  obtain ⟨t0,t1,-⟩:=cells2 ((HR.out.set_ 0 (.slice a6 (streamM m).tops.length cap6)).set_ 1 (.slice b6 nc6 cc6))
  refine bodyPost_ret (v:=.tuple #[.agg #[.slice a6 (streamM m).tops.length cap6,.slice b6 nc6 cc6],.int .i64 0]) (by simp [results,Tryz.results15,go_sem,t0,t1]) rfl ⟨_,_,rfl,?_,?_⟩
  ·exact ((OS.out.le (by omega)).blk HR.out (by decide) (by decide) (by decide) (by decide)).blk (HR.out.set_ 0 _) (by decide) (by decide) (by decide) (by decide)
  ·exact (HB.out.setCell (p:=⟨w.heap.size+1,0,none⟩) (by simp) _).setCell (p:=⟨w.heap.size+1,1,none⟩) (by simp) _
 ·rw [streamE,if_neg hm] at hu
  cases hu
  have HC:=LH (show (8:Int)=if mayM m then 0 else 8 by rw [if_neg hm])
  clear h hf hm
  go_enter Tryz.func15,Tryz.ntmps15
  go_wp2_with fail
  refine Calls.mono (mdlCheck_any ?_ HF.out 8 HC.out) ?_
  ·exact S.out.below (by repeat (first|with_reducible (first|exact Below.refl _ _|apply Below.drew|apply below_alloc)|((first|with_reducible refine Below.alloc ?_ ?_ _|with_reducible refine Below.setCell ?_ ?_ _);rotate_left;focus (first|(simp <;> omega)|omega))))
  rintro e w1 ⟨rfl,hb⟩
  have HB:Hid (Below w.heap.size w _):=below_step (by repeat (first|with_reducible (first|exact Below.refl _ _|apply Below.drew|apply below_alloc)|((first|with_reducible refine Below.alloc ?_ ?_ _|with_reducible refine Below.setCell ?_ ?_ _);rotate_left;focus (first|(simp <;> omega)|omega)))) hb
  have R:Blk _ (w.heap.size+1) _ _:=Blk.step (by repeat (first|((with_reducible apply Blk.new);focus (first|rfl|(simp <;> omega)))|with_reducible (first|apply Blk.drew|apply Blk.alloc|apply Blk.set_)|((with_reducible apply Blk.far);rotate_left;focus (first|(simp <;> omega)|omega)))) hb
  obtain ⟨r0,r1,rz⟩:=cells2 R
  have rl:=Blk.lt R
  have HR:=LH R
  clear R
  clear hb
  go_wp2_with fail
  obtain ⟨t0,t1,-⟩:=cells2 ((HR.out.set_ 0 (.slice none 0 0)).set_ 1 (.slice none 0 0))
  refine bodyPost_ret (v:=.tuple #[.agg #[.slice none 0 0,.slice none 0 0],.int .i64 8]) (by simp [results,Tryz.results15,go_sem,t0,t1]) rfl ⟨_,_,rfl,OwnS.zero _ _,?_⟩
  repeat (first|with_reducible (first|exact HB.out|exact Below.refl _ _|apply Below.drew|apply below_alloc)|((first|with_reducible refine Below.alloc ?_ ?_ _|with_reducible refine Below.setCell ?_ ?_ _);rotate_left;focus (first|(simp <;> omega)|omega)))
end Go.Proofs.YtdfmcgekfogpbabGreatDoor
