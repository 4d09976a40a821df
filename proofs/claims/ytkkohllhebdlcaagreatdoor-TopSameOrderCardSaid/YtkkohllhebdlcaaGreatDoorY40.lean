/-
  Proved here: order.table.one. Conditions: at most four groups, of at most 200 times
-/
import Derived.Test.YtkkohllhebdlcaaGreatDoorY36
import Derived.Test.YtkkohllhebdlcaaGreatDoorY38
set_option maxRecDepth 100000
namespace Go.Proofs.YtkkohllhebdlcaaGreatDoor
open Go.RowKit
structure TabI (t:List (List Gv)):Prop where
 four:t.length≤4
 few:∀ l∈t,l.length≤200
 ok:∀ l∈t,∀ x∈l,msgB x.2=true
theorem zero_msg (w:World):(zeroValue 56).run Tryz.prog w=.ok (.agg #[.int .i64 0,.slice none 0 0,.int .i64 0,.string ByteArray.empty,.string ByteArray.empty]) w:=by kernel_rfl
def GivS (w:World) (v:Value) (us:List (Value × Gv)):Prop:=SliceR w v 6 gvCs us∧∀ p∈us,IntsR w p.1 p.2.2.groups
theorem GivS.below {w w':World} {v:Value} {us:List (Value × Gv)} (h:GivS w v us) (hb:Below w.heap.size w w'):GivS w' v us:=⟨h.1.below gvCs_len hb,fun p hp=>(h.2 p hp).below hb⟩
theorem cell_map {w w':World} {mb:Nat} {es:Array MapEntry} {clock:Nat} {b o:Nat} {v:Value} (hm:w.heap[mb]?=some (.map es clock)) (hg:w.grownBy w' (some mb)) (h:w.cell? ⟨b,o,none⟩=some v):w'.cell? ⟨b,o,none⟩=some v:=by
 have hlt:b < w.heap.size:=World.block_lt_of_cell? w _ h
 have hne:b≠mb:=by
  rintro rfl
  simp [World.cell?,hm] at h
 rw [← h]
 exact World.cell?_of_block (a:=⟨b,o,none⟩) (hg.block b hlt (fun e=>hne (Option.some.inj e)))
theorem SliceR.map_grown {α:Type} {w w':World} {mb k:Nat} {es:Array MapEntry} {clock:Nat} {v:Value} {cells:α→List Value} {l:List α} (h:SliceR w v k cells l) (hc:∀ y,(cells y).length=k) (hm:w.heap[mb]?=some (.map es clock)) (hg:w.grownBy w' (some mb)):SliceR w' v k cells l:=by
 obtain ⟨a,cap,h1,h2,h3,h4,h5⟩:=h
 refine ⟨a,cap,h1,h2,h3,h4,fun hp=>?_⟩
 obtain ⟨b,off,e1,e2⟩:=h5 hp
 refine ⟨b,off,e1,fun i hi j hj=>?_⟩
 have hx:=e2 i hi j hj
 have hlt:j < (cells l[i]).length:=by rw [hc];exact hj
 rw [List.getElem?_eq_getElem hlt] at hx ⊢
 exact cell_map hm hg hx
theorem GivS.map_grown {w w':World} {mb:Nat} {es:Array MapEntry} {clock:Nat} {v:Value} {us:List (Value × Gv)} (h:GivS w v us) (hm:w.heap[mb]?=some (.map es clock)) (hg:w.grownBy w' (some mb)):GivS w' v us :=
 ⟨h.1.map_grown gvCs_len hm hg,fun p hp=>SliceR.map_grown (h.2 p hp) (fun _=>rfl) hm hg⟩
def OneEnd (F:List Gv) (w:World) (e:Ending) (w':World):Prop:=∃ z,e=.returned (.bool z)∧(z=true→OneP F)∧Below w.heap.size w w'
set_option maxHeartbeats 8000000 in
set_option maxRecDepth 100000 in
theorem one_any {w:World} {v:Value} {t:List (List Gv)} (h:TabR w v t) (hi:TabI t) :
  Calls Tryz.prog 11 #[v] w (OneEnd t.flatten w):=by
 obtain ⟨ta,tc,ev⟩:=h.shape
 obtain ⟨F,hF⟩:∃ F,F=t.flatten:=⟨_,rfl⟩
 have hok:∀ x∈F,msgB x.2=true:=fun x hx=>by
  rw [hF] at hx
  obtain ⟨l,hl,hx⟩:=List.mem_flatten.1 hx
  exact hi.ok l hl x hx
 have KC:Hid (∀ W,Below w.heap.size w W→Calls Tryz.prog 27 #[v] W fun e w'=>∃ a cap,e=.returned (.slice a F.length cap)∧GivR w' (.slice a F.length cap) F∧Below W.heap.size W w'∧F.length≤800):=fun W hW=>by
  rw [hF]
  exact concat_any (h.below hW) hi.four hi.few
 rw [← hF]
 have HOK:=LH hok
 obtain ⟨tn,htn⟩:∃ tn,tn=t.length:=⟨_,rfl⟩
 rw [← htn] at ev
 subst ev
 clear h hi hF hok htn t
 have hmm:=@run_makeMap Tryz.prog
 go_enter Tryz.func11,Tryz.ntmps11
 go_wp2_with fail
 refine (KC.out _ ((Below.refl _ _).alloc (Nat.le_refl _) _)).mono ?_
 rintro e w1 ⟨ca,cc,rfl,⟨us,hus,hsl,hin⟩,hb,h800⟩
 obtain ⟨n,hn⟩:∃ n,n=F.length:=⟨_,rfl⟩
 rw [← hn] at hsl h800 ⊢
 have hG1:GivS w1 (.slice ca n cc) us:=⟨hsl,hin⟩
 have hun:us.length=n:=by rw [hn,← hus,List.length_map]
 have HUN:=LH hun
 have HUS:=LH hus
 have HG1:=LH hG1
 have HB1:Hid (Below w.heap.size w w1):=below_step ((Below.refl _ _).alloc (Nat.le_refl _) _) hb
 have HS1:=LH ((SeenM.made Tryz.prog 3 w).below hb)
 have hnn:(n:Int)≤800:=by omega
 clear hus hsl hin hb hG1 hun hmm hn KC
 go_wp2_with fail
 go_loopg [5,6,7,12] n (fun gh _ _ _ iv wr=>∃ (k:Nat),k≤n∧gh=n - k∧iv=.int .i64 (k:Int)∧Hid (GivS wr (.slice ca n cc) us)∧Hid (SeenM Tryz.prog 3 wr w.heap.size k (us.take k))∧Hid (OneP ((us.take k).map (·.2)))∧Hid (Below w.heap.size w wr))
 case atStart=>exact ⟨0,Nat.zero_le _,rfl,rfl,HG1,HS1,LH (fun x hx=>by cases hx),HB1⟩
 case round =>
  clear HG1 HS1 HB1
  obtain ⟨k,hk,rfl,rfl,HG,HS,HO,HB⟩:=hrel
  by_cases hlt:k < n
  ·have hk0:(0:Int)≤(k:Int):=by omega
   have hk1:(k:Int) < (n:Int):=by omega
   have hkl:k < us.length:=by rw [HUN.out];exact hlt
   obtain ⟨hsl,hin⟩:=HG.out
   obtain ⟨a',cap',e1,-,-,-,h5⟩:=hsl
   obtain ⟨gb,off,e2,hat⟩:=h5 (by omega)
   have e3:ca=some ⟨gb,off,none⟩:=by
    rw [e2] at e1
    simp at e1
    exact e1.1
   subst e3
   have hc:=fun j (hj:j < 6)=>hat k hkl j hj
   have hgi:=hin us[k] (List.getElem_mem hkl)
   have hmB:=HOK.out us[k].2 (by rw [← HUS.out];exact List.mem_map.2 ⟨_,List.getElem_mem hkl,rfl⟩)
   have htk:us.take (k+1)=us.take k++[us[k]]:=by rw [List.take_succ_eq_append_getElem hkl]
   obtain ⟨p,hp⟩:∃ p,p=us[k]:=⟨_,rfl⟩
   rw [← hp] at hc hgi hmB htk
   obtain ⟨u1,tm,⟨i1,g1,t1,k1,b1⟩⟩:=p
   simp only at hgi hmB
   have hwf:=wf_small (msgB_id hmB)
   obtain ⟨ga,gc,rfl,-⟩:=hgi.shape
   have x0:=hc 0 (by omega)
   have x1:=hc 1 (by omega)
   have x2:=hc 2 (by omega)
   have x3:=hc 3 (by omega)
   have x4:=hc 4 (by omega)
   have x5:=hc 5 (by omega)
   simp only [← Nat.add_assoc,Nat.add_zero,gvCs] at x0 x1 x2 x3 x4 x5
   simp only at hwf
   have HGI:=LH hgi
   have HWF:=LH hwf
   have HTK:=LH htk
   have hgm:gb < wr.heap.size:=World.block_lt_of_cell? wr _ x0
   obtain ⟨gn,hgn⟩:∃ gn,gn=g1.length:=⟨_,rfl⟩
   have HGN:=LH hgn
   rw [← hgn] at x2
   clear hc hat h5 e1 e2 hp hgi hmB hwf htk hin hgn
   go_upto_region 5 with fail
   have hA:Below wr.heap.size wr (wr.alloc (.cells #[.int .i64 tm,.int .i64 i1,.slice ga gn gc,.int .i64 t1,.string k1,.string b1] 95)):=(Below.refl _ _).alloc (Nat.le_refl _) _
   have HX2:Hid (Blk (wr.alloc (.cells #[.int .i64 tm,.int .i64 i1,.slice ga gn gc,.int .i64 t1,.string k1,.string b1] 95)) wr.heap.size 95 [.int .i64 tm,.int .i64 i1,.slice ga gn gc,.int .i64 t1,.string k1,.string b1]):=LH (Blk.new rfl)
   have HG2:=LH (HG.out.below hA)
   have HS2:=LH (HS.out.below hA)
   have HGI2:=LH (HGI.out.below hA)
   have HB2:Hid (Below w.heap.size w (wr.alloc (.cells #[.int .i64 tm,.int .i64 i1,.slice ga gn gc,.int .i64 t1,.string k1,.string b1] 95))):=LH (below_step HB.out hA)
   obtain ⟨xb,hxb⟩:∃ xb,xb=wr.heap.size:=⟨_,rfl⟩
   rw [← hxb] at HX2 ⊢
   clear hA HG HS HGI HB x0 x1 x2 x3 x4 x5 hgm hxb
   generalize (wr.alloc (.cells #[.int .i64 tm,.int .i64 i1,.slice ga gn gc,.int .i64 t1,.string k1,.string b1] 95))=w2 at HX2 HG2 HS2 HGI2 HB2 ⊢
   have xl:=HX2.out.lt
   have x0:=HX2.out.cell 0
   have x1:=HX2.out.cell 1
   have x2:=HX2.out.cell 2
   have x3:=HX2.out.cell 3
   have x4:=HX2.out.cell 4
   have x5:=HX2.out.cell 5
   simp at x0 x1 x2 x3 x4 x5
   -- MARK
   rcases HS2.out.look (tm:=92) Tryz.underlying3 Tryz.underlying92 (zero_msg _) HWF.out with ⟨look,hnone⟩|⟨q,hq,hqi,look⟩
   ·have HO5:Hid (OneP ((us.take (k+1)).map (·.2))):=LH (by
     rw [HTK.out,List.map_append]
     refine HO.out.snoc fun y hy e=>?_
     obtain ⟨q,hq,rfl⟩:=List.mem_map.1 hy
     exact absurd e (hnone q hq))
    clear hnone
    go_upto_region 8 with fail
    have hA:Below w2.heap.size w2 (w2.alloc (.cells #[.int .i64 0,.slice none 0 0,.int .i64 0,.string ByteArray.empty,.string ByteArray.empty] 56)):=(Below.refl _ _).alloc (Nat.le_refl _) _
    have HX5:=LH (HX2.out.step hA)
    have HG5:=LH (HG2.out.below hA)
    have HS5:=LH (HS2.out.below hA)
    have HB5:Hid (Below w.heap.size w (w2.alloc (.cells #[.int .i64 0,.slice none 0 0,.int .i64 0,.string ByteArray.empty,.string ByteArray.empty] 56))):=LH (below_step HB2.out hA)
    clear hA HX2 HG2 HS2 HGI2 HB2 x0 x1 x2 x3 x4 x5 xl look HO
    generalize (w2.alloc (.cells #[.int .i64 0,.slice none 0 0,.int .i64 0,.string ByteArray.empty,.string ByteArray.empty] 56))=w5 at HX5 HG5 HS5 HB5 ⊢
    have xl:=HX5.out.lt
    have x0:=HX5.out.cell 0
    have x1:=HX5.out.cell 1
    have x2:=HX5.out.cell 2
    have x3:=HX5.out.cell 3
    have x4:=HX5.out.cell 4
    have x5:=HX5.out.cell 5
    simp at x0 x1 x2 x3 x4 x5
    obtain ⟨es,clock,hmap,-⟩:=id HS5.out
    obtain ⟨w6,hst,hs6,hg6⟩:=HS5.out.store (tm:=92) Tryz.underlying3 Tryz.underlying92 (by unfold maxLen;omega) (q:=(.slice ga gn gc,(tm,⟨i1,g1,t1,k1,b1⟩))) HWF.out
    simp only [msgV] at hst
    have HG6:=LH (HG5.out.map_grown hmap hg6)
    have HB6:Hid (Below w.heap.size w w6):=LH (grown_below HB5.out hg6 HB5.out.size (fun j hj=>by cases hj;exact Nat.le_refl _))
    have HS6:Hid (SeenM Tryz.prog 3 w6 w.heap.size (k+1) (us.take (k+1))):=LH (by rw [HTK.out,← HGN.out];exact hs6)
    clear hmap hs6 hg6 HG5 HS5 HX5 HB5
    go_wp2_with fail
    go_roundg (n - (k+1))
    case measure=>omega
    case rel=>exact ⟨k+1,by omega,rfl,by go_num,HG6,HS6,HO5,HB6⟩
   ·have hqg:=HG2.out.2 q (List.mem_of_mem_take hq)
    obtain ⟨u2,tm2,⟨i2,g2,t2,k2,b2⟩⟩:=q
    simp only at hqi hqg
    subst hqi
    obtain ⟨ha,hc,rfl,-⟩:=hqg.shape
    obtain ⟨z,hz⟩:∃ z,z=decide ((⟨i2,g2,t2,k2,b2⟩:PM)=⟨i2,g1,t1,k1,b1⟩):=⟨_,rfl⟩
    obtain ⟨hn,hhn⟩:∃ hn,hn=g2.length:=⟨_,rfl⟩
    have hgi1:=HGI2.out
    rw [← HGN.out] at hgi1
    have KS:Hid (∀ W,Below w2.heap.size w2 W→Calls Tryz.prog 28 #[.agg #[.int .i64 i2,.slice ha hn hc,.int .i64 t2,.string k2,.string b2],.agg #[.int .i64 i2,.slice ga gn gc,.int .i64 t1,.string k1,.string b1]] W fun e W'=>e=.returned (.bool z)∧Below W.heap.size W W'):=LH fun W hW=>sameMsg_any (m:=⟨i2,g2,t2,k2,b2⟩) (m':=⟨i2,g1,t1,k1,b1⟩) ⟨ha,hc,by rw [hhn],hqg.below hW⟩ ⟨ga,gc,by rw [HGN.out],HGI2.out.below hW⟩ (by rw [hz];simp)
    have HZ:=LH hz
    have HQ:=LH hq
    rw [← hhn] at look
    simp only [msgV] at look
    clear hz hq hqg hgi1
    clear hhn
    go_upto_region 6 with fail
    have hA:Below w2.heap.size w2 (w2.alloc (.cells #[.int .i64 i2,.slice ha hn hc,.int .i64 t2,.string k2,.string b2] 56)):=(Below.refl _ _).alloc (Nat.le_refl _) _
    have HX4:=LH (HX2.out.step hA)
    have HM4:Hid (Blk (w2.alloc (.cells #[.int .i64 i2,.slice ha hn hc,.int .i64 t2,.string k2,.string b2] 56)) w2.heap.size 56 [.int .i64 i2,.slice ha hn hc,.int .i64 t2,.string k2,.string b2]):=LH (Blk.new rfl)
    have HG4:=LH (HG2.out.below hA)
    have HS4:=LH (HS2.out.below hA)
    have HB4:Hid (Below w.heap.size w (w2.alloc (.cells #[.int .i64 i2,.slice ha hn hc,.int .i64 t2,.string k2,.string b2] 56))):=LH (below_step HB2.out hA)
    have KS4:=LH (KS.out _ hA)
    obtain ⟨mb,hmb⟩:∃ mb,mb=w2.heap.size:=⟨_,rfl⟩
    rw [← hmb] at HM4 ⊢
    clear hA HX2 HG2 HS2 HGI2 HB2 x0 x1 x2 x3 x4 x5 xl look KS hmb
    generalize (w2.alloc (.cells #[.int .i64 i2,.slice ha hn hc,.int .i64 t2,.string k2,.string b2] 56))=w4 at HX4 HM4 HG4 HS4 HB4 KS4 ⊢
    have xl:=HX4.out.lt
    have x0:=HX4.out.cell 0
    have x1:=HX4.out.cell 1
    have x2:=HX4.out.cell 2
    have x3:=HX4.out.cell 3
    have x4:=HX4.out.cell 4
    have x5:=HX4.out.cell 5
    have ml:=HM4.out.lt
    have y0:=HM4.out.cell 0
    have y1:=HM4.out.cell 1
    have y2:=HM4.out.cell 2
    have y3:=HM4.out.cell 3
    have y4:=HM4.out.cell 4
    simp at x0 x1 x2 x3 x4 x5 y0 y1 y2 y3 y4
    go_wp2_with fail
    refine KS4.out.mono ?_
    rintro e w5 ⟨rfl,hb⟩
    have HX5:=LH (HX4.out.step hb)
    have HG5:=LH (HG4.out.below hb)
    have HS5:=LH (HS4.out.below hb)
    have HB5:Hid (Below w.heap.size w w5):=LH (below_step HB4.out hb)
    clear hb HX4 HM4 HG4 HS4 HB4 KS4 x0 x1 x2 x3 x4 x5 xl ml y0 y1 y2 y3 y4
    cases z
    ·go_wp2_with fail
     refine bodyPost_ret (v:=.bool false) (by simp [results,Tryz.results11,go_sem]) rfl (show OneEnd _ _ _ _ from ⟨false,rfl,(fun h=>by cases h),HB5.out⟩)
    ·have HO5:Hid (OneP ((us.take (k+1)).map (·.2))):=LH (by
      have hsame:(⟨i2,g2,t2,k2,b2⟩:PM)=⟨i2,g1,t1,k1,b1⟩:=of_decide_eq_true HZ.out.symm
      rw [HTK.out,List.map_append]
      refine HO.out.snoc fun y hy e=>?_
      have:=HO.out y hy (tm2,⟨i2,g2,t2,k2,b2⟩) (List.mem_map.2 ⟨_,HQ.out,rfl⟩) e
      rw [this]
      exact hsame)
     clear HO HZ HQ
     go_upto_region 8 with fail
     have xl:=HX5.out.lt
     have x0:=HX5.out.cell 0
     have x1:=HX5.out.cell 1
     have x2:=HX5.out.cell 2
     have x3:=HX5.out.cell 3
     have x4:=HX5.out.cell 4
     have x5:=HX5.out.cell 5
     simp at x0 x1 x2 x3 x4 x5
     obtain ⟨es,clock,hmap,-⟩:=id HS5.out
     obtain ⟨w6,hst,hs6,hg6⟩:=HS5.out.store (tm:=92) Tryz.underlying3 Tryz.underlying92 (by unfold maxLen;omega) (q:=(.slice ga gn gc,(tm,⟨i2,g1,t1,k1,b1⟩))) HWF.out
     simp only [msgV] at hst
     have HG6:=LH (HG5.out.map_grown hmap hg6)
     have HB6:Hid (Below w.heap.size w w6):=LH (grown_below HB5.out hg6 HB5.out.size (fun j hj=>by cases hj;exact Nat.le_refl _))
     have HS6:Hid (SeenM Tryz.prog 3 w6 w.heap.size (k+1) (us.take (k+1))):=LH (by rw [HTK.out,← HGN.out];exact hs6)
     clear hmap hs6 hg6 HG5 HS5 HX5 HB5
     go_wp2_with fail
     go_roundg (n - (k+1))
     case measure=>omega
     case rel=>exact ⟨k+1,by omega,rfl,by go_num,HG6,HS6,HO5,HB6⟩
  ·obtain rfl:k=n:=by omega
   have hlt':¬ (k:Int) < (k:Int):=by omega
   go_wp2_with fail
   have ho:=HO.out
   rw [List.take_of_length_le (by rw [HUN.out];exact Nat.le_refl _),HUS.out] at ho
   refine bodyPost_ret (v:=.bool true) (by simp [results,Tryz.results11,go_sem]) rfl (show OneEnd _ _ _ _ from ⟨true,rfl,fun _=>ho,HB.out⟩)
end Go.Proofs.YtkkohllhebdlcaaGreatDoor
