/-
  Proved here: towncriertop.both: the ids of what was put in one list, and in another order.Honest. Conditions: the logs read; their texts are no longer tha What the groups put, row by row, in memory; and plain: of honest logs 
-/
import Derived.Test.YtkkohllhebdlcaaGreatDoorY40
import Derived.Test.YtkkohllhebdlcaaGreatDoorY43
set_option maxRecDepth 100000
namespace Go.Proofs.YtkkohllhebdlcaaGreatDoor
open Go.RowKit
theorem bothQ_snoc (a:List Tk) (x:Tk) (b:List Tk):bothQ (a++[x]) b=bothQ a b++(if b.any (fun y=>y.1 == x.1) then [x.1] else []):=by
 unfold bothQ
 rw [List.map_append,List.filter_append]
 congr 1
 simp [List.filter_cons]
theorem bothQ_len (a b:List Tk):(bothQ a b).length≤a.length:=by
 unfold bothQ
 refine Nat.le_trans (List.length_filter_le _ _) ?_
 rw [List.length_map]
 exact Nat.le_refl _
theorem runQ_few {g:Int}:∀ (cs:List PC) (s:Gs) (o:List Tk),(runQ g cs s o).2.length≤o.length+200 * cs.length
 |[],_,_=>by rw [runQ];exact Nat.le_add_right _ _
 |c :: cs,s,o=>by
  rw [runQ]
  have h1:=runQ_few (g:=g) cs (stepQ g c s).1 (o++(stepQ g c s).2.1)
  have h2:=stepQ_few (g:=g) (c:=c) (s:=s)
  rw [List.length_append] at h1
  rw [List.length_cons]
  omega
def BothEnd (L:List Int) (w:World) (e:Ending) (w':World):Prop:=∃ a cap,e=.returned (.slice a L.length cap)∧OwnI w' w.heap.size (.slice a L.length cap) L∧Below w.heap.size w w'
set_option maxHeartbeats 8000000 in
set_option maxRecDepth 100000 in
theorem both_any {w:World} {va vb:Value} {a b:List Tk} (ha:SliceR w va 3 tkCs a) (hb:SliceR w vb 3 tkCs b) (hfew:a.length≤1000000) (hfewb:b.length≤1000000) :
  Calls Tryz.prog 8 #[va,vb] w (BothEnd (bothQ a b) w):=by
 obtain ⟨i0,hi,hz0,hz1,hz2⟩:=info_parts info_int
 obtain ⟨aa,ac,rfl,ha1,ha2,-,had⟩:=ha
 obtain ⟨ba,bc,rfl,hb1,hb2,-,hbd⟩:=hb
 have HAD:=LH had
 have HBD:=LH hbd
 obtain ⟨n,hn⟩:∃ n,n=a.length:=⟨_,rfl⟩
 obtain ⟨bn,hbn⟩:∃ bn,bn=b.length:=⟨_,rfl⟩
 have HN:=LH hn
 have HBN:=LH hbn
 rw [← hn] at ha1 hfew ⊢
 rw [← hbn] at hb1 hfewb ⊢
 unfold maxLen at ha2 hb2
 have hbn1:(bn:Int)≤9223372036854775807:=by omega
 have hR:bothQ a b=bothQ (a.take n) b:=by rw [List.take_of_length_le (by omega)]
 rw [hR]
 clear had hbd hn hbn ha1 ha2 hR
 go_enter Tryz.func8,Tryz.ntmps8
 go_wp2_with fail
 go_loopg [5,6,7] n (fun gh ov iv _ wr=>∃ (i q:Nat) (ra:Option Addr) (rc:Nat),i≤n∧gh=n - i∧iv=.int .i64 (i:Int)∧ov=.slice ra q rc∧q≤i∧Hid (q=(bothQ (a.take i) b).length)∧Hid (OwnI wr w.heap.size (.slice ra q rc) (bothQ (a.take i) b))∧Hid (Below w.heap.size w wr))
 case atStart=>exact ⟨0,0,none,0,Nat.zero_le _,rfl,rfl,rfl,Nat.le_refl _,LH rfl,LH (ownI_nil _ _),LH (Below.refl _ _)⟩
 case round =>
  obtain ⟨i,q,ra,rc,hi',rfl,rfl,rfl,hqi,HQ,HO,HB⟩:=hrel
  by_cases hlt:i < n
  ·have hk0:(0:Int)≤(i:Int):=by omega
   have hk1:(i:Int) < (n:Int):=by omega
   have hil:i < a.length:=by rw [← HN.out];exact hlt
   obtain ⟨ab,ao,rfl,hat⟩:=HAD.out (by rw [← HN.out];omega)
   have x0:=hat i hil 0 (by omega)
   have htk:a.take (i+1)=a.take i++[a[i]]:=by rw [List.take_succ_eq_append_getElem hil]
   obtain ⟨x,hx⟩:∃ x,x=a[i]:=⟨_,rfl⟩
   rw [← hx] at x0 htk
   have HTK:=LH htk
   obtain ⟨x1,x2⟩:=x
   simp only [tkCs] at x0
   have HX0:Hid (w.cell? ⟨ab,ao+i * 3,none⟩=some (.int .i64 x1)):=LH x0
   obtain ⟨L,hL⟩:∃ L,L=bothQ (a.take i) b:=⟨_,rfl⟩
   rw [← hL] at HQ HO
   have HL:=LH hL
   clear hat hx htk x0 hil hL
   go_wp2_with fail
   go_loopg [5,7] bn (fun gh ov kv wi=>∃ (k q:Nat) (ra:Option Addr) (rc:Nat) (O:List Int),k≤bn+1∧gh=bn - k∧kv=.int .i64 (k:Int)∧ov=.slice ra q rc∧q≤i+1∧Hid (q=O.length)∧Hid (OwnI wi w.heap.size (.slice ra q rc) O)∧Hid (Below w.heap.size w wi)∧Hid ((k≤bn∧q≤i∧O=L∧∀ j (hj:j < b.length),j < k→(b[j].1 == x1)=false)∨(k=bn+1∧O=L++[x1]∧∃ j,∃ hj:j < b.length,(b[j].1 == x1)=true)))
   case atStart=>exact ⟨0,q,ra,rc,L,Nat.zero_le _,rfl,rfl,rfl,by omega,HQ,HO,HB,LH (Or.inl ⟨Nat.zero_le _,hqi,rfl,fun j _ hj=>absurd hj (Nat.not_lt_zero _)⟩)⟩
   case round =>
    clear HQ HO HB hqi
    obtain ⟨k,q,ra,rc,O,hk,rfl,rfl,rfl,hq1,HQ,HO,HB,HW⟩:=hrel
    by_cases hkl:k < bn
    ·have hj0:(0:Int)≤(k:Int):=by omega
     have hj1:(k:Int) < (bn:Int):=by omega
     have hkb:k < b.length:=by rw [← HBN.out];exact hkl
     obtain ⟨bb,bo,rfl,hat⟩:=HBD.out (by rw [← HBN.out];omega)
     have y0:=hat k hkb 0 (by omega)
     have hw:=HW.out
     obtain ⟨-,hqi,rfl,hall⟩|⟨e,-⟩:=hw
     rotate_left
     ·omega
     obtain ⟨y,hy⟩:∃ y,y=b[k]:=⟨_,rfl⟩
     have HY:=LH hy
     rw [← hy] at y0
     obtain ⟨y1,y2⟩:=y
     simp only [tkCs] at y0
     have d0:wr.cell? ⟨bb,bo+k * 3,none⟩=some (.int .i64 y1):=keep HB.out y0
     have c0:wr.cell? ⟨ab,ao+i * 3,none⟩=some (.int .i64 x1):=keep HB.out HX0.out
     have HALL:=LH hall
     clear hat hy y0 hall HW
     have hbl:bb < wr.heap.size:=World.block_lt_of_cell? wr _ d0
     have hal:ab < wr.heap.size:=World.block_lt_of_cell? wr _ c0
     by_cases he:x1=y1
     ·subst he
      go_wp2_with fail
      go_region
      have hd:Below wr.heap.size wr wr.drew:=(Below.refl _ _).drew
      have HO1:Hid (OwnI wr.drew w.heap.size (.slice ra q rc) O):=LH (ownsRow_keep HO.out hd)
      have HB1:Hid (Below w.heap.size w wr.drew):=LH (below_step HB.out hd)
      have c1:wr.drew.cell? ⟨ab,ao+i * 3,none⟩=some (.int .i64 x1):=c0
      have hal1:ab < wr.drew.heap.size:=hal
      clear hd HO HB c0 d0 hbl hal
      generalize wr.drew=w1 at HO1 HB1 c1 hal1 ⊢
      go_wp2_with (at_builtin;go_must (refine wpList_append_own _ rfl _ _ 37 rfl w.heap.size 3 i0 _ 1 8 Tryz.underlying37 hi hz0 hz1 hz2 rfl (by decide) _ _ _ rfl (ownsRow_keep HO1.out ((Below.refl _ _).alloc (Nat.le_refl _) _)) ⟨w1.heap.size,0,none⟩ 1 1 [.int .i64 x1] rfl rfl ?_ (by intro v hv;simp at hv;subst hv;rfl) (by have:=HQ.out;unfold maxLen;omega) (by have:=HQ.out;omega) (by have:=HB1.out.size;simp;omega) ?_))
      ·exact news_1 _ rfl
      ·intro v' w3 hown2 hgrow _
       have hbw:Below w1.heap.size w1 (w1.alloc (.cells #[.int .i64 x1] 3)):=(Below.refl _ _).alloc (Nat.le_refl _) _
       have HO3:Hid (OwnI w3 w.heap.size v' (O++[x1])):=LH (by
        show w3.ownsRow _ _ _ _ _ _
        rw [List.length_append,rowVals,List.map_append]
        exact hown2)
       have HB3:Hid (Below w.heap.size w w3):=LH (grown_below (below_step HB1.out hbw) hgrow (by have:=HB1.out.size;have:=hbw.size;omega) (fun j hj=>(HO1.out.lt j hj).1))
       obtain ⟨a',c',hv'⟩:=row_shape HO3.out
       have hl3:(O++[x1]).length=q+1:=by rw [List.length_append,← HQ.out];rfl
       rw [hl3] at hv'
       subst hv'
       have HL3:=LH hl3
       have HYK:=LH (show ∃ j,∃ hj:j < b.length,(b[j].1 == x1)=true from ⟨k,hkb,by rw [← HY.out];simp⟩)
       clear hown2 hgrow hbw hl3 HO1 HB1
       go_wp2_with fail
       go_roundg (bn - (bn+1))
       case measure=>omega
       case rel=>exact ⟨bn+1,q+1,a',c',O++[x1],by omega,rfl,by go_num,rfl,by omega,LH HL3.out.symm,HO3,HB3,LH (Or.inr ⟨rfl,rfl,HYK.out⟩)⟩
     ·have heb:(x1 == y1)=false:=by simpa using he
      have HNE:=LH he
      clear he
      go_wp2_with fail
      go_region
      have hd:Below wr.heap.size wr wr.drew:=(Below.refl _ _).drew
      have HO1:Hid (OwnI wr.drew w.heap.size (.slice ra q rc) O):=LH (ownsRow_keep HO.out hd)
      have HB1:Hid (Below w.heap.size w wr.drew):=LH (below_step HB.out hd)
      have c1:wr.drew.cell? ⟨ab,ao+i * 3,none⟩=some (.int .i64 x1):=c0
      have hal1:ab < wr.drew.heap.size:=hal
      clear hd HO HB c0 d0 hbl hal
      generalize wr.drew=w1 at HO1 HB1 c1 hal1 ⊢
      go_wp2_with fail
      go_roundg (bn - (k+1))
      case measure=>omega
      case rel =>
       refine ⟨k+1,q,ra,rc,O,by omega,rfl,by go_num,rfl,by omega,HQ,HO1,HB1,LH (Or.inl ⟨by omega,hqi,rfl,fun j hj hjk=>?_⟩)⟩
       by_cases hjk2:j < k
       ·exact HALL.out j hj hjk2
       ·obtain rfl:j=k:=by omega
        rw [← HY.out]
        exact beq_eq_false_iff_ne.2 fun e=>HNE.out e.symm
    ·have hkl':¬ (k:Int) < (bn:Int):=by omega
     have hO:O=bothQ (a.take (i+1)) b:=by
      rw [HTK.out,bothQ_snoc,← HL.out]
      rcases HW.out with ⟨hk1,-,rfl,hall⟩|⟨-,rfl,j,hj,hje⟩
      ·obtain rfl:k=bn:=by omega
       rw [if_neg,List.append_nil]
       intro h
       obtain ⟨y,hy,hye⟩:=List.any_eq_true.1 h
       obtain ⟨j,hj,rfl⟩:=List.getElem_of_mem hy
       rw [hall j hj (by rw [HBN.out];exact hj)] at hye
       cases hye
      ·rw [if_pos (List.any_eq_true.2 ⟨b[j],List.getElem_mem hj,hje⟩)]
     subst hO
     clear HW
     go_wp2_with fail
     go_roundg (n - (i+1))
     case measure=>omega
     case rel=>exact ⟨i+1,q,ra,rc,by omega,rfl,by go_num,rfl,hq1,HQ,HO,HB⟩
  ·obtain rfl:i=n:=by omega
   have hlt':¬ (i:Int) < (i:Int):=by omega
   go_wp2_with fail
   have ho:=HO.out
   refine bodyPost_ret (v:=.slice ra q rc) (by simp [results,Tryz.results8,go_sem]) rfl (show BothEnd _ _ _ _ from ⟨ra,rc,by rw [HQ.out],by rw [← HQ.out];exact ho,HB.out⟩)
theorem timesF_len {g:Int}:∀ (cs:List PC) (s:Sk),(timesF g cs s).length≤cs.length
 |[],s=>Nat.le_refl _
 |c :: cs,s=>by
  rw [timesF,List.length_append,List.length_cons]
  have:=timesF_len (g:=g) cs (ordStep g c s)
  split
  ·rw [List.length_singleton];omega
  ·rw [List.length_nil];omega
theorem delS_fewer:∀ (f:Nat) (s:Sk) (out:List PM),(delS f s out).1.waits.length≤s.waits.length
 |0,s,out=>by rw [delS];exact Nat.le_refl _
 |f+1,s,out=>by
  rw [delS]
  split
  ·exact Nat.le_refl _
  ·split
   ·exact Nat.le_trans (delS_fewer f _ _) (delW_sub _ _).length_le
   ·exact Nat.le_refl _
theorem timesF_msg {g:Int}:∀ (cs:List PC) (s:Sk),InvK s→(∀ c∈cs,okCom c=true)→∀ x∈timesF g cs s,msgB x.2=true
 |[],s,_,_,x,hx=>by cases hx
 |c :: cs,s,hi,hc,x,hx=>by
  have hc0:=hc c (List.mem_cons_self ..)
  rw [timesF] at hx
  rcases List.mem_append.1 hx with hx|hx
  ·split at hx
   ·next hlt =>
    rw [List.mem_singleton.1 hx]
    rcases ordWay (g:=g) hi hc0 with ⟨e,_⟩|⟨hk,_⟩|⟨_,h1,_,h3,e,_⟩
    ·rw [e] at hlt
     exact absurd hlt (Nat.lt_irrefl _)
    ·exact okCom_assign hc0 hk
    ·rw [e] at hlt
     have hle:=delS_fewer (fiK c.id c.time s).waits.length (fiK c.id c.time s) []
     have:(fiK c.id c.time s).waits.length=s.waits.length:=by simp [fiK]
     omega
   ·cases hx
  ·exact timesF_msg cs _ (ordStep_inv hi hc0) (fun y hy=>hc y (List.mem_cons_of_mem _ hy)) x hx
theorem tabI_of {m:List (List ByteArray)} (h4:m.length≤4) (hok:∀ i,i < m.length→(cmdsP (m.getD i [])).2=0):TabI (tabF m):=by
 have hat:∀ l∈tabF m,∃ i,i < m.length∧l=timesF (i:Int) (cmdsP (m.getD i [])).1 skZ:=fun l hl=>by
  obtain ⟨i,hi,rfl⟩:=List.getElem_of_mem hl
  have hi':i < m.length:=by rw [tabF,tabFrom_len] at hi;exact hi
  refine ⟨i,hi',?_⟩
  rw [← tabF_get hi']
  simp [List.getD,hi]
 have hcs:∀ i,i < m.length→(∀ c∈(cmdsP (m.getD i [])).1,okCom c=true)∧(cmdsP (m.getD i [])).1.length≤200:=fun i hi=>cmdsP_ok (l:=m.getD i []) (Prod.ext rfl (hok i hi))
 refine ⟨by rw [tabF,tabFrom_len];exact h4,fun l hl=>?_,fun l hl x hx=>?_⟩
 ·obtain ⟨i,hi,rfl⟩:=hat l hl
  exact Nat.le_trans (timesF_len _ _) (hcs i hi).2
 ·obtain ⟨i,hi,rfl⟩:=hat l hl
  exact timesF_msg _ _ invK_z (hcs i hi).1 x hx
structure HonP (m:List (List ByteArray)):Prop where
 four:m.length≤4
 ok:∀ i,i < m.length→(cmdsP (m.getD i [])).2=0
 one:OneP (tabF m).flatten
 hon:∀ i:Nat,i < m.length→HonF (tabF m) (i:Int) (cmdsP (m.getD i [])).1 skZ
def HonestEnd (m:List (List ByteArray)) (w:World) (e:Ending) (w':World):Prop:=∃ z x,e=.returned (.tuple #[.bool z,.int .i64 x])∧Below w.heap.size w w'∧(x=0→z=true→HonP m)
def HonRel (T:List (List Gv)) (w:World) (tb ob:Nat) (tv:Value) (k:Int) (cs:List PC) (z:Bool) (rest:List PC) (s:Sk) (W:World):Prop :=
 Below w.heap.size w W∧Blk W tb 50 [tv]∧OwnTab W w.heap.size tv T∧∃ z',Blk W ob 4 [.bool z']∧(z'=true→z=true∧(HonF T k rest s→HonF T k cs skZ))
set_option maxHeartbeats 4000000 in
theorem honPlay {w wr:World} {T:List (List Gv)} {tb ob k n cap:Nat} {a:Option Addr} {z:Bool} {v:Value} {l:List ByteArray} (h4:k < 4) (hv:SliceR wr v 1 strCell l) (hs:∀ s∈l,s.size≤maxLen) (hx:(cmdsP l).2=0) (hob:w.heap.size≤ob)
  (h:HonRel T w tb ob (.slice a n cap) (k:Int) (cmdsP l).1 z (cmdsP l).1 skZ wr) :
  Calls Tryz.prog 12 #[.int .i64 (k:Int),v,.func (.func 13) #[] #[.pointer (some ⟨tb,0,none⟩),.pointer (some ⟨ob,0,none⟩)]] wr fun e W'=>∃ ck wa wn wc da dn dc s,e=.returned (.tuple #[.agg #[.int .i64 ck,.slice wa wn wc,.slice da dn dc],.int .i64 0])∧HonRel T w tb ob (.slice a n cap) (k:Int) (cmdsP l).1 z [] s W':=by
 obtain ⟨cs,hcs⟩:∃ cs,cs=(cmdsP l).1:=⟨_,rfl⟩
 rw [← hcs] at h ⊢
 have hc:cmdsP l=(cs,0):=Prod.ext hcs.symm hx
 have hsz:w.heap.size≤wr.heap.size:=h.1.size
 refine (ordPlay_any (x:=0) (cs:=cs) (caps:=[.pointer (some ⟨tb,0,none⟩),.pointer (some ⟨ob,0,none⟩)]) (ts:=[4])
  (Rel:=HonRel T w tb ob (.slice a n cap) (k:Int) cs z)
  (fun args W=>enters_of Tryz.func13 (by kernel_rfl) rfl args W) (by omega) (by omega) hv hs hc (by decide) (by decide) (by decide) (by decide) (by decide) (by decide) h ?_ ?_).mono ?_
 ·rintro rest s W W' ⟨hb,htb,hT,z',hob',hz⟩ hsw hf hbw
  exact ⟨hb.trans (hbw.mono hsz),htb.fr hf (by decide),hT.fr hf (by decide) (by decide) (by decide),z',hob'.fr hf (by decide),hz⟩
 ·rintro c rest s W sv - hcc ⟨hb,htb,hT,z',hob',hz⟩ hsw hrun hst
  refine (hon1_any hT.reads htb hob' hst hrun hcc).mono ?_
  rintro e W' ⟨rfl,z'',hob'',hz'',hf,hbw⟩
  refine ⟨rfl,⟨hb.trans (hbw.mono hob),htb.fr hf (by decide),hT.fr hf (by decide) (by decide) (by decide),z'',hob'',fun hzz=>?_⟩,hf⟩
  obtain ⟨q1,q2⟩:=hz'' hzz
  obtain ⟨q3,q4⟩:=hz q1
  exact ⟨q3,fun hh=>q4 ⟨q2,hh⟩⟩
 ·rintro e W' ⟨ck,wa,wn,wc,da,dn,dc,rest,s,rfl,-,hrel,hr⟩
  rw [hr rfl] at hrel
  exact ⟨ck,wa,wn,wc,da,dn,dc,s,rfl,hrel⟩
set_option maxHeartbeats 8000000 in
set_option maxRecDepth 100000 in
theorem honest_any {w:World} {v:Value} {m:List (List ByteArray)} (h:LogsR w v m) (hs:∀ l∈m,∀ s∈l,s.size≤maxLen) :
  Calls Tryz.prog 6 #[v] w (HonestEnd m w):=by
 have KO:Hid (Calls Tryz.prog 10 #[v] w (OfEnd m w)):=ordOf_any h hs
 obtain ⟨a,cap,rfl,hmx⟩:=h.shape
 obtain ⟨n,hn⟩:∃ n,n=m.length:=⟨_,rfl⟩
 have HS:=LH h
 have HN:=LH hn
 have HA:Hid (0 < n→∃ b off,a=some ⟨b,off,none⟩):=fun hp=>by
  obtain ⟨us,h1,h2,_⟩:=h
  obtain ⟨a',cap',e,_,_,_,h5⟩:=h1
  obtain ⟨b,off,e2,_⟩:=h5 (by omega)
  injection e with e1 _ _
  exact ⟨b,off,e1.trans e2⟩
 have HSM:=LH (show ∀ k,k < n→∀ s∈m.getD k [],s.size≤maxLen from fun k hk=>by
  have hkm:k < m.length:=by omega
  refine hs _ ?_
  rw [show m.getD k []=m[k] by simp [List.getD,hkm]]
  exact List.getElem_mem hkm)
 rw [← hn] at hmx HS KO ⊢
 unfold maxLen at hmx
 clear h hn hs
 go_enter Tryz.func6,Tryz.ntmps6
 go_wp2_with fail
 refine KO.out.mono ?_
 rintro e w1 ⟨ta,tn,tc,x,rfl,hb,hok⟩
 have HB1:=LH hb
 have HOK:=LH hok
 clear hb hok KO
 by_cases hx:x=0
 rotate_left
 ·have hxb:(x != 0)=true:=by simpa using hx
  have HX:=LH hx
  clear hx
  go_wp2_with fail
  refine bodyPost_ret (v:=.tuple #[.bool false,.int .i64 x]) (by simp [results,Tryz.results6,go_sem]) rfl (show HonestEnd _ _ _ _ from ⟨false,x,rfl,HB1.out.alloc HB1.out.size _,fun h=>absurd h HX.out⟩)
 subst hx
 obtain ⟨h4,hall,htn,hT⟩:=HOK.out rfl
 have HI:=LH (tabI_of h4 hall)
 obtain ⟨T,hTT⟩:∃ T,T=tabF m:=⟨_,rfl⟩
 rw [← hTT] at hT HI
 have hA:Below w1.heap.size w1 (w1.alloc (.cells #[.slice ta tn tc] 50)):=(Below.refl _ _).alloc (Nat.le_refl _) _
 have HT2:=LH (hT.keep hA)
 have HTB2:Hid (Blk (w1.alloc (.cells #[.slice ta tn tc] 50)) w1.heap.size 50 [.slice ta tn tc]):=LH (Blk.new rfl)
 have HB2:Hid (Below w.heap.size w (w1.alloc (.cells #[.slice ta tn tc] 50))):=LH (below_step HB1.out hA)
 have HTF:=LH hTT
 have HALL:=LH hall
 have h4n:n≤4:=by rw [HN.out];exact h4
 clear h4 hall htn hT hTT hA HOK
 go_upto_region 4 with fail
 obtain ⟨tb,htb⟩:∃ tb,tb=w1.heap.size:=⟨_,rfl⟩
 rw [← htb] at HTB2 ⊢
 generalize (w1.alloc (.cells #[.slice ta tn tc] 50))=w2 at HT2 HTB2 HB2 ⊢
 clear htb HB1
 have KN:Hid (Calls Tryz.prog 11 #[.slice ta tn tc] w2 (OneEnd T.flatten w2)):=one_any HT2.out.reads HI.out
 obtain ⟨t0,tz⟩:=cells1 HTB2.out
 have tl:=HTB2.out.lt
 go_wp2_with fail
 refine KN.out.mono ?_
 rintro e w3 ⟨z,rfl,hz,hb⟩
 have hb4:Below w2.heap.size w2 (w3.alloc (.cells #[.bool z] 4)):=below_step hb ((Below.refl _ _).alloc (Nat.le_refl _) _)
 have HT4:=LH (HT2.out.keep hb4)
 have HTB4:=LH (HTB2.out.step hb4)
 have HB4:Hid (Below w.heap.size w (w3.alloc (.cells #[.bool z] 4))):=LH (below_step HB2.out hb4)
 have HOB4:Hid (Blk (w3.alloc (.cells #[.bool z] 4)) w3.heap.size 4 [.bool z]):=LH (Blk.new rfl)
 have HZ:=LH hz
 have hob:w.heap.size≤w3.heap.size:=Nat.le_trans HB2.out.size hb.size
 clear hb hb4 hz KN HT2 HTB2 HB2 t0 tz tl
 go_upto_region 5 with fail
 obtain ⟨ob,hob'⟩:∃ ob,ob=w3.heap.size:=⟨_,rfl⟩
 rw [← hob'] at HOB4 hob ⊢
 generalize (w3.alloc (.cells #[.bool z] 4))=w4 at HT4 HTB4 HB4 HOB4 ⊢
 clear hob'
 go_wp2_with fail
 go_loopg [7,8,21] n (fun gh _ _ iv wr=>∃ (k:Nat) (z:Bool),k≤n∧gh=n - k∧iv=.int .i64 (k:Int)∧Hid (Below w.heap.size w wr)∧Hid (Blk wr tb 50 [.slice ta tn tc])∧Hid (OwnTab wr w.heap.size (.slice ta tn tc) T)∧Hid (Blk wr ob 4 [.bool z])∧Hid (z=true→OneP T.flatten∧∀ i:Nat,i < k→HonF T (i:Int) (cmdsP (m.getD i [])).1 skZ))
 case atStart=>exact ⟨0,z,Nat.zero_le _,rfl,rfl,HB4,HTB4,HT4,HOB4,LH (fun e=>⟨HZ.out e,fun i hi=>absurd hi (Nat.not_lt_zero _)⟩)⟩
 case round =>
  clear HB4 HTB4 HT4 HOB4 HZ
  obtain ⟨k,z',hk,rfl,rfl,HB,HTB,HT,HOB,HH⟩:=hrel
  by_cases hlt:k < n
  ·have hk0:(0:Int)≤(k:Int):=by omega
   have hk1:(k:Int) < (n:Int):=by omega
   obtain ⟨b,off,rfl⟩:=HA.out (by omega)
   obtain ⟨ua,uc,c0,hr⟩:=LogsR.at_ (HS.out.below HB.out) (i:=k) (by rw [← HN.out];exact hlt)
   have KP:=LH (honPlay (tb:=tb) (z:=z') (k:=k) (w:=w) (by omega) hr (HSM.out k hlt) (HALL.out k (by rw [← HN.out];exact hlt)) hob ⟨HB.out,HTB.out,HT.out,z',HOB.out,fun e=>⟨e,fun h=>h⟩⟩)
   obtain ⟨un,hun⟩:∃ un,un=(m.getD k []).length:=⟨_,rfl⟩
   rw [← hun] at c0 KP
   clear hr hun
   go_wp2_with fail
   refine KP.out.mono ?_
   rintro e w5 ⟨ck,wa,wn,wc,da,dn,dc,s,rfl,hb,htb,hT,z2,hob2,hz2⟩
   have HB5:=LH hb
   have HTB5:=LH htb
   have HT5:=LH hT
   have HOB5:=LH hob2
   have HZ2:=LH hz2
   clear hb htb hT hob2 hz2 KP c0
   go_wp2_with fail
   go_roundg (n - (k+1))
   case measure=>omega
   case rel =>
    refine ⟨k+1,z2,by omega,rfl,by go_num,HB5,HTB5,HT5,HOB5,LH fun e=>?_⟩
    obtain ⟨q1,q2⟩:=HZ2.out e
    obtain ⟨q3,q4⟩:=HH.out q1
    refine ⟨q3,fun i hi=>?_⟩
    by_cases hik:i < k
    ·exact q4 i hik
    ·obtain rfl:i=k:=by omega
     exact q2 trivial
  ·obtain rfl:k=n:=by omega
   have hlt':¬ (k:Int) < (k:Int):=by omega
   obtain ⟨o0,oz⟩:=cells1 HOB.out
   have ol:=HOB.out.lt
   go_wp2_with fail
   refine bodyPost_ret (v:=.tuple #[.bool z',.int .i64 0]) (by simp [results,Tryz.results6,go_sem]) rfl (show HonestEnd _ _ _ _ from ⟨z',0,rfl,HB.out,fun _ e=>?_⟩)
   obtain ⟨q1,q2⟩:=HH.out e
   rw [HTF.out] at q1 q2
   exact ⟨by rw [← HN.out];exact h4n,HALL.out,q1,fun i hi=>q2 i (by rw [HN.out];exact hi)⟩
theorem info_tks:(Tryz.prog.info? 40).map (fun i=>(i.zero,i.size,i.bytes))=some (some (.slice none 0 0),1,24):=by kernel_rfl
def putCs (p:Value × List Tk):List Value:=[p.1]
theorem putCs_len (p:Value × List Tk):(putCs p).length=1:=rfl
theorem OwnTk.fr {ts:List TypeId} {w w':World} {B:Nat} {v:Value} {l:List Tk} (h:OwnTk w B v l) (hf:Fr ts w w') (h1:48 ∉ ts):OwnTk w' B v l:=ownsRow_fr h hf h1
def OwnPut (w:World) (B:Nat) (v:Value) (t:List (List Tk)):Prop:=∃ vs:List (Value × List Tk),vs.map (·.2)=t∧w.ownsRow B 40 1 v t.length (vs.flatMap putCs)∧∀ p∈vs,OwnTk w B p.1 p.2
theorem OwnPut.nil (w:World) (B:Nat):OwnPut w B (.slice none 0 0) []:=⟨[],rfl,World.ownsRow_nil _ _ _ _,fun _ h=>by cases h⟩
theorem OwnPut.keep {w w':World} {B:Nat} {v:Value} {t:List (List Tk)} (h:OwnPut w B v t) (hb:Below w.heap.size w w'):OwnPut w' B v t:=by
 obtain ⟨vs,h1,h2,h3⟩:=h
 exact ⟨vs,h1,ownsRow_keep h2 hb,fun p hp=>ownsRow_keep (h3 p hp) hb⟩
theorem OwnPut.snoc {w w':World} {B n:Nat} {v v' u:Value} {t:List (List Tk)} {x:List Tk} {vs:List (Value × List Tk)} (h1:vs.map (·.2)=t) (h2:w.ownsRow B 40 1 v n (vs.flatMap putCs)) (h3:∀ p∈vs,OwnTk w B p.1 p.2)
  (hu:OwnTk w B u x) (hg:w.grownBy w' v.ownBlock) (hv:w'.ownsRow B 40 1 v' (n+1) (vs.flatMap putCs++[u])) (hn:n=t.length):OwnPut w' B v' (t++[x]):=by
 have hf:Fr [40] w w':=Fr.grown h2 hg (by decide)
 refine ⟨vs++[(u,x)],by simp [h1],?_,fun p hp=>?_⟩
 ·rw [List.length_append,← hn,List.flatMap_append]
  simpa [putCs] using hv
 ·rcases List.mem_append.1 hp with hp|hp
  ·exact (h3 p hp).fr hf (by decide)
  ·rw [List.mem_singleton.1 hp]
   exact hu.fr hf (by decide)
theorem OwnPut.at_ {w:World} {B n cap i:Nat} {a:Option Addr} {t:List (List Tk)} (h:OwnPut w B (.slice a n cap) t) (hi:i < t.length) :
  ∃ b off u,a=some ⟨b,off,none⟩∧w.cell? ⟨b,off+i,none⟩=some u∧OwnTk w B u (t.getD i []):=by
 obtain ⟨vs,rfl,h2,h3⟩:=h
 rw [List.length_map] at h2 hi
 obtain ⟨a',cap',e,_,_,_,h5⟩:=sliceR_of_owns putCs_len h2
 obtain ⟨b,off,e2,hat⟩:=h5 (by omega)
 refine ⟨b,off,vs[i].1,?_,?_,?_⟩
 ·rw [e2] at e
  simp at e
  exact e.1
 ·have:=hat i hi 0 (by omega)
  simpa [putCs] using this
 ·have:=h3 vs[i] (List.getElem_mem hi)
  simpa [List.getD,hi] using this
def putFrom:Nat→List (List ByteArray)→List (List Tk)
 |_,[]=>[]
 |g,l :: m=>(playR (g:Int) l).2 :: putFrom (g+1) m
def putF (m:List (List ByteArray)):List (List Tk):=putFrom 0 m
theorem putFrom_len:∀ (g:Nat) (m:List (List ByteArray)),(putFrom g m).length=m.length
 |_,[]=>rfl
 |g,l :: m=>by rw [putFrom,List.length_cons,List.length_cons,putFrom_len]
theorem putFrom_get:∀ (g:Nat) (m:List (List ByteArray)) (i:Nat),i < m.length→(putFrom g m).getD i []=(playR ((g+i:Nat):Int) (m.getD i [])).2
 |_,[],i,h=>absurd h (Nat.not_lt_zero _)
 |g,l :: m,0,_=>rfl
 |g,l :: m,i+1,h=>by
  rw [putFrom,List.getD_cons_succ,List.getD_cons_succ,putFrom_get (g+1) m i (Nat.lt_of_succ_lt_succ h)]
  rw [show g+1+i=g+(i+1) by omega]
theorem putF_get {m:List (List ByteArray)} {i:Nat} (h:i < m.length):(putF m).getD i []=(playR (i:Int) (m.getD i [])).2:=by
 have:=putFrom_get 0 m i h
 rwa [Nat.zero_add] at this
theorem putF_few {m:List (List ByteArray)} (h:HonP m) {i:Nat} (hi:i < m.length):((putF m).getD i []).length≤1000000:=by
 rw [putF_get hi,playR]
 have h1:=runQ_few (g:=(i:Int)) (cmdsP (m.getD i [])).1 gs0 []
 have h2:(cmdsP (m.getD i [])).1.length≤200:=(cmdsP_ok (l:=m.getD i []) (Prod.ext rfl (h.ok i hi))).2
 rw [List.length_nil] at h1
 omega
theorem end_of {m:List (List ByteArray)} (h:HonP m) {i:Nat} (hi:i < m.length):∃ s:Sk,InvK s∧HonI (tabF m) ((tabF m).getD i []) s∧PutI s ((putF m).getD i []):=by
 have hok:=(cmdsP_ok (l:=m.getD i []) (Prod.ext rfl (h.ok i hi))).1
 rw [putF_get hi,tabF_get hi,playR]
 obtain ⟨h1,h2⟩:=hon_run (t:=tabF m) (T:=timesF (i:Int) (cmdsP (m.getD i [])).1 skZ) (cmdsP (m.getD i [])).1 skZ invK_z hok (honI_z _ _) (h.hon i hi) (fun _ hx=>hx)
 have h3:=runQ_put (g:=(i:Int)) (cmdsP (m.getD i [])).1 gs0 [] ⟨[],List.nil_sublist _,rfl⟩
 rw [runQ_sk (g:=(i:Int)) _ gs0 [] invK_z hok] at h3
 exact ⟨_,h1,h2,h3⟩
theorem pair_same {m:List (List ByteArray)} (h:HonP m) {i j:Nat} (hi:i < m.length) (hj:j < m.length):bothQ ((putF m).getD i []) ((putF m).getD j [])=bothQ ((putF m).getD j []) ((putF m).getD i []):=by
 obtain ⟨s,a1,a2,a3⟩:=end_of h hi
 obtain ⟨s',b1,b2,b3⟩:=end_of h hj
 have hmem:∀ k,k < m.length→∀ x∈(tabF m).getD k [],x∈(tabF m).flatten:=fun k hk x hx=>by
  have hk':k < (tabF m).length:=by rw [tabF,tabFrom_len];exact hk
  refine List.mem_flatten.2 ⟨_,?_,hx⟩
  rw [show (tabF m).getD k []=(tabF m)[k] by simp [List.getD,hk']]
  exact List.getElem_mem hk'
 exact both_same a1 b1 a2 b2 a3 b3 fun x hx y hy e=>h.one x (hmem i hi x hx) y (hmem j hj y hy) e
end Go.Proofs.YtkkohllhebdlcaaGreatDoor
