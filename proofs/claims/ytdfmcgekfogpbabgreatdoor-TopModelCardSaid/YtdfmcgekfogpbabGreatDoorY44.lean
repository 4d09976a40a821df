/-
  Proved here: towncriertop.plain: what it answers is the model that a group's run ke
-/
import Derived.Test.YtdfmcgekfogpbabGreatDoorY38
import Derived.Test.YtdfmcgekfogpbabGreatDoorY40
import Derived.Test.YtdfmcgekfogpbabGreatDoorY41
import Derived.Test.YtdfmcgekfogpbabGreatDoorY42
set_option maxRecDepth 100000
namespace Go.Proofs.YtdfmcgekfogpbabGreatDoor
open Go.RowKit
theorem okCom_kinds {c:PC} (h:okCom c=true) (h4:4≤c.kind):c.kind=4∨c.kind=5∨c.kind=6:=by
 have:=okCom_kind h
 unfold okP at this
 have h0:c.kind≠0:=by omega
 have h1:c.kind≠1:=by omega
 have h2:c.kind≠2:=by omega
 have h3:c.kind≠3:=by omega
 simp only [h0,h1,h2,h3,if_false] at this
 split at this
 ·left;assumption
 ·split at this
  ·right;assumption
  ·cases this
theorem OwnSk.blk1 {W:World} {B b o:Nat} {t:TypeId} {cs:List Value} {v u:Value} {s:Sk} (h:OwnSk W B v s) (hb:Blk W b t cs) (h1:196≠t) (h2:3≠t) (h3:199≠t):OwnSk (W.setCell ⟨b,o,none⟩ u) B v s:=by
 obtain ⟨a,c,b',d,e0,⟨pl,e1,e2,e3⟩,e4⟩:=h
 have hh:∀ k,k≠b→(W.setCell ⟨b,o,none⟩ u).heap[k]?=W.heap[k]?:=fun k hk=>heap_set _ _ _ _ k hk
 exact ⟨a,c,b',d,e0,⟨pl,e1,row_far e2 hh (row_blk e2 hb h1),fun p hp=>row_far (e3 p hp) hh (row_blk (e3 p hp) hb h2)⟩,row_far e4 hh (row_blk e4 hb h3)⟩
theorem OwnMs.blk1 {W:World} {B b o:Nat} {t:TypeId} {cs:List Value} {v u:Value} {l:List PM} (h:OwnMs W B v l) (hb:Blk W b t cs) (h1:77≠t) (h2:3≠t):OwnMs (W.setCell ⟨b,o,none⟩ u) B v l :=
 h.blk hb (fun k hk=>heap_set _ _ _ _ k hk) h1 h2
structure PlK (w:World) (b6 b7 b8:Nat) (s:Gs) (ta tc wv dv:Value):Prop where
 m:Blk w b6 46 [ta,tc]
 k:Blk w b7 29 [.int .i64 s.sk.clock,wv,dv]
 l:Blk w b8 89 (rowVals s.last)
 om:OwnN w 0 (.agg #[ta,tc]) s.m
 ok:OwnSk w 0 (.agg #[.int .i64 s.sk.clock,wv,dv]) s.sk
theorem PlK.keep {w w':World} {b6 b7 b8:Nat} {s:Gs} {ta tc wv dv:Value} (h:PlK w b6 b7 b8 s ta tc wv dv) (hb:Below w.heap.size w w'):PlK w' b6 b7 b8 s ta tc wv dv:=⟨h.m.step hb,h.k.step hb,h.l.step hb,h.om.keep hb,h.ok.keep hb⟩
theorem PlK.setL {w:World} {b6 b7 b8:Nat} {sk:Sk} {m:Mdl} {last:List Int} {ta tc wv dv:Value} (h:PlK w b6 b7 b8 ⟨sk,m,last⟩ ta tc wv dv) (h6:b6≠b8) (h7:b7≠b8) (i:Nat) (n:Int):PlK (w.setCell ⟨b8,i,none⟩ (.int .i64 n)) b6 b7 b8 ⟨sk,m,last.set i n⟩ ta tc wv dv :=
 ⟨h.m.far h6 _,h.k.far h7 _,by have:=h.l.set_ i (.int .i64 n);rwa [rowQ_set] at this,h.om.blk h.l (by decide) (by decide) (by decide) (by decide),h.ok.blk1 h.l (by decide) (by decide) (by decide)⟩
theorem PlK.setM {w:World} {b6 b7 b8:Nat} {sk:Sk} {m m':Mdl} {last:List Int} {ta tc wv dv p q:Value} (h:PlK w b6 b7 b8 ⟨sk,m,last⟩ ta tc wv dv) (h7:b7≠b6) (h8:b8≠b6) (hm:OwnN w 0 (.agg #[p,q]) m'):PlK ((w.setCell ⟨b6,0,none⟩ p).setCell ⟨b6,1,none⟩ q) b6 b7 b8 ⟨sk,m',last⟩ p q wv dv :=
 ⟨(h.m.set_ 0 p).set_ 1 q,(h.k.far h7 _).far h7 _,(h.l.far h8 _).far h8 _,(hm.blk h.m (by decide) (by decide) (by decide) (by decide)).blk (h.m.set_ 0 p) (by decide) (by decide) (by decide) (by decide),(h.ok.blk1 h.m (by decide) (by decide) (by decide)).blk1 (h.m.set_ 0 p) (by decide) (by decide) (by decide)⟩
theorem PlK.setK {w:World} {b6 b7 b8:Nat} {sk sk':Sk} {m:Mdl} {last:List Int} {ta tc wv dv p q:Value} (h:PlK w b6 b7 b8 ⟨sk,m,last⟩ ta tc wv dv) (h6:b6≠b7) (h8:b8≠b7) (hk:OwnSk w 0 (.agg #[.int .i64 sk'.clock,p,q]) sk'):PlK (((w.setCell ⟨b7,0,none⟩ (.int .i64 sk'.clock)).setCell ⟨b7,1,none⟩ p).setCell ⟨b7,2,none⟩ q) b6 b7 b8 ⟨sk',m,last⟩ ta tc p q :=
 ⟨((h.m.far h6 _).far h6 _).far h6 _,((h.k.set_ 0 (.int .i64 sk'.clock)).set_ 1 p).set_ 2 q,((h.l.far h8 _).far h8 _).far h8 _,((h.om.blk h.k (by decide) (by decide) (by decide) (by decide)).blk (h.k.set_ 0 (.int .i64 sk'.clock)) (by decide) (by decide) (by decide) (by decide)).blk ((h.k.set_ 0 (.int .i64 sk'.clock)).set_ 1 p) (by decide) (by decide) (by decide) (by decide),
  ((hk.blk1 h.k (by decide) (by decide) (by decide)).blk1 (h.k.set_ 0 (.int .i64 sk'.clock)) (by decide) (by decide) (by decide)).blk1 ((h.k.set_ 0 (.int .i64 sk'.clock)).set_ 1 p) (by decide) (by decide) (by decide)⟩
theorem putsM_fst:∀ (l:List PM) (m:Mdl) (t1 t2:List Tk),(putsM m t1 l).1=(putsM m t2 l).1
 |[],_,_,_=>by simp [putsM]
 |x :: l,m,t1,t2=>by
  rw [putsM,putsM]
  split
  ·exact putsM_fst l _ _ _
  ·exact putsM_fst l _ _ _
theorem runQ_fst {g:Int}:∀ (l:List PC) (s:Gs) (o1 o2:List Tk),(runQ g l s o1).1=(runQ g l s o2).1
 |[],_,_,_=>rfl
 |c :: l,s,o1,o2=>by
  rw [runQ,runQ]
  exact runQ_fst l _ _ _
def PlainTEnd (m:Mdl) (w:World) (e:Ending) (w':World):Prop:=∃ a1 n1 c1 a2 n2 c2,e=.returned (.tuple #[.agg #[.slice a1 n1 c1,.slice a2 n2 c2],.bool true])∧MdlR w' (.agg #[.slice a1 n1 c1,.slice a2 n2 c2]) m∧Below w.heap.size w w'
theorem OwnN.shape {w:World} {B:Nat} {ta tc:Value} {m:Mdl} (h:OwnN w B (.agg #[ta,tc]) m):∃ a1 n1 c1 a2 n2 c2,ta=.slice a1 n1 c1∧tc=.slice a2 n2 c2:=by
 obtain ⟨a,cap,b,nc,cc,e,_,_⟩:=h.reads.shape
 simp at e
 exact ⟨_,_,_,_,_,_,e.1,e.2⟩
theorem OwnSk.shape {w:World} {B:Nat} {ck:Int} {p q:Value} {s:Sk} (h:OwnSk w B (.agg #[.int .i64 ck,p,q]) s):∃ a1 n1 c1 a2 n2 c2,p=.slice a1 n1 c1∧q=.slice a2 n2 c2:=by
 obtain ⟨a,c,b,d,e,_,_⟩:=h
 simp at e
 exact ⟨_,_,_,_,_,_,e.2.1,e.2.2⟩
set_option maxHeartbeats 16000000 in
set_option maxRecDepth 100000 in
theorem topPlain_any {w:World} {gr:Int} {v:Value} {cs:List PC} (hk:CmdsR w v cs) (hok:∀ c∈cs,okCom c=true) (hfew:cs.length≤200) :
  Calls Tryz.prog 8 #[.int .i64 gr,v] w (PlainTEnd (runQ gr cs gs0 []).1.m w):=by
 obtain ⟨pl0,hpl0,⟨ca,ccap,ev,-⟩,-⟩:=id hk
 have hnl:pl0.length=cs.length:=by rw [← hpl0,List.length_map]
 subst ev
 rw [hnl] at hk ⊢
 obtain ⟨n,hn⟩:∃ n,n=cs.length:=⟨_,rfl⟩
 rw [← hn] at hk hfew ⊢
 have HN:=LH hn
 have HK:=LH hk
 have HOK:=LH hok
 obtain ⟨R,hR⟩:∃ R,R=(runQ gr cs gs0 []).1:=⟨_,rfl⟩
 have HRR:=LH hR
 rw [← hR]
 clear hn hk hok hR hpl0 hnl pl0
 go_enter Tryz.func8,Tryz.ntmps8
 go_wp2_with fail
 refine (mdlNew_any _).mono ?_
 rintro e w1 ⟨ta,tc,rfl,om,hb⟩
 have OM1:Hid (OwnN w1 0 (.agg #[ta,tc]) newM):=LH ((OwnM.weak om).le (Nat.zero_le _))
 obtain ⟨a1,n1,c1,a2,n2,c2,rfl,rfl⟩:=OM1.out.shape
 have HB1:Hid (Below w.heap.size w w1):=below_step (by repeat (first|with_reducible (first|exact Below.refl _ _|apply Below.drew|apply below_alloc)|((first|with_reducible refine Below.alloc ?_ ?_ _|with_reducible refine Below.setCell ?_ ?_ _);rotate_left;focus (first|(simp <;> omega)|omega)))) hb
 have HR1:Hid (Blk w1 w.heap.size 46 [.slice none 0 0,.slice none 0 0]):=LH (Blk.step (by repeat (first|with_reducible exact Blk.new rfl|((with_reducible apply Blk.new);focus (first|rfl|(simp <;> omega)))|with_reducible (first|apply Blk.drew|apply Blk.alloc|apply Blk.set_)|((with_reducible apply Blk.far);rotate_left;focus (first|(simp <;> omega)|omega)))) hb)
 clear om hb
 go_wp2_with fail
 refine (skNew_any _).mono ?_
 rintro e w2 ⟨rfl,hb⟩
 have OM2:Hid (OwnN w2 0 (.agg #[.slice a1 n1 c1,.slice a2 n2 c2]) newM):=LH (OM1.out.keep hb)
 have HB2:Hid (Below w.heap.size w w2):=below_step HB1 hb
 have HR2:Hid (Blk w2 w.heap.size 46 [.slice none 0 0,.slice none 0 0]):=LH (HR1.out.step hb)
 have rl2:=HR2.out.lt
 clear hb OM1 HB1 HR1
 go_wp2_with fail
 obtain ⟨b6,hb6⟩:∃ b,b=w2.heap.size:=⟨_,rfl⟩
 obtain ⟨w3,hw3⟩:∃ w3,w3=((w2.alloc (.cells #[.slice a1 n1 c1,.slice a2 n2 c2] 46)).alloc (.cells #[.int .i64 0,.slice none 0 0,.slice none 0 0] 29)).alloc (.cells #[.int .i64 0,.int .i64 0,.int .i64 0,.int .i64 0,.int .i64 0,.int .i64 0] 89):=⟨_,rfl⟩
 have hA:Below w2.heap.size w2 w3:=by rw [hw3];exact (((Below.refl _ _).alloc (Nat.le_refl _) _).alloc (by simp) _).alloc (by simp;omega) _
 have HP:Hid (PlK w3 b6 (b6+1) (b6+2) gs0 (.slice a1 n1 c1) (.slice a2 n2 c2) (.slice none 0 0) (.slice none 0 0)):=LH (by
  rw [hb6]
  refine ⟨?_,?_,?_,OM2.out.keep hA,⟨none,0,none,0,rfl,OwnW.nil _ _,OwnD.nil _ _⟩⟩
  ·rw [hw3]
   exact ((Blk.new (cs:=[.slice a1 n1 c1,.slice a2 n2 c2]) rfl).alloc _).alloc _
  ·rw [hw3]
   exact (Blk.new (cs:=[.int .i64 0,.slice none 0 0,.slice none 0 0]) (by simp)).alloc _
  ·rw [hw3]
   exact Blk.new (cs:=[.int .i64 0,.int .i64 0,.int .i64 0,.int .i64 0,.int .i64 0,.int .i64 0]) (by simp))
 have HB3:Hid (Below w.heap.size w w3):=below_step HB2 hA
 have HR3:Hid (Blk w3 w.heap.size 46 [.slice none 0 0,.slice none 0 0]):=LH (HR2.out.step hA)
 have s3:b6+2 < w3.heap.size:=by rw [hw3,hb6];simp
 have e7:w2.heap.size+1=b6+1:=by rw [hb6]
 have e8:w2.heap.size+1+1=b6+2:=by rw [hb6]
 rw [← hw3]
 try rw [e8]
 try rw [e7]
 rw [← hb6] at rl2 ⊢
 clear hA hw3 hb6 e7 e8 OM2 HB2 HR2
 have HR0:=LH (show (runQ gr (cs.drop 0) gs0 []).1=R from HRR.out.symm)
 obtain ⟨b7,hb7⟩:∃ b,b=b6+1:=⟨_,rfl⟩
 obtain ⟨b8,hb8⟩:∃ b,b=b6+2:=⟨_,rfl⟩
 rw [← hb7,← hb8] at HP ⊢
 have d67:b6≠b7:=by omega
 have d68:b6≠b8:=by omega
 have d78:b7≠b8:=by omega
 have d76:b7≠b6:=by omega
 have d86:b8≠b6:=by omega
 have d87:b8≠b7:=by omega
 have dr6:w.heap.size < b6:=rl2
 have dr7:w.heap.size < b7:=by omega
 have dr8:w.heap.size < b8:=by omega
 clear hb7 hb8 s3 HRR rl2
 go_loopg [9,10,11,12,13,14,15,16,17,18,19,20,21,22] n (fun gh iv _ _ _ _ _ _ _ _ _ _ _ _ _ wr=>∃ (i:Nat) (s:Gs) (ta tc wv dv:Value),i≤n∧gh=n - i∧iv=.int .i64 (i:Int)∧Hid (PlK wr b6 b7 b8 s ta tc wv dv)∧Hid (OkH s)∧Hid (Below w.heap.size w wr)∧Hid (Blk wr w.heap.size 46 [.slice none 0 0,.slice none 0 0])∧Hid ((runQ gr (cs.drop i) s []).1=R))
 case atStart=>exact ⟨0,gs0,_,_,_,_,Nat.zero_le _,rfl,rfl,HP,LH gs0_ok,HB3,HR3,HR0⟩
 case round =>
  clear HP HB3 HR3 HR0
  obtain ⟨i,s,ta,tc,wv,dv,hi,rfl,rfl,HP,HKH,HB,HR4,HR⟩:=hrel
  by_cases hlt:i < n
  ·have hi0:(0:Int)≤(i:Int):=by omega
   have hi1:(i:Int) < (n:Int):=by omega
   have hn200:n≤200:=hfew
   obtain ⟨pl,hpl,hsl,hin⟩:=HK.out.below HB.out
   obtain ⟨a',cap',e1,_,_,_,h5⟩:=hsl
   have hpn:pl.length=n:=by rw [HN.out,← hpl,List.length_map]
   obtain ⟨gm,off,e2,hat⟩:=h5 (by omega)
   have hkm:i < pl.length:=by omega
   obtain ⟨p,hp⟩:∃ p,p=pl[i]:=⟨_,rfl⟩
   have hc:=fun j (hj:j < 12)=>hat i hkm j hj
   rw [← hp] at hc
   have e3:ca=some ⟨gm,off,none⟩:=by
    have:=e1;rw [e2] at this;simp at this;exact this.1
   subst e3
   obtain ⟨hg1,hg2⟩:=hin p (by rw [hp];exact List.getElem_mem hkm)
   have hdr:cs.drop i=p.2 :: cs.drop (i+1):=by
    have hkl:i < cs.length:=by rw [← HN.out];exact hlt
    rw [List.drop_eq_getElem_cons hkl]
    congr 1
    have:cs[i]?=some p.2:=by rw [← hpl,List.getElem?_map,List.getElem?_eq_getElem hkm,hp];rfl
    rw [List.getElem?_eq_getElem hkl] at this
    exact Option.some.inj this
   have HOC:=LH (show okCom p.2=true from HOK.out p.2 (by rw [← hpl];exact List.mem_map.2 ⟨p,by rw [hp];exact List.getElem_mem hkm,rfl⟩))
   have hr:=HR.out
   rw [hdr,runQ,runQ_fst _ _ _ []] at hr
   have HR2:=LH hr
   obtain ⟨⟨u1,u2⟩,c⟩:=p
   simp only at hg1 hg2 HOC HR2
   obtain ⟨ma,mc,rfl,-⟩:=hg1.shape
   obtain ⟨mb,bc,rfl,-⟩:=hg2.shape
   have HCR:Hid (ComR wr (.agg #[.int .u8 c.kind,.int .i64 c.msg.id,.slice ma c.msg.groups.length mc,.int .i64 c.msg.topic,.string c.msg.key,.string c.msg.body,.int .i64 c.id,.int .i64 c.time,.slice mb c.members.length bc,.int .i64 c.topic,.int .i64 c.who,.int .i64 c.n]) c):=LH ⟨ma,mc,mb,bc,rfl,hg1,hg2⟩
   have x0:=hc 0 (by omega)
   have x1:=hc 1 (by omega)
   have x2:=hc 2 (by omega)
   have x3:=hc 3 (by omega)
   have x4:=hc 4 (by omega)
   have x5:=hc 5 (by omega)
   have x6:=hc 6 (by omega)
   have x7:=hc 7 (by omega)
   have x8:=hc 8 (by omega)
   have x9:=hc 9 (by omega)
   have x10:=hc 10 (by omega)
   have x11:=hc 11 (by omega)
   simp only [← Nat.add_assoc,Nat.add_zero,comCs] at x0 x1 x2 x3 x4 x5 x6 x7 x8 x9 x10 x11
   have hgm:gm < wr.heap.size:=World.block_lt_of_cell? wr _ x0
   have HKH2:=LH (stepQ_okH (g:=gr) (c:=c) HKH.out)
   obtain ⟨sk,m,last⟩:=s
   obtain ⟨kd,⟨i1,gl,t1,k1,bo⟩,ci,ct,ml,cp,cw,cn⟩:=c
   obtain ⟨gn,hgn⟩:∃ gn,gn=gl.length:=⟨_,rfl⟩
   obtain ⟨mn,hmn⟩:∃ mn,mn=ml.length:=⟨_,rfl⟩
   simp only at x0 x1 x2 x3 x4 x5 x6 x7 x8 x9 x10 x11 HCR
   rw [← hgn,← hmn] at HCR
   rw [← hgn] at x2
   rw [← hmn] at x8
   clear hc hat h5 e1 e2 hp hdr hr hkm hpn hg1 hg2 hin hpl hgn hmn HR
   go_upto_region 7 with fail
   have hA:Below wr.heap.size wr (wr.alloc (.cells #[.int .u8 kd,.int .i64 i1,.slice ma gn mc,.int .i64 t1,.string k1,.string bo,.int .i64 ci,.int .i64 ct,.slice mb mn bc,.int .i64 cp,.int .i64 cw,.int .i64 cn] 79)):=(Below.refl _ _).alloc (Nat.le_refl _) _
   have HC2:Hid (Blk (wr.alloc (.cells #[.int .u8 kd,.int .i64 i1,.slice ma gn mc,.int .i64 t1,.string k1,.string bo,.int .i64 ci,.int .i64 ct,.slice mb mn bc,.int .i64 cp,.int .i64 cw,.int .i64 cn] 79)) wr.heap.size 79 [.int .u8 kd,.int .i64 i1,.slice ma gn mc,.int .i64 t1,.string k1,.string bo,.int .i64 ci,.int .i64 ct,.slice mb mn bc,.int .i64 cp,.int .i64 cw,.int .i64 cn]):=LH (Blk.new rfl)
   have HP2:=LH (HP.out.keep hA)
   have HB2:Hid (Below w.heap.size w (wr.alloc (.cells #[.int .u8 kd,.int .i64 i1,.slice ma gn mc,.int .i64 t1,.string k1,.string bo,.int .i64 ci,.int .i64 ct,.slice mb mn bc,.int .i64 cp,.int .i64 cw,.int .i64 cn] 79))):=below_step HB hA
   have HR5:=LH (HR4.out.step hA)
   have HCR2:=LH (HCR.out.below hA)
   have l6:=HP.out.m.lt
   have l7:=HP.out.k.lt
   have l8:=HP.out.l.lt
   have lr:=HR4.out.lt
   clear hA HP HB HR4 HCR x0 x1 x2 x3 x4 x5 x6 x7 x8 x9 x10 x11
   obtain ⟨b10,hb10⟩:∃ b,b=wr.heap.size:=⟨_,rfl⟩
   have d106:b10≠b6:=by omega
   have d107:b10≠b7:=by omega
   have d108:b10≠b8:=by omega
   have d10r:w.heap.size < b10:=by omega
   clear l6 l7 l8 lr
   rw [← hb10] at HC2 ⊢
   generalize (wr.alloc (.cells #[.int .u8 kd,.int .i64 i1,.slice ma gn mc,.int .i64 t1,.string k1,.string bo,.int .i64 ci,.int .i64 ct,.slice mb mn bc,.int .i64 cp,.int .i64 cw,.int .i64 cn] 79))=w2' at HC2 HP2 HB2 HR5 HCR2 ⊢
   clear hb10 hgm
   obtain ⟨⟨⟨p0,p1,p2,p3⟩,⟨p4,p5,p6,p7⟩,p8,p9,p10,p11⟩,pz⟩:=cells12 HC2.out
   have cl:=HC2.out.lt
   obtain ⟨a1,n1,c1,a2,n2,c2,rfl,rfl⟩:=HP2.out.om.shape
   obtain ⟨a3,n3,c3,a4,n4,c4,rfl,rfl⟩:=HP2.out.ok.shape
   obtain ⟨m0,m1,mz⟩:=cells2 HP2.out.m
   have ml2:=HP2.out.m.lt
   obtain ⟨s0,s1,s2,sz⟩:=cells3 HP2.out.k
   have sl2:=HP2.out.k.lt
   have ll2:=HP2.out.l.lt
   obtain ⟨ck,hck⟩:∃ ck,ck=sk.clock:=⟨_,rfl⟩
   have HCK:=LH hck
   simp only at s0
   rw [← hck] at s0
   clear hck
   by_cases h4:4≤kd
   ·have hid:=okCom_top HOC.out h4
    simp only at hid
    obtain ⟨sd,hsd⟩:∃ sd:Nat,ci / 1048576=(sd:Int):=⟨(ci / 1048576).toNat,by have:=hid.1;omega⟩
    have hsd6:sd < 6:=by omega
    obtain ⟨nn,hnn⟩:∃ nn,nn=ci % 1048576:=⟨_,rfl⟩
    have hnn0:0≤nn:=by omega
    have hnn1:nn < 1048576:=by omega
    obtain ⟨y,hy⟩:∃ y,y=last.getD sd 0:=⟨_,rfl⟩
    obtain ⟨D,hD⟩:∃ D,D=doM m kd cp cw cn:=⟨_,rfl⟩
    have KS:Hid (∀ W,Calls Tryz.prog 27 #[.int .i64 ci] W fun e W'=>e=.returned (.tuple #[.int .i64 (sd:Int),.int .i64 nn,.int .i64 0])∧W=W'):=fun W=>by
     have:=stamp_of_yes ci W hid.1 hid.2
     rw [hsd,← hnn] at this
     exact this
    have HE:Hid ((stepQ gr ⟨kd,⟨i1,gl,t1,k1,bo⟩,ci,ct,ml,cp,cw,cn⟩ ⟨sk,m,last⟩).1=if nn < y then ⟨sk,m,last⟩ else ⟨sk,if D.2=0 then D.1 else m,last.set sd (nn+1)⟩):=by
     rw [stepQ,if_pos h4,onTopM]
     simp only [hsd,Int.toNat_natCast,← hnn,← hy,← hD]
     split <;> exact LH rfl
    obtain ⟨u,x⟩:=D
    have hl6:last.length=6:=HKH.out.six
    have hyc:(rowVals last)[sd]?=some (.int .i64 y):=by rw [hy];exact rowQ_get (by omega)
    have ly:=HP2.out.l.cell sd
    have lz:=HP2.out.l.free sd
    simp only at ly
    rw [hyc] at ly
    have HFC:=LH (okC_few HKH.out.may.2.1)
    have KD:Hid (∀ W,MdlR W (.agg #[.slice a1 n1 c1,.slice a2 n2 c2]) m→Calls Tryz.prog 28 #[.agg #[.slice a1 n1 c1,.slice a2 n2 c2],.agg #[.int .u8 kd,.int .i64 i1,.slice ma gn mc,.int .i64 t1,.string k1,.string bo,.int .i64 ci,.int .i64 ct,.slice mb mn bc,.int .i64 cp,.int .i64 cw,.int .i64 cn]] W (DoEndM u x W)):=fun W hW=>mdlDo_any cp cw cn hW HFC.out hD.symm
    have s60:(0:Int)≤(sd:Int):=by omega
    have s66:(sd:Int) < 6:=by omega
    have s65:¬ (5:Int) < (sd:Int):=by omega
    have hw1:IntKind.i64.wrap (nn+1)=nn+1:=by rw [IntKind.wrap_i64];omega
    clear hsd hnn hD hyc hid hy
    rcases okCom_kinds HOC.out h4 with hq|hq|hq
    all_goals
     simp only at hq
     subst hq
     go_wp2_with fail
     refine (KS.out _).mono ?_
     rintro e w3' ⟨rfl,rfl⟩
     by_cases hny:nn < y
     ·have HE2:=HE.out
      rw [if_pos hny] at HE2
      have HKH3:=LH (HE2 ▸ HKH2.out)
      have HR6:=HR2.out
      rw [HE2] at HR6
      have HR7:=LH HR6
      clear HE2 HR6 HR2 HE HKH2
      go_wp2_with fail
      go_roundg (n - (i+1))
      case measure=>omega
      case rel=>exact ⟨i+1,⟨sk,m,last⟩,_,_,_,_,by omega,rfl,by go_num,HP2,HKH3,HB2,HR5,HR7⟩
     ·have HE2:=HE.out
      rw [if_neg hny] at HE2
      have HKH3:=LH (HE2 ▸ HKH2.out)
      have HR6:=HR2.out
      rw [HE2] at HR6
      have HR7:=LH HR6
      clear HE2 HR6 HR2 HE HKH2
      have HPL:=LH (HP2.out.setL d68 d78 sd (nn+1))
      have HBx:Hid (Below w.heap.size w (w2'.setCell ⟨b8,sd,none⟩ (.int .i64 (nn+1)))):=LH (HB2.out.setCell (Nat.le_of_lt dr8) _)
      have HRx:=LH (HR5.out.far (b:=b8) (o:=sd) (Nat.ne_of_lt dr8) (.int .i64 (nn+1)))
      have HCx:=LH (HC2.out.far (b:=b8) (o:=sd) d108 (.int .i64 (nn+1)))
      go_upto_region 13 with fail
      clear p0 p1 p2 p3 p4 p5 p6 p7 p8 p9 p10 p11 pz cl m0 m1 mz ml2 s0 s1 s2 sz sl2 ll2 ly lz HP2 HB2 HR5 HC2
      generalize w2'.setCell ⟨b8,sd,none⟩ (.int .i64 (nn+1))=w3x at HPL HBx HRx HCx ⊢
      obtain ⟨⟨⟨p0,p1,p2,p3⟩,⟨p4,p5,p6,p7⟩,p8,p9,p10,p11⟩,pz⟩:=cells12 HCx.out
      have cl:=HCx.out.lt
      obtain ⟨m0,m1,mz⟩:=cells2 HPL.out.m
      have ml2:=HPL.out.m.lt
      go_wp2_with fail
      refine (KD.out _ HPL.out.om.reads).mono ?_
      rintro e w4 ⟨tx,ty,rfl,om4,hb⟩
      obtain ⟨a5,n5,c5,a6,n6,c6,rfl,rfl⟩:=om4.shape
      have OM4:Hid (OwnN w4 0 (.agg #[.slice a5 n5 c5,.slice a6 n6 c6]) u):=LH (om4.le (Nat.zero_le _))
      have HP4:=LH (HPL.out.keep hb)
      have HB4:Hid (Below w.heap.size w w4):=below_step HBx hb
      have HR4':=LH (HRx.out.step hb)
      clear hb om4 p0 p1 p2 p3 p4 p5 p6 p7 p8 p9 p10 p11 pz cl m0 m1 mz ml2 HPL HBx HRx HCx
      obtain ⟨m0,m1,mz⟩:=cells2 HP4.out.m
      have ml2:=HP4.out.m.lt
      by_cases hx:x=0
      ·have hxb:(x == 0)=true:=by simpa using hx
       rw [if_pos hx] at HKH3 HR7
       clear hx
       go_wp2_with fail
       have hA:∀ W:World,Below W.heap.size W (W.alloc (.cells #[.slice a5 n5 c5,.slice a6 n6 c6] 46)):=fun W=>(Below.refl _ _).alloc (Nat.le_refl _) _
       have HP5:=LH ((HP4.out.setM d76 d86 OM4.out).keep (hA _))
       have HB5:Hid (Below w.heap.size w (((w4.setCell ⟨b6,0,none⟩ (.slice a5 n5 c5)).setCell ⟨b6,1,none⟩ (.slice a6 n6 c6)).alloc (.cells #[.slice a5 n5 c5,.slice a6 n6 c6] 46))):=LH (below_step ((HB4.out.setCell (Nat.le_of_lt dr6) _).setCell (Nat.le_of_lt dr6) _) (hA _))
       have HR6':Hid (Blk (((w4.setCell ⟨b6,0,none⟩ (.slice a5 n5 c5)).setCell ⟨b6,1,none⟩ (.slice a6 n6 c6)).alloc (.cells #[.slice a5 n5 c5,.slice a6 n6 c6] 46)) w.heap.size 46 [.slice none 0 0,.slice none 0 0]):=LH (((HR4'.out.far (Nat.ne_of_lt dr6) _).far (Nat.ne_of_lt dr6) _).step (hA _))
       go_roundg (n - (i+1))
       case measure=>omega
       case rel=>exact ⟨i+1,⟨sk,u,last.set sd (nn+1)⟩,_,_,_,_,by omega,rfl,by go_num,HP5,HKH3,HB5,HR6',HR7⟩
      ·have hxb:(x == 0)=false:=by simpa using hx
       rw [if_neg hx] at HKH3 HR7
       clear hx
       go_wp2_with fail
       have hA:Below w4.heap.size w4 (w4.alloc (.cells #[.slice a5 n5 c5,.slice a6 n6 c6] 46)):=(Below.refl _ _).alloc (Nat.le_refl _) _
       have HP5:=LH (HP4.out.keep hA)
       have HB5:Hid (Below w.heap.size w (w4.alloc (.cells #[.slice a5 n5 c5,.slice a6 n6 c6] 46))):=below_step HB4.out hA
       have HR6':=LH (HR4'.out.step hA)
       go_roundg (n - (i+1))
       case measure=>omega
       case rel=>exact ⟨i+1,⟨sk,m,last.set sd (nn+1)⟩,_,_,_,_,by omega,rfl,by go_num,HP5,HKH3,HB5,HR6',HR7⟩
   ·have h4':kd < 4:=by omega
    have k4:(kd == 4)=false:=by simpa using (show kd≠4 by omega)
    have k5:(kd == 5)=false:=by simpa using (show kd≠5 by omega)
    have k6:(kd == 6)=false:=by simpa using (show kd≠6 by omega)
    obtain ⟨⟨x,s',l⟩,hAP⟩:∃ D,D=apS gr ⟨kd,⟨i1,gl,t1,k1,bo⟩,ci,ct,ml,cp,cw,cn⟩ sk:=⟨_,rfl⟩
    obtain ⟨ln,hln⟩:∃ ln,ln=l.length:=⟨_,rfl⟩
    have HLNE:=LH hln
    have KA:Hid (Calls Tryz.prog 29 #[.agg #[.int .i64 ck,.slice a3 n3 c3,.slice a4 n4 c4],.int .i64 gr,.agg #[.int .u8 kd,.int .i64 i1,.slice ma gn mc,.int .i64 t1,.string k1,.string bo,.int .i64 ci,.int .i64 ct,.slice mb mn bc,.int .i64 cp,.int .i64 cw,.int .i64 cn]] w2' fun e W'=>∃ a5 n5 c5 a6 n6 c6 la lc,e=.returned (.tuple #[.agg #[.int .i64 s'.clock,.slice a5 n5 c5,.slice a6 n6 c6],.slice la ln lc,.int .i64 x])∧OwnSk W' 0 (.agg #[.int .i64 s'.clock,.slice a5 n5 c5,.slice a6 n6 c6]) s'∧OwnMs W' 0 (.slice la ln lc) l∧Below w2'.heap.size w2' W'):=by
     have hk:=HP2.out.ok.reads
     simp only at hk
     rw [← HCK.out] at hk
     refine (apply_any hk HCR2.out hAP).mono ?_
     intro e W' ⟨v',lv,he,ho,hm,hb⟩
     obtain ⟨la,lc,rfl⟩:=hm.shape
     obtain ⟨a,c',b',d,ev,_⟩:=id ho
     subst ev
     exact ⟨a,_,c',b',_,d,la,lc,by rw [hln];exact he,ho.le (Nat.zero_le _),by rw [hln];exact hm.le (Nat.zero_le _),hb⟩
    have HE:Hid ((stepQ gr ⟨kd,⟨i1,gl,t1,k1,bo⟩,ci,ct,ml,cp,cw,cn⟩ ⟨sk,m,last⟩).1=if x≠0 then ⟨sk,m,last⟩ else ⟨s',(putsM m [] l).1,last⟩):=by
     rw [stepQ,if_neg h4,← hAP]
     simp only
     split <;> exact LH rfl
    have HLEN0:Hid (x=0→l.length+sk.done.length≤200):=LH (fun hx=>by
     have:=apS_len (g:=gr) (c:=⟨kd,⟨i1,gl,t1,k1,bo⟩,ci,ct,ml,cp,cw,cn⟩) (s:=sk) (by rw [← hAP];exact hx)
     rw [← hAP] at this
     simp only at this
     omega)
    clear hAP hln h4 h4'
    go_wp2_with fail
    refine KA.out.mono ?_
    rintro e w4 ⟨a5,n5,c5,a6,n6,c6,la,lc,rfl,os,om,hb⟩
    have OS4:=LH os
    have OL4:=LH om
    have HP4:=LH (HP2.out.keep hb)
    have HB4:Hid (Below w.heap.size w w4):=below_step HB2 hb
    have HR4':=LH (HR5.out.step hb)
    clear hb os om KA p0 p1 p2 p3 p4 p5 p6 p7 p8 p9 p10 p11 pz cl m0 m1 mz ml2 s0 s1 s2 sz sl2 ll2 HP2 HB2 HR5 HC2 HCR2
    obtain ⟨s0,s1,s2,sz⟩:=cells3 HP4.out.k
    have sl2:=HP4.out.k.lt
    simp only at s0
    rw [← HCK.out] at s0
    by_cases hx:x=0
    ·have hxb:(x != 0)=false:=by simpa using hx
     have HE2:=HE.out
     rw [if_neg (fun h=>h hx)] at HE2
     have HKH3:=LH (HE2 ▸ HKH2.out)
     have HR6:=HR2.out
     rw [HE2] at HR6
     have HR7:=LH HR6
     have HDD:=LH (HLEN0.out hx)
     have HMAY0:=LH HKH.out.may
     have HLEN1:=LH HKH.out.len
     simp only at HMAY0 HLEN1
     clear hx HE2 HR6 HR2 HE HKH2 HLEN0
     go_wp2_with fail
     have hA:∀ W:World,Below W.heap.size W (W.alloc (.cells #[.int .i64 s'.clock,.slice a5 n5 c5,.slice a6 n6 c6] 29)):=fun W=>(Below.refl _ _).alloc (Nat.le_refl _) _
     have HP5:=LH ((HP4.out.setK d67 d87 OS4.out).keep (hA _))
     have HB5:Hid (Below w.heap.size w ((((w4.setCell ⟨b7,0,none⟩ (.int .i64 s'.clock)).setCell ⟨b7,1,none⟩ (.slice a5 n5 c5)).setCell ⟨b7,2,none⟩ (.slice a6 n6 c6)).alloc (.cells #[.int .i64 s'.clock,.slice a5 n5 c5,.slice a6 n6 c6] 29))):=LH (below_step (((HB4.out.setCell (Nat.le_of_lt dr7) _).setCell (Nat.le_of_lt dr7) _).setCell (Nat.le_of_lt dr7) _) (hA _))
     have HR5':Hid (Blk ((((w4.setCell ⟨b7,0,none⟩ (.int .i64 s'.clock)).setCell ⟨b7,1,none⟩ (.slice a5 n5 c5)).setCell ⟨b7,2,none⟩ (.slice a6 n6 c6)).alloc (.cells #[.int .i64 s'.clock,.slice a5 n5 c5,.slice a6 n6 c6] 29)) w.heap.size 46 [.slice none 0 0,.slice none 0 0]):=LH ((((HR4'.out.far (Nat.ne_of_lt dr7) _).far (Nat.ne_of_lt dr7) _).far (Nat.ne_of_lt dr7) _).step (hA _))
     have HS5:Hid (OwnMs ((((w4.setCell ⟨b7,0,none⟩ (.int .i64 s'.clock)).setCell ⟨b7,1,none⟩ (.slice a5 n5 c5)).setCell ⟨b7,2,none⟩ (.slice a6 n6 c6)).alloc (.cells #[.int .i64 s'.clock,.slice a5 n5 c5,.slice a6 n6 c6] 29)) 0 (.slice la ln lc) l):=LH ((((OL4.out.blk1 HP4.out.k (by decide) (by decide)).blk1 (HP4.out.k.set_ 0 _) (by decide) (by decide)).blk1 ((HP4.out.k.set_ 0 _).set_ 1 _) (by decide) (by decide)).keep (hA _))
     clear hA s0 s1 s2 sz sl2 HP4 HB4 HR4' OS4 OL4
     generalize ((((w4.setCell ⟨b7,0,none⟩ (.int .i64 s'.clock)).setCell ⟨b7,1,none⟩ (.slice a5 n5 c5)).setCell ⟨b7,2,none⟩ (.slice a6 n6 c6)).alloc (.cells #[.int .i64 s'.clock,.slice a5 n5 c5,.slice a6 n6 c6] 29))=w5 at HP5 HB5 HR5' HS5 ⊢
     obtain ⟨M,hM⟩:∃ M,M=(putsM m [] l).1:=⟨_,rfl⟩
     rw [← hM] at HKH3 HR7
     have HM0:=LH (show (putsM m [] (l.drop 0)).1=M from hM.symm)
     have HLN:=LH (show ln=l.length from HLNE.out)
     have hl200:ln≤200:=by have:=HDD.out;have:=HLN.out;omega
     clear hM HLNE
     go_loopg [19,20,21,22] ln (fun gh kv _ _ _ wi=>∃ (k:Nat) (m':Mdl) (tx ty:Value),k≤ln∧gh=ln - k∧kv=.int .i64 (k:Int)∧Hid (PlK wi b6 b7 b8 ⟨s',m',last⟩ tx ty (.slice a5 n5 c5) (.slice a6 n6 c6))∧Hid (OwnMs wi 0 (.slice la ln lc) l)∧Hid (Below w.heap.size w wi)∧Hid (Blk wi w.heap.size 46 [.slice none 0 0,.slice none 0 0])∧Hid (mayM m')∧Hid (lenM m' (sk.done.length+k))∧Hid ((putsM m' [] (l.drop k)).1=M))
     case atStart=>exact ⟨0,m,_,_,Nat.zero_le _,rfl,rfl,HP5,HS5,HB5,HR5',HMAY0,HLEN1,HM0⟩
     case round =>
      clear HP5 HS5 HB5 HR5' HMAY0 HLEN1 HM0
      rename World=>wi
      obtain ⟨k,m',tx,ty,hk,rfl,rfl,HPi,HSi,HBi,HRi,HMAY,HLEN,HQ⟩:=hrel
      by_cases hkl:k < ln
      ·have hk0:(0:Int)≤(k:Int):=by omega
       have hk1:(k:Int) < (ln:Int):=by omega
       obtain ⟨pl,hpl,hrow,hown⟩:=HSi.out
       have hpn:pl.length=ln:=by rw [HLN.out,← hpl,List.length_map]
       have hsl:SliceR wi (.slice la ln lc) 5 msgC pl:=sliceR_of_owns msgC_len (by rw [hpn,HLN.out];rw [← HLN.out] at hrow ⊢;exact hrow)
       obtain ⟨a',cap',e1,_,hmx,_,h5⟩:=hsl
       obtain ⟨gq,offq,e2,hat⟩:=h5 (by omega)
       have hkm:k < pl.length:=by omega
       obtain ⟨p,hp⟩:∃ p,p=pl[k]:=⟨_,rfl⟩
       have hc:=fun j (hj:j < 5)=>hat k hkm j hj
       rw [← hp] at hc
       have e3:la=some ⟨gq,offq,none⟩:=by
        have:=e1;rw [e2] at this;simp at this;exact this.1
       have hdr:l.drop k=p.2 :: l.drop (k+1):=by
        have hkl2:k < l.length:=by rw [← HLN.out];exact hkl
        rw [List.drop_eq_getElem_cons hkl2]
        congr 1
        have:l[k]?=some p.2:=by rw [← hpl,List.getElem?_map,List.getElem?_eq_getElem hkm,hp];rfl
        rw [List.getElem?_eq_getElem hkl2] at this
        exact Option.some.inj this
       obtain ⟨sa,sn,sc,hu⟩:=isSl_own (hown p (by rw [hp];exact List.getElem_mem hkm))
       have hr:=HQ.out
       rw [hdr,putsM] at hr
       obtain ⟨uu,⟨i1',gl',t1',k1',bo'⟩⟩:=p
       simp only at hu hr
       subst hu
       subst e3
       have x0:=hc 0 (by omega)
       have x1:=hc 1 (by omega)
       have x2:=hc 2 (by omega)
       have x3:=hc 3 (by omega)
       have x4:=hc 4 (by omega)
       simp only [← Nat.add_assoc,Nat.add_zero,msgC,msgCs] at x0 x1 x2 x3 x4
       have hgq:gq < wi.heap.size:=World.block_lt_of_cell? wi _ x0
       obtain ⟨⟨pu,pn,px⟩,hP⟩:∃ P,P=putM m' i1' t1' k1' bo':=⟨_,rfl⟩
       rw [← hP] at hr
       have HQ2:Hid ((if px=0 then putsM pu ([]++[(i1',t1',pn)]) (l.drop (k+1)) else putsM m' [] (l.drop (k+1))).1=M):=LH hr
       have HPM:=LH hP
       obtain ⟨b1,o1,d1,b2,o2,d2,rfl,rfl⟩:=HPi.out.om.shape
       have HMR:=LH HPi.out.om.reads
       have HFC:=LH (okC_few HMAY.out.2.1)
       have KP:Hid (∀ W,MdlR W (.agg #[.slice b1 o1 d1,.slice b2 o2 d2]) m'→Calls Tryz.prog 30 #[.agg #[.slice b1 o1 d1,.slice b2 o2 d2],.agg #[.int .i64 i1',.slice sa sn sc,.int .i64 t1',.string k1',.string bo']] W (PutEndM pu pn px W)):=fun W hW=>mdlPut_any i1' t1' k1' bo' hW HFC.out hP.symm
       have hlnm:(ln:Int)≤9223372036854775807:=by omega
       clear hc hat h5 e1 e2 hp hdr hr hP hkm hpn hpl hrow hown HQ hmx
       obtain ⟨m0,m1,mz⟩:=cells2 HPi.out.m
       have ml2:=HPi.out.m.lt
       go_wp2_with fail
       go_region_law (first
        |(go_simp;go_at_call 30;(first|refine at_box fun HT=>?_|refine at_boxD fun HT=>?_);refine (KP.out _ (HMR.out.below (by repeat (first|with_reducible (first|exact Below.refl _ _|apply Below.drew|apply below_alloc)|((first|with_reducible refine Below.alloc ?_ ?_ _|with_reducible refine Below.setCell ?_ ?_ _);rotate_left;focus (first|(simp <;> omega)|omega)))))).mono ?_;rintro e w6 ⟨tx,ty,rfl,om6,hb'⟩;obtain ⟨a7,n7,c7,a8,n8,c8,rfl,rfl⟩:=om6.shape;have HX6:Hid (Below wi.heap.size wi w6):=below_step (by repeat (first|with_reducible (first|exact Below.refl _ _|apply Below.drew|apply below_alloc)|((first|with_reducible refine Below.alloc ?_ ?_ _|with_reducible refine Below.setCell ?_ ?_ _);rotate_left;focus (first|(simp <;> omega)|omega)))) hb';have OM6:Hid (OwnN w6 0 (.agg #[.slice a7 n7 c7,.slice a8 n8 c8]) pu):=LH (om6.le (Nat.zero_le _));have sl6:=HX6.out.size;have HP6:=LH (HPi.out.keep HX6.out);obtain ⟨u0,u1,uz⟩:=cells2 HP6.out.m;have ul:=HP6.out.m.lt;have HT6:Blk w6 wi.heap.size 46 [.slice none 0 0,.slice none 0 0]:=HT.step hb';obtain ⟨v0,v1,vz⟩:=cells2 HT6;have vl:=HT6.lt;have HTT:=LH HT6;clear hb' om6 HT HT6)
        |(go_simp;go_at_call 30;refine (KP.out _ (HMR.out.below (by repeat (first|with_reducible (first|exact Below.refl _ _|apply Below.drew|apply below_alloc)|((first|with_reducible refine Below.alloc ?_ ?_ _|with_reducible refine Below.setCell ?_ ?_ _);rotate_left;focus (first|(simp <;> omega)|omega)))))).mono ?_;rintro e w6 ⟨tx,ty,rfl,om6,hb'⟩;obtain ⟨a7,n7,c7,a8,n8,c8,rfl,rfl⟩:=om6.shape;have HX6:Hid (Below wi.heap.size wi w6):=below_step (by repeat (first|with_reducible (first|exact Below.refl _ _|apply Below.drew|apply below_alloc)|((first|with_reducible refine Below.alloc ?_ ?_ _|with_reducible refine Below.setCell ?_ ?_ _);rotate_left;focus (first|(simp <;> omega)|omega)))) hb';have OM6:Hid (OwnN w6 0 (.agg #[.slice a7 n7 c7,.slice a8 n8 c8]) pu):=LH (om6.le (Nat.zero_le _));have sl6:=HX6.out.size;have HP6:=LH (HPi.out.keep HX6.out);obtain ⟨u0,u1,uz⟩:=cells2 HP6.out.m;have ul:=HP6.out.m.lt;clear hb' om6))
       all_goals
        first
         |(show Exit.then _ _ _ _ (w6.alloc (.cells #[.slice a7 n7 c7,.slice a8 n8 c8] 46))
           have HX7:Hid (Below wi.heap.size wi (w6.alloc (.cells #[.slice a7 n7 c7,.slice a8 n8 c8] 46))):=LH (HX6.out.alloc HX6.out.size _)
           have HP7:=LH (HPi.out.keep HX7.out)
           have HS7:=LH (HSi.out.keep HX7.out)
           have OM7:Hid (OwnN (w6.alloc (.cells #[.slice a7 n7 c7,.slice a8 n8 c8] 46)) 0 (.agg #[.slice a7 n7 c7,.slice a8 n8 c8]) pu):=LH (OM6.out.keep ((Below.refl _ _).alloc (Nat.le_refl _) _))
           have HT7:Hid (Blk (w6.alloc (.cells #[.slice a7 n7 c7,.slice a8 n8 c8] 46)) w6.heap.size 46 [.slice a7 n7 c7,.slice a8 n8 c8]):=LH (Blk.new rfl)
           have HB7:Hid (Below w.heap.size w (w6.alloc (.cells #[.slice a7 n7 c7,.slice a8 n8 c8] 46))):=below_step HBi.out HX7.out
           have HR7':=LH (HRi.out.step HX7.out)
           clear HX6 OM6 HP6 u0 u1 uz ul
           try clear HTT
           try clear v0 v1 vz vl
           generalize (w6.alloc (.cells #[.slice a7 n7 c7,.slice a8 n8 c8] 46))=w7 at HX7 HP7 HS7 OM7 HT7 HB7 HR7' ⊢       )
         |(show Exit.then _ _ _ _ ((w6.setCell ⟨wi.heap.size,0,none⟩ (.slice a7 n7 c7)).setCell ⟨wi.heap.size,1,none⟩ (.slice a8 n8 c8))
           have HX7:Hid (Below wi.heap.size wi ((w6.setCell ⟨wi.heap.size,0,none⟩ (.slice a7 n7 c7)).setCell ⟨wi.heap.size,1,none⟩ (.slice a8 n8 c8))):=LH ((HX6.out.setCell (Nat.le_refl _) _).setCell (Nat.le_refl _) _)
           have HP7:=LH (HPi.out.keep HX7.out)
           have HS7:=LH (HSi.out.keep HX7.out)
           have OM7:Hid (OwnN ((w6.setCell ⟨wi.heap.size,0,none⟩ (.slice a7 n7 c7)).setCell ⟨wi.heap.size,1,none⟩ (.slice a8 n8 c8)) 0 (.agg #[.slice a7 n7 c7,.slice a8 n8 c8]) pu):=LH ((OM6.out.blk HTT.out (by decide) (by decide) (by decide) (by decide)).blk (HTT.out.set_ 0 _) (by decide) (by decide) (by decide) (by decide))
           have HT7:Hid (Blk ((w6.setCell ⟨wi.heap.size,0,none⟩ (.slice a7 n7 c7)).setCell ⟨wi.heap.size,1,none⟩ (.slice a8 n8 c8)) wi.heap.size 46 [.slice a7 n7 c7,.slice a8 n8 c8]):=LH ((HTT.out.set_ 0 _).set_ 1 _)
           have HB7:Hid (Below w.heap.size w ((w6.setCell ⟨wi.heap.size,0,none⟩ (.slice a7 n7 c7)).setCell ⟨wi.heap.size,1,none⟩ (.slice a8 n8 c8))):=below_step HBi.out HX7.out
           have HR7':=LH (HRi.out.step HX7.out)
           clear HX6 OM6 HP6 u0 u1 uz ul
           try clear HTT
           try clear v0 v1 vz vl
           generalize ((w6.setCell ⟨wi.heap.size,0,none⟩ (.slice a7 n7 c7)).setCell ⟨wi.heap.size,1,none⟩ (.slice a8 n8 c8))=w7 at HX7 HP7 HS7 OM7 HT7 HB7 HR7' ⊢       )
       all_goals
        obtain ⟨m0,m1,mz⟩:=cells2 HP7.out.m
        obtain ⟨v0,v1,vz⟩:=cells2 HT7.out
        have ml2:=HP7.out.m.lt
        have vl:=HT7.out.lt
        by_cases hpx:px=0
        ·have hxb:(px == 0)=true:=by simpa using hpx
         have hRR:=HQ2.out
         rw [if_pos hpx,putsM_fst _ _ _ []] at hRR
         have HRR:=LH hRR
         have hPP:putM m' i1' t1' k1' bo'=(pu,pn,0):=by rw [← hpx];exact HPM.out.symm
         have HMY:=LH (putM_may HMAY.out HLEN.out (by have:=HDD.out;have:=HLN.out;omega) hPP)
         have HLE:=LH (putM_len HMAY.out hPP HLEN.out)
         clear hpx hRR hPP HQ2
         go_wp2_with fail
         have HP8:=LH (HP7.out.setM d76 d86 OM7.out)
         have HB8:Hid (Below w.heap.size w ((w7.setCell ⟨b6,0,none⟩ (.slice a7 n7 c7)).setCell ⟨b6,1,none⟩ (.slice a8 n8 c8))):=LH ((HB7.out.setCell (Nat.le_of_lt dr6) _).setCell (Nat.le_of_lt dr6) _)
         have HR8:Hid (Blk ((w7.setCell ⟨b6,0,none⟩ (.slice a7 n7 c7)).setCell ⟨b6,1,none⟩ (.slice a8 n8 c8)) w.heap.size 46 [.slice none 0 0,.slice none 0 0]):=LH ((HR7'.out.far (Nat.ne_of_lt dr6) _).far (Nat.ne_of_lt dr6) _)
         have HS8:Hid (OwnMs ((w7.setCell ⟨b6,0,none⟩ (.slice a7 n7 c7)).setCell ⟨b6,1,none⟩ (.slice a8 n8 c8)) 0 (.slice (some ⟨gq,offq,none⟩) ln lc) l):=LH ((HS7.out.blk1 HP7.out.m (by decide) (by decide)).blk1 (HP7.out.m.set_ 0 _) (by decide) (by decide))
         go_roundg (ln - (k+1))
         case measure=>omega
         case rel=>exact ⟨k+1,pu,_,_,by omega,rfl,by go_num,HP8,HS8,HB8,HR8,HMY,HLE,HRR⟩
        ·have hxb:(px == 0)=false:=by simpa using hpx
         have hRR:=HQ2.out
         rw [if_neg hpx] at hRR
         have HRR:=LH hRR
         clear hpx hRR HQ2
         go_wp2_with fail
         go_roundg (ln - (k+1))
         case measure=>omega
         case rel=>exact ⟨k+1,m',_,_,by omega,rfl,by go_num,HP7,HS7,HB7,HR7',HMAY,LH (fun q q0 q1=>Nat.le_succ_of_le (HLEN.out q q0 q1)),HRR⟩
      ·obtain rfl:k=ln:=by omega
       have hkl':¬ (k:Int) < (k:Int):=by omega
       have hmm:m'=M:=by
        have:=HQ.out
        rw [List.drop_eq_nil_of_le (by rw [← HLN.out];exact Nat.le_refl _),putsM] at this
        exact this
       subst hmm
       clear HQ
       go_wp2_with fail
       go_roundg (n - (i+1))
       case measure=>omega
       case rel=>exact ⟨i+1,⟨s',m',last⟩,_,_,_,_,by omega,rfl,by go_num,HPi,HKH3,HBi,HRi,HR7⟩
    ·have hxb:(x != 0)=true:=by simpa using hx
     have HE2:=HE.out
     rw [if_pos hx] at HE2
     have HKH3:=LH (HE2 ▸ HKH2.out)
     have HR6:=HR2.out
     rw [HE2] at HR6
     have HR7:=LH HR6
     clear hx HE2 HR6 HR2 HE HKH2 HLEN0
     go_wp2_with fail
     have hA:Below w4.heap.size w4 (w4.alloc (.cells #[.int .i64 s'.clock,.slice a5 n5 c5,.slice a6 n6 c6] 29)):=(Below.refl _ _).alloc (Nat.le_refl _) _
     have HP5:=LH (HP4.out.keep hA)
     have HB5:Hid (Below w.heap.size w (w4.alloc (.cells #[.int .i64 s'.clock,.slice a5 n5 c5,.slice a6 n6 c6] 29))):=below_step HB4.out hA
     have HR6':=LH (HR4'.out.step hA)
     go_roundg (n - (i+1))
     case measure=>omega
     case rel=>exact ⟨i+1,⟨sk,m,last⟩,_,_,_,_,by omega,rfl,by go_num,HP5,HKH3,HB5,HR6',HR7⟩
  ·obtain rfl:i=n:=by omega
   have hlt':¬ (i:Int) < (i:Int):=by omega
   have hre:R=s:=by
    have:=HR.out
    rw [List.drop_eq_nil_of_le (by rw [← HN.out];exact Nat.le_refl _),runQ] at this
    exact this.symm
   subst hre
   obtain ⟨a1,n1,c1,a2,n2,c2,rfl,rfl⟩:=HP.out.om.shape
   obtain ⟨m0,m1,mz⟩:=cells2 HP.out.m
   have ml2:=HP.out.m.lt
   obtain ⟨r0,r1,rz⟩:=cells2 HR4.out
   have rl:=HR4.out.lt
   clear HR
   go_wp2_with fail
   obtain ⟨t0,t1,-⟩:=cells2 ((HR4.out.set_ 0 (.slice a1 n1 c1)).set_ 1 (.slice a2 n2 c2))
   refine bodyPost_ret (v:=.tuple #[.agg #[.slice a1 n1 c1,.slice a2 n2 c2],.bool true]) (by simp [results,Tryz.results8,go_sem,t0,t1]) rfl ⟨_,_,_,_,_,_,rfl,?_,(HB.out.setCell (Nat.le_refl _) _).setCell (Nat.le_refl _) _⟩
   exact ((HP.out.om.blk HR4.out (by decide) (by decide) (by decide) (by decide)).blk (HR4.out.set_ 0 _) (by decide) (by decide) (by decide) (by decide)).reads
end Go.Proofs.YtdfmcgekfogpbabGreatDoor
