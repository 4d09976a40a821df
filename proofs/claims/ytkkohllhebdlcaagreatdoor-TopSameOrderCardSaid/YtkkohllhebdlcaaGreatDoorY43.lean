/-
  Proved here: group.Play. Conditions: the listed variable of package errors holds wh towncriertop.solo, delivered: the statements' own example. Condition:  order.times. Conditions: the group is 0..3; the log's texts are no lon order.of. Conditions: the logs read; their texts are no longer than an
-/
import Derived.Test.YtkkohllhebdlcaaGreatDoorY42
set_option maxRecDepth 100000
namespace Go.Proofs.YtkkohllhebdlcaaGreatDoor
open Go.RowKit
def PlayEnd (x:Int) (r:Gs × List Tk) (w:World) (e:Ending) (w':World):Prop:=∃ ck wa wn wc da dn dc ta tn tc ca cn cc la ln lc a n cap,e=.returned (.tuple #[.agg #[.int .i64 ck,.slice wa wn wc,.slice da dn dc,.slice ta tn tc,.slice ca cn cc,.slice la ln lc],.slice a n cap,.int .i64 x])∧Below w.heap.size w w' ∧
 (x=0→n=r.2.length∧OwnTk w' w.heap.size (.slice a n cap) r.2∧SkR w' (.agg #[.int .i64 ck,.slice wa wn wc,.slice da dn dc]) r.1.sk∧StrR w' (.agg #[.slice ta tn tc,.slice ca cn cc]) (streamM r.1.m))
theorem stab_new {w w3:World} {g lb:Nat} {R:World→Prop} (h:Stab w lb lb R) (hg:g=w.heap.size) (hb:Below w.heap.size w w3):Stab w3 g lb R:=fun W hk =>
 h W ⟨Nat.le_trans hb.size hk.1,fun k h1 h2 _ h4=>(hk.2 k (Nat.lt_of_lt_of_le h1 hb.size) (by omega) h2 (fun c f e=>h4 c f ((hb.block k h1).symm.trans e))).trans (hb.block k h1)⟩
theorem tk_flat {w:World} {B:Nat} {a:Option Addr} {n cap:Nat} {l:List Tk} (h:OwnTk w B (.slice a n cap) l) (ad:Addr) (ha:a=some ad):∀ j u,(l.flatMap tkCs)[j]?=some u→w.cell? (ad.add j)=some u:=by
 have hs:=sliceR_of_owns (cells:=tkCs) tkCs_len h
 have hs2:=hs
 obtain ⟨a',cap',h1,_,_,_,h5⟩:=hs2
 intro j u hu
 have hl:0 < l.length:=by
  have hj:j < (l.flatMap tkCs).length:=(List.getElem?_eq_some_iff.1 hu).1
  rw [flat_length tkCs_len] at hj
  rcases Nat.eq_zero_or_pos l.length with h0|h0
  ·rw [h0] at hj;omega
  ·exact h0
 obtain ⟨b,off,hab,_⟩:=h5 hl
 simp at h1
 rw [ha,hab] at h1
 obtain rfl:ad=⟨b,off,none⟩:=by simpa using h1.1
 rw [ha] at hs
 exact SliceR.flat hs tkCs_len (by decide) j u hu
theorem tk_none {w:World} {B:Nat} {a:Option Addr} {n cap:Nat} {l:List Tk} (h:OwnTk w B (.slice a n cap) l) (ha:a=none):n=0∧cap=0:=by
 obtain ⟨h1,h2⟩:=h
 rcases h2 with ⟨hv,hn⟩|⟨g,cp,cur,hv,_⟩
 ·cases hv;exact ⟨rfl,rfl⟩
 ·cases hv;cases ha
theorem ownsRow_block {w:World} {B s n k:Nat} {e:TypeId} {v:Value} {xs:List Value} (h:w.ownsRow B e s v n xs) (hk:v.ownBlock=some k):∃ cur fr,w.heap[k]?=some (.cells cur e fr):=by
 obtain ⟨_,h2⟩:=h
 rcases h2 with ⟨rfl,_⟩|⟨g,cp,cur,rfl,_,hg,_⟩
 ·cases hk
 ·cases hk;exact ⟨_,_,hg⟩
theorem HomeAt.took {w w':World} {g b B n:Nat} {s:Gs} {v:Value} {xs:List Value} (h:HomeAt w g b s) (hr:w.ownsRow B 48 3 v n xs) (hg:w.grownBy w' v.ownBlock):HomeAt w' g b s:=by
 obtain ⟨wv,dv,ta,tc,h1,h2,h3,h4,h5⟩:=h
 have hk:=Kw.took (g:=g) (b:=b) hg (fun k hk _=>ownsRow_block hr hk)
 exact ⟨wv,dv,ta,tc,h1.grown hg (row_blk hr h1 (by decide)),h2.grown hg (row_blk hr h2 (by decide)),h3,h4.gow hk,h5.gow hk⟩
set_option maxHeartbeats 8000000 in
set_option maxRecDepth 100000 in
theorem play_bad {w:World} {g:Int} {v:Value} (hty:ErrTy w) (hb:g < 0∨4≤g) (r:Gs × List Tk) :
  Calls Tryz.prog 7 #[.int .i64 g,v] w (PlayEnd 2 r w):=by
 have KA:Hid (∀ W,Calls Tryz.prog 18 #[.int .i64 g] W fun ev w'=>ev=.returned (.iface 137 (.agg #[.string groupT,.iface 85 (.agg #[.int .i64 2])]))∧w'=W):=fun W=>by
  have h:=askedG_any g W
  rw [if_pos hb] at h
  exact h
 have KN:Hid (∀ W,Below w.heap.size w W→Calls Tryz.prog 19 #[.iface 137 (.agg #[.string groupT,.iface 85 (.agg #[.int .i64 2])])] W fun ev w'=>ev=.returned (.int .i64 2)∧Below W.heap.size W w'):=fun W hW=>number_any groupT 2 W (hty.below hW)
 clear hty hb
 go_enter Tryz.func7,Tryz.ntmps7
 go_wp2_with fail
 refine (KA.out _).mono ?_
 rintro e w1 ⟨rfl,rfl⟩
 go_wp2_with fail
 refine (KN.out _ (by repeat (first|with_reducible (first|exact Below.refl _ _|apply Below.drew|apply below_alloc)|((first|with_reducible refine Below.alloc ?_ ?_ _|with_reducible refine Below.setCell ?_ ?_ _);rotate_left;focus (first|(simp <;> omega)|omega))))).mono ?_
 rintro e w1 ⟨rfl,hb⟩
 have HB:Hid (Below w.heap.size w w1):=below_step (by repeat (first|with_reducible (first|exact Below.refl _ _|apply Below.drew|apply below_alloc)|((first|with_reducible refine Below.alloc ?_ ?_ _|with_reducible refine Below.setCell ?_ ?_ _);rotate_left;focus (first|(simp <;> omega)|omega)))) hb
 have HR:Hid (Blk w1 w.heap.size 39 [.int .i64 0,.slice none 0 0,.slice none 0 0,.slice none 0 0,.slice none 0 0,.slice none 0 0]):=LH (Blk.step (by repeat (first|with_reducible exact Blk.new rfl|((with_reducible apply Blk.new);focus (first|rfl|(simp <;> omega)))|with_reducible (first|apply Blk.drew|apply Blk.alloc|apply Blk.set_)|((with_reducible apply Blk.far);rotate_left;focus (first|(simp <;> omega)|omega)))) hb)
 obtain ⟨⟨p0,p1,p2⟩,⟨p3,p4,p5⟩,pz⟩:=cells6 HR.out
 clear hb
 go_wp2_with fail
 obtain ⟨⟨t0,t1,t2⟩,⟨t3,t4,t5⟩,-⟩:=cells6 ((((((HR.out.set_ 0 (.int .i64 0)).set_ 1 (.slice none 0 0)).set_ 2 (.slice none 0 0)).set_ 3 (.slice none 0 0)).set_ 4 (.slice none 0 0)).set_ 5 (.slice none 0 0))
 refine bodyPost_ret (v:=.tuple #[.agg #[.int .i64 0,.slice none 0 0,.slice none 0 0,.slice none 0 0,.slice none 0 0,.slice none 0 0],.slice none 0 0,.int .i64 2]) (by simp [results,Tryz.results7,go_sem,t0,t1,t2,t3,t4,t5]) rfl ⟨_,_,_,_,_,_,_,_,_,_,_,_,_,_,_,_,_,_,_,rfl,?_,fun h=>absurd h (by decide)⟩
 exact (((((HB.out.setCell (by simp) _).setCell (by simp) _).setCell (by simp) _).setCell (by simp) _).setCell (by simp) _).setCell (by simp) _
set_option maxHeartbeats 16000000 in
set_option maxRecDepth 100000 in
theorem play_good {w:World} {gr:Int} {v:Value} {l:List ByteArray} (h0:0≤gr) (h4:gr < 4) (h:SliceR w v 1 strCell l) (hs:∀ s∈l,s.size≤maxLen) :
  Calls Tryz.prog 7 #[.int .i64 gr,v] w (PlayEnd (cmdsP l).2 (playR gr l) w):=by
 obtain ⟨i0,hi,hz0,hz1,hz2⟩:=info_parts info_tk
 obtain ⟨⟨cs,x⟩,hcs⟩:∃ R,R=cmdsP l:=⟨_,rfl⟩
 have KA:Hid (∀ W,Calls Tryz.prog 18 #[.int .i64 gr] W fun ev w'=>ev=.returned .nilIface∧w'=W):=fun W=>by
  have h:=askedG_any gr W
  rw [if_neg (by omega)] at h
  exact h
 have KC:Hid (∀ W,Below w.heap.size w W→Calls Tryz.prog 20 #[v] W fun e W'=>∃ a n cap,e=.returned (.tuple #[.slice a n cap,.int .i64 x])∧n=cs.length∧OwnK W' W.heap.size (.slice a n cap) cs∧Below W.heap.size W W'):=fun W hW=>(logCmds_any (h.below (fun _=>rfl) hW) hs hcs.symm).mono fun e W' ⟨a,cap,h1,h2,h3⟩=>⟨a,_,cap,h1,rfl,h2,h3⟩
 obtain ⟨R,hR⟩:∃ R,R=runQ gr cs gs0 []:=⟨_,rfl⟩
 have HRR:=LH hR
 have HCP:=LH (show x=0→(∀ c∈cs,okCom c=true)∧cs.length≤200 from fun h=>cmdsP_ok (h ▸ hcs.symm))
 rw [playR,← hcs,← hR]
 clear h hs hcs hR
 go_enter Tryz.func7,Tryz.ntmps7
 go_wp2_with fail
 refine (KA.out _).mono ?_
 rintro e w1 ⟨rfl,rfl⟩
 go_wp2_with fail
 refine (KC.out _ (by repeat (first|with_reducible (first|exact Below.refl _ _|apply Below.drew|apply below_alloc)|((first|with_reducible refine Below.alloc ?_ ?_ _|with_reducible refine Below.setCell ?_ ?_ _);rotate_left;focus (first|(simp <;> omega)|omega))))).mono ?_
 rintro e w1 ⟨ca,n,ccap,rfl,hn,ok,hb⟩
 have HN:=LH hn
 have HB1:Hid (Below w.heap.size w w1):=below_step (by repeat (first|with_reducible (first|exact Below.refl _ _|apply Below.drew|apply below_alloc)|((first|with_reducible refine Below.alloc ?_ ?_ _|with_reducible refine Below.setCell ?_ ?_ _);rotate_left;focus (first|(simp <;> omega)|omega)))) hb
 have HR1:Hid (Blk w1 w.heap.size 39 [.int .i64 0,.slice none 0 0,.slice none 0 0,.slice none 0 0,.slice none 0 0,.slice none 0 0]):=LH (Blk.step (by repeat (first|with_reducible exact Blk.new rfl|((with_reducible apply Blk.new);focus (first|rfl|(simp <;> omega)))|with_reducible (first|apply Blk.drew|apply Blk.alloc|apply Blk.set_)|((with_reducible apply Blk.far);rotate_left;focus (first|(simp <;> omega)|omega)))) hb)
 have HK:=LH ok.reads
 obtain ⟨⟨p0,p1,p2⟩,⟨p3,p4,p5⟩,pz⟩:=cells6 HR1.out
 have rl:=HR1.out.lt
 clear hb ok hn KC KA
 by_cases hx:x=0
 rotate_left
 ·have hxb:(x != 0)=true:=by simpa using hx
  have HX:=LH hx
  clear hx
  go_wp2_with fail
  obtain ⟨⟨t0,t1,t2⟩,⟨t3,t4,t5⟩,-⟩:=cells6 ((((((HR1.out.set_ 0 (.int .i64 0)).set_ 1 (.slice none 0 0)).set_ 2 (.slice none 0 0)).set_ 3 (.slice none 0 0)).set_ 4 (.slice none 0 0)).set_ 5 (.slice none 0 0))
  refine bodyPost_ret (v:=.tuple #[.agg #[.int .i64 0,.slice none 0 0,.slice none 0 0,.slice none 0 0,.slice none 0 0,.slice none 0 0],.slice none 0 0,.int .i64 x]) (by simp [results,Tryz.results7,go_sem,t0,t1,t2,t3,t4,t5]) rfl ⟨_,_,_,_,_,_,_,_,_,_,_,_,_,_,_,_,_,_,_,rfl,?_,fun h=>absurd h HX.out⟩
  exact (((((HB1.out.setCell (by simp) _).setCell (by simp) _).setCell (by simp) _).setCell (by simp) _).setCell (by simp) _).setCell (by simp) _
 subst hx
 obtain ⟨hok,hfew⟩:=HCP.out rfl
 have HOK:=LH hok
 have HN2:=LH (show n≤200 by rw [HN.out];exact hfew)
 clear hok hfew HCP
 go_wp2_with fail
 refine (newH_any _).mono ?_
 rintro e w2 ⟨ta,tc,lb,rfl,hl,hlb,hst,hb⟩
 have HST:=LH hst
 have HL2:=LH hl
 have HB2:Hid (Below w1.heap.size w1 w2):=LH hb
 have hlb2:=hl.lt
 have s12:=hb.size
 clear hst hl hb
 go_upto_region 11 with fail
 have hA:Below w2.heap.size w2 (w2.alloc (.cells #[.int .i64 0,.slice none 0 0,.slice none 0 0,ta,tc,.slice (some ⟨lb,0,none⟩) 6 6] 80)):=(Below.refl _ _).alloc (Nat.le_refl _) _
 have HH:Hid (HomeAt (w2.alloc (.cells #[.int .i64 0,.slice none 0 0,.slice none 0 0,ta,tc,.slice (some ⟨lb,0,none⟩) 6 6] 80)) w2.heap.size lb gs0):=LH ⟨.slice none 0 0,.slice none 0 0,ta,tc,Blk.new (cs:=[.int .i64 0,.slice none 0 0,.slice none 0 0,ta,tc,.slice (some ⟨lb,0,none⟩) 6 6]) rfl,HL2.out.step hA,by omega,fun W _=>skZ_reads W,stab_new HST.out rfl hA⟩
 have HB3:Hid (Below w1.heap.size w1 (w2.alloc (.cells #[.int .i64 0,.slice none 0 0,.slice none 0 0,ta,tc,.slice (some ⟨lb,0,none⟩) 6 6] 80))):=LH (Below.step HB2.out hA HB2.out.size)
 have s3:w2.heap.size < (w2.alloc (.cells #[.int .i64 0,.slice none 0 0,.slice none 0 0,ta,tc,.slice (some ⟨lb,0,none⟩) 6 6] 80)).heap.size:=by simp
 clear hA HST HL2 HB2
 generalize (w2.alloc (.cells #[.int .i64 0,.slice none 0 0,.slice none 0 0,ta,tc,.slice (some ⟨lb,0,none⟩) 6 6] 80))=w3 at HH HB3 s3 ⊢
 obtain ⟨g,hg⟩:∃ g,g=w2.heap.size:=⟨_,rfl⟩
 rw [← hg] at HH s3 hlb2 s12 ⊢
 have HR0:=LH (show runQ gr (cs.drop 0) gs0 []=R from HRR.out.symm)
 have HRES:=HR1
 clear hg HRR p0 p1 p2 p3 p4 p5 pz HR1
 go_loopg [12,14,15,16,40] n (fun gh ov _ _ _ iv wr=>∃ (k:Nat) (s:Gs) (o:List Tk) (oa:Option Addr) (oc:Nat),k≤n∧gh=n - k∧iv=.int .i64 (k:Int)∧ov=.slice oa o.length oc∧Hid (HomeAt wr g lb s)∧Hid (OkH s)∧Hid (OwnTk wr w3.heap.size (.slice oa o.length oc) o)∧Hid (Below w1.heap.size w1 wr)∧Hid (w3.heap.size≤wr.heap.size)∧Hid (o.length≤200 * k)∧Hid (runQ gr (cs.drop k) s o=R))
 case atStart=>exact ⟨0,gs0,[],none,0,Nat.zero_le _,rfl,rfl,rfl,HH,LH gs0_ok,LH (World.ownsRow_nil _ _ _ _),HB3,LH (Nat.le_refl _),LH (Nat.le_refl _),HR0⟩
 case round =>
  clear HH HB3 HR0
  obtain ⟨k,s,o,oa,oc,hk,rfl,rfl,rfl,HH,HKH,OT,HB,HSZ,HOL,HR⟩:=hrel
  by_cases hlt:k < n
  ·have hk0:(0:Int)≤(k:Int):=by omega
   have hk1:(k:Int) < (n:Int):=by omega
   obtain ⟨pl,hpl,hsl,hin⟩:=HK.out.below HB.out
   obtain ⟨a',cap',e1,_,_,_,h5⟩:=hsl
   have hpn:pl.length=n:=by rw [HN.out,← hpl,List.length_map]
   obtain ⟨gm,off,e2,hat⟩:=h5 (by omega)
   have hkm:k < pl.length:=by omega
   obtain ⟨p,hp⟩:∃ p,p=pl[k]:=⟨_,rfl⟩
   have hc:=fun j (hj:j < 12)=>hat k hkm j hj
   rw [← hp] at hc
   have e3:ca=some ⟨gm,off,none⟩:=by
    have:=e1;rw [e2] at this;simp at this;exact this.1
   subst e3
   obtain ⟨hg1,hg2⟩:=hin p (by rw [hp];exact List.getElem_mem hkm)
   have hdr:cs.drop k=p.2 :: cs.drop (k+1):=by
    have hkl:k < cs.length:=by rw [← HN.out];exact hlt
    rw [List.drop_eq_getElem_cons hkl]
    congr 1
    have:cs[k]?=some p.2:=by rw [← hpl,List.getElem?_map,List.getElem?_eq_getElem hkm,hp];rfl
    rw [List.getElem?_eq_getElem hkl] at this
    exact Option.some.inj this
   have HOC:=LH (show okCom p.2=true from HOK.out p.2 (by rw [← hpl];exact List.mem_map.2 ⟨p,by rw [hp];exact List.getElem_mem hkm,rfl⟩))
   have hr:=HR.out
   rw [hdr,runQ] at hr
   have HR2:=LH hr
   obtain ⟨⟨u1,u2⟩,c⟩:=p
   simp only at hg1 hg2 HOC HR2
   obtain ⟨ma,mc,rfl,-⟩:=hg1.shape
   obtain ⟨mb,bc,rfl,-⟩:=hg2.shape
   have HCR:Hid (ComR wr (.agg #[.int .u8 c.kind,.int .i64 c.msg.id,.slice ma c.msg.groups.length mc,.int .i64 c.msg.topic,.string c.msg.key,.string c.msg.body,.int .i64 c.id,.int .i64 c.time,.slice mb c.members.length bc,.int .i64 c.topic,.int .i64 c.who,.int .i64 c.n]) c):=LH ⟨ma,mc,mb,bc,rfl,hg1,hg2⟩
   have x0:=hc 0 (by omega)
   have x1:=hc 1 (by omega)
   have x2:=hc 2 (by omega)
   have x3:=hc 3 (by omega)
   have x4:=hc 4 (by omega)
   have x5:=hc 5 (by omega)
   have x6:=hc 6 (by omega)
   have x7:=hc 7 (by omega)
   have x8:=hc 8 (by omega)
   have x9:=hc 9 (by omega)
   have x10:=hc 10 (by omega)
   have x11:=hc 11 (by omega)
   simp only [← Nat.add_assoc,Nat.add_zero,comCs] at x0 x1 x2 x3 x4 x5 x6 x7 x8 x9 x10 x11
   have hgm:gm < wr.heap.size:=World.block_lt_of_cell? wr _ x0
   obtain ⟨S,hS⟩:∃ S,S=stepQ gr c s:=⟨_,rfl⟩
   have HKH2:=LH (stepQ_okH (g:=gr) (c:=c) HKH.out)
   have HFEW:=LH (stepQ_few (g:=gr) (c:=c) (s:=s))
   have HBAD:=LH (stepQ_bad (g:=gr) (c:=c) (s:=s))
   rw [← hS] at HR2 HKH2 HFEW HBAD
   have HSS:=LH hS
   clear hc hat h5 e1 e2 hp hdr hr hS hkm hpn hg1 hg2 hin hpl
   go_upto_region 13 with fail
   have hA:Below wr.heap.size wr (wr.alloc (.cells #[.int .u8 c.kind,.int .i64 c.msg.id,.slice ma c.msg.groups.length mc,.int .i64 c.msg.topic,.string c.msg.key,.string c.msg.body,.int .i64 c.id,.int .i64 c.time,.slice mb c.members.length bc,.int .i64 c.topic,.int .i64 c.who,.int .i64 c.n] 58)):=(Below.refl _ _).alloc (Nat.le_refl _) _
   have HC2:Hid (Blk (wr.alloc (.cells #[.int .u8 c.kind,.int .i64 c.msg.id,.slice ma c.msg.groups.length mc,.int .i64 c.msg.topic,.string c.msg.key,.string c.msg.body,.int .i64 c.id,.int .i64 c.time,.slice mb c.members.length bc,.int .i64 c.topic,.int .i64 c.who,.int .i64 c.n] 58)) wr.heap.size 58 [.int .u8 c.kind,.int .i64 c.msg.id,.slice ma c.msg.groups.length mc,.int .i64 c.msg.topic,.string c.msg.key,.string c.msg.body,.int .i64 c.id,.int .i64 c.time,.slice mb c.members.length bc,.int .i64 c.topic,.int .i64 c.who,.int .i64 c.n]):=LH (Blk.new rfl)
   have HH2:Hid (HomeAt (wr.alloc (.cells #[.int .u8 c.kind,.int .i64 c.msg.id,.slice ma c.msg.groups.length mc,.int .i64 c.msg.topic,.string c.msg.key,.string c.msg.body,.int .i64 c.id,.int .i64 c.time,.slice mb c.members.length bc,.int .i64 c.topic,.int .i64 c.who,.int .i64 c.n] 58)) g lb s):=LH (HH.out.keep hA)
   have OT2:Hid (OwnTk (wr.alloc (.cells #[.int .u8 c.kind,.int .i64 c.msg.id,.slice ma c.msg.groups.length mc,.int .i64 c.msg.topic,.string c.msg.key,.string c.msg.body,.int .i64 c.id,.int .i64 c.time,.slice mb c.members.length bc,.int .i64 c.topic,.int .i64 c.who,.int .i64 c.n] 58)) w3.heap.size (.slice oa o.length oc) o):=LH (ownsRow_keep OT.out hA)
   have HB2:Hid (Below w1.heap.size w1 (wr.alloc (.cells #[.int .u8 c.kind,.int .i64 c.msg.id,.slice ma c.msg.groups.length mc,.int .i64 c.msg.topic,.string c.msg.key,.string c.msg.body,.int .i64 c.id,.int .i64 c.time,.slice mb c.members.length bc,.int .i64 c.topic,.int .i64 c.who,.int .i64 c.n] 58))):=LH (Below.step HB.out hA HB.out.size)
   have HCR2:=LH (HCR.out.below hA)
   have hzz2:wr.heap.size < (wr.alloc (.cells #[.int .u8 c.kind,.int .i64 c.msg.id,.slice ma c.msg.groups.length mc,.int .i64 c.msg.topic,.string c.msg.key,.string c.msg.body,.int .i64 c.id,.int .i64 c.time,.slice mb c.members.length bc,.int .i64 c.topic,.int .i64 c.who,.int .i64 c.n] 58)).heap.size:=by simp
   clear hA HH OT HB HCR x0 x1 x2 x3 x4 x5 x6 x7 x8 x9 x10 x11
   generalize (wr.alloc (.cells #[.int .u8 c.kind,.int .i64 c.msg.id,.slice ma c.msg.groups.length mc,.int .i64 c.msg.topic,.string c.msg.key,.string c.msg.body,.int .i64 c.id,.int .i64 c.time,.slice mb c.members.length bc,.int .i64 c.topic,.int .i64 c.who,.int .i64 c.n] 58))=w2' at HC2 HH2 OT2 HB2 HCR2 hzz2 ⊢
   have KD:Hid (Calls Tryz.prog 22 #[.pointer (some ⟨g,0,none⟩),.int .i64 gr,.agg #[.int .u8 c.kind,.int .i64 c.msg.id,.slice ma c.msg.groups.length mc,.int .i64 c.msg.topic,.string c.msg.key,.string c.msg.body,.int .i64 c.id,.int .i64 c.time,.slice mb c.members.length bc,.int .i64 c.topic,.int .i64 c.who,.int .i64 c.n]] w2' (DoHEnd w1 g lb S w2')):=by
    rw [HSS.out]
    exact do_any HH2.out HKH.out.toOkG HB2.out (by omega) hlb HCR2.out HOC.out
   obtain ⟨⟨⟨p0,p1,p2,p3⟩,⟨p4,p5,p6,p7⟩,p8,p9,p10,p11⟩,pz⟩:=cells12 HC2.out
   have cl:=HC2.out.lt
   obtain ⟨s',tk,x⟩:=S
   simp only at HR2 HKH2 HFEW HBAD
   clear HCR2 HSS
   go_wp2_with fail
   refine KD.out.mono ?_
   rintro e w5 ⟨a8,c8,rfl,ot,hh,hkp,hb5⟩
   have OT5:Hid (OwnTk w5 w3.heap.size (.slice oa o.length oc) o):=LH (ownsRow_ks OT2.out hkp s3 (by omega))
   have hsz5:=hkp.1
   have OP5:Hid (OwnTk w5 w2'.heap.size (.slice a8 tk.length c8) tk):=LH ot
   have HH5:Hid (HomeAt w5 g lb s'):=LH hh
   have HB5:=LH hb5
   clear ot hh hkp hb5 KD HH2 OT2 HB2 HC2 p0 p1 p2 p3 p4 p5 p6 p7 p8 p9 p10 p11 pz cl
   go_wp2_with fail
   refine (is_any applyT x 9 _).mono ?_
   rintro e w6 ⟨⟨bq,rfl,hbq⟩,hb6⟩
   have OT6:Hid (w6.ownsRow w3.heap.size 48 3 (.slice oa o.length oc) o.length (o.flatMap tkCs)):=LH (ownsRow_keep OT5.out hb6)
   have OP6:Hid (OwnTk w6 w2'.heap.size (.slice a8 tk.length c8) tk):=LH (ownsRow_keep OP5.out hb6)
   have HH6:Hid (HomeAt w6 g lb s'):=LH (HH5.out.keep hb6)
   have HB6:Hid (Below w1.heap.size w1 w6):=LH (Below.step HB5.out hb6 HB5.out.size)
   have hsz6:=hb6.size
   have HSZ6:Hid (w3.heap.size≤w6.heap.size):=LH (by have:=HSZ.out;omega)
   have HBQ:=LH hbq
   clear hb6 OT5 OP5 HH5 HB5 hbq
   cases bq
   ·have m3:o.length+tk.length≤maxLen:=by have:=HOL.out;have:=HFEW.out;have:=HN2.out;unfold maxLen;omega
    have m4:(o.length+tk.length) * 24≤140737488355328:=by have:=HOL.out;have:=HFEW.out;have:=HN2.out;omega
    have HNW:=LH (fun ad ha=>tk_flat OP6.out ad ha)
    have HNN:=LH (fun ha=>tk_none OP6.out ha)
    go_wp2_with (at_builtin;refine wpList_append_own_any w6 rfl _ _ 40 rfl w3.heap.size 48 i0 _ 3 24 Tryz.underlying40 hi hz0 hz1 hz2 rfl (by decide) _ o.length _ rfl OT6.out a8 tk.length c8 (tk.flatMap tkCs) rfl (flat_length tkCs_len tk) HNN.out HNW.out (tk_one tk) m3 m4 HSZ6.out ?_)
    intro v7 w7 hown hgrow
    obtain ⟨a7,c7,rfl⟩:=row_shape hown
    have OT7:Hid (OwnTk w7 w3.heap.size (.slice a7 (o.length+tk.length) c7) (o++tk)):=LH (by unfold OwnTk;rw [List.length_append];simpa [List.flatMap_append] using hown)
    have HH7:Hid (HomeAt w7 g lb s'):=LH (HH6.out.took OT6.out hgrow)
    have HB7:Hid (Below w1.heap.size w1 w7):=LH (grown_below HB6.out hgrow HB6.out.size (fun j hj=>by have:=(OT6.out.lt j hj).1;omega))
    have HSZ7:Hid (w3.heap.size≤w7.heap.size):=LH (Nat.le_trans HSZ6.out hgrow.size)
    clear hown hgrow OT6 OP6 HH6 HB6
    have hn200:n≤200:=HN2.out
    go_wp2_with fail
    go_roundg (n - (k+1))
    case measure=>omega
    case rel =>
     exact ⟨k+1,s',o++tk,a7,c7,by omega,rfl,by go_num,by rw [List.length_append],HH7,HKH2,by rw [List.length_append];exact OT7,HB7,HSZ7,LH (by rw [List.length_append];have:=HOL.out;have:=HFEW.out;omega),HR2⟩
   ·have hx:x≠0:=fun e=>by have:=HBQ.out e;cases this
    have htk:tk=[]:=HBAD.out hx
    have HR3:Hid (runQ gr (cs.drop (k+1)) s' o=R):=by
     have:=HR2.out
     rw [htk,List.append_nil] at this
     exact LH this
    clear hx htk HR2 HBAD
    have hn200:n≤200:=HN2.out
    go_wp2_with fail
    go_roundg (n - (k+1))
    case measure=>omega
    case rel =>
     exact ⟨k+1,s',o,oa,oc,by omega,rfl,by go_num,rfl,HH6,HKH2,OT6,HB6,HSZ6,LH (by have:=HOL.out;omega),HR3⟩
  ·obtain rfl:k=n:=by omega
   have hlt':¬ (k:Int) < (k:Int):=by omega
   have hre:R=(s,o):=by
    have:=HR.out
    rw [List.drop_eq_nil_of_le (by rw [← HN.out];exact Nat.le_refl _),runQ] at this
    exact this.symm
   subst hre
   obtain ⟨wv,dv,sv,cv,g1,g2,g3,g4,g5⟩:=HH.out
   have KT:Hid (Calls Tryz.prog 24 #[.agg #[.int .i64 s.sk.clock,wv,dv,sv,cv,.slice (some ⟨lb,0,none⟩) 6 6]] wr (TwinHEnd s wr)):=twinH_any g4.now g5.now g2 HKH.out.six HKH.out.fewK (few_str HKH.out.may)
   have HQ:=LH g1
   obtain ⟨⟨u0,u1,u2⟩,⟨u3,u4,u5⟩,uz⟩:=cells6 HQ.out
   have ul:=HQ.out.lt
   have HRR2:=LH (HRES.out.step HB.out)
   have hs1:=HB.out.size
   clear g1 g2 g3 g4 g5 HR
   go_wp2_with fail
   refine KT.out.mono ?_
   rintro e w5 ⟨wv',dv',tv',cv',la,ln,lc,rfl,ok,os,hb⟩
   obtain ⟨wa,wc,da,dc,ev,-,-⟩:=id ok
   simp at ev
   obtain ⟨rfl,rfl⟩:=ev
   obtain ⟨ta',tc',ca',cn',cc',ev,-,-⟩:=os.reads.shape
   simp at ev
   obtain ⟨rfl,rfl⟩:=ev
   have OK5:=LH ok
   have OS5:=LH os
   have HR5:=LH (HRR2.out.step hb)
   have OT5:Hid (OwnTk w5 w3.heap.size (.slice oa o.length oc) o):=LH (ownsRow_keep OT.out hb)
   have HB5:Hid (Below w.heap.size w w5):=LH (below_step HB1.out (below_step HB.out hb))
   have hs5:=hb.size
   have HSZ5:=HSZ
   obtain ⟨⟨t0,t1,t2⟩,⟨t3,t4,t5⟩,tz⟩:=cells6 HR5.out
   have tl:=HR5.out.lt
   clear ok os hb u0 u1 u2 u3 u4 u5 uz ul
   go_wp2_with fail
   clear t0 t1 t2 t3 t4 t5 tz
   obtain ⟨⟨t0,t1,t2⟩,⟨t3,t4,t5⟩,-⟩:=cells6 ((((((HR5.out.set_ 0 (.int .i64 s.sk.clock)).set_ 1 (.slice wa s.sk.waits.length wc)).set_ 2 (.slice da s.sk.done.length dc)).set_ 3 (.slice ta' (streamM s.m).tops.length tc')).set_ 4 (.slice ca' cn' cc')).set_ 5 (.slice la ln lc))
   refine bodyPost_ret (v:=.tuple #[.agg #[.int .i64 s.sk.clock,.slice wa s.sk.waits.length wc,.slice da s.sk.done.length dc,.slice ta' (streamM s.m).tops.length tc',.slice ca' cn' cc',.slice la ln lc],.slice oa o.length oc,.int .i64 0]) (by simp [results,Tryz.results7,go_sem,t0,t1,t2,t3,t4,t5]) rfl ⟨_,_,_,_,_,_,_,_,_,_,_,_,_,_,_,_,_,_,_,rfl,?_,fun _=>⟨rfl,?_,?_,?_⟩⟩
   ·exact (((((HB5.out.setCell (by simp) _).setCell (by simp) _).setCell (by simp) _).setCell (by simp) _).setCell (by simp) _).setCell (by simp) _
   ·exact ownsRow_le (row_far OT5.out set6_far (fun e=>by have:=(OT5.out.lt _ e).1;omega)) (by omega)
   ·exact (OwnSk.agree OK5.out (fun k h _=>set6_far k (by omega))).reads
   ·exact (OwnS.agree OS5.out (fun k h _=>set6_far k (by omega))).reads
def SoloEnd (w:World) (e:Ending) (w':World):Prop:=∃ b,e=.returned (.tuple #[.slice (some ⟨b,0,none⟩) 2 2,.bool true])∧SliceR w' (.slice (some ⟨b,0,none⟩) 2 2) 1 strCell [textA,textB]∧Below w.heap.size w w'
theorem two_cells {w:World} {g:Nat} {t:TypeId} {a b:ByteArray} (h:Blk w g t [.string a,.string b]):SliceR w (.slice (some ⟨g,0,none⟩) 2 2) 1 strCell [a,b] :=
 ⟨_,2,rfl,by simp,by decide,(fun h=>by cases h),fun _=>⟨g,0,rfl,fun i hi j hj=>by
  obtain rfl:j=0:=by omega
  have:=h.cell i
  simp only [List.length_cons,List.length_nil] at hi
  rcases i with _|_|i
  ·simpa [strCell] using this
  ·simpa [strCell] using this
  ·omega⟩⟩
theorem one_int {w:World} {g:Nat} {t:TypeId} {a:Int} (h:Blk w g t [.int .i64 a]):IntsR w (.slice (some ⟨g,0,none⟩) 1 1) [a] :=
 ⟨_,1,rfl,by simp,by decide,(fun h=>by cases h),fun _=>⟨g,0,rfl,fun i hi j hj=>by
  obtain rfl:j=0:=by omega
  have:=h.cell i
  simp only [List.length_cons,List.length_nil] at hi
  obtain rfl:i=0:=by omega
  simpa [intCell] using this⟩⟩
set_option maxHeartbeats 2000000 in
set_option maxRecDepth 100000 in
theorem solo_any (w:World):Calls Tryz.prog 9 #[] w (SoloEnd w):=by
 have KA:Hid (∀ W ga gc,IntsR W (.slice ga 1 gc) [0]→Calls Tryz.prog 25 #[.agg #[.int .u8 1,.int .i64 7,.slice ga 1 gc,.int .i64 1,.string ⟨#[]⟩,.string ⟨#[]⟩,.int .i64 0,.int .i64 0,.slice none 0 0,.int .i64 0,.int .i64 0,.int .i64 0]] W fun e w'=>e=.returned (.tuple #[.string textA,.int .i64 0])∧Below W.heap.size W w'):=fun W ga gc h=>write_a h
 have KB:Hid (∀ W,Calls Tryz.prog 25 #[.agg #[.int .u8 2,.int .i64 0,.slice none 0 0,.int .i64 0,.string ⟨#[]⟩,.string ⟨#[]⟩,.int .i64 7,.int .i64 1,.slice none 0 0,.int .i64 0,.int .i64 0,.int .i64 0]] W fun e w'=>e=.returned (.tuple #[.string textB,.int .i64 0])∧Below W.heap.size W w'):=fun W=>write_b
 go_enter Tryz.func9,Tryz.ntmps9
 go_wp2_with fail
 refine (KA.out _ _ _ (one_int (Blk.new (cs:=[.int .i64 0]) rfl))).mono ?_
 rintro e w1 ⟨rfl,hb⟩
 have HB1:Hid (Below w.heap.size w w1):=below_step (by repeat (first|with_reducible (first|exact Below.refl _ _|apply Below.drew|apply below_alloc)|((first|with_reducible refine Below.alloc ?_ ?_ _|with_reducible refine Below.setCell ?_ ?_ _);rotate_left;focus (first|(simp <;> omega)|omega)))) hb
 clear hb
 go_wp2_with fail
 refine (KB.out _).mono ?_
 rintro e w2 ⟨rfl,hb⟩
 have HB2:Hid (Below w.heap.size w w2):=below_step HB1 hb
 clear hb HB1
 go_wp2_with fail
 refine bodyPost_ret (v:=.tuple #[.slice (some ⟨w2.heap.size,0,none⟩) 2 2,.bool true]) (by simp [results,Tryz.results9,go_sem]) rfl ⟨_,rfl,two_cells (Blk.new (cs:=[.string textA,.string textB]) rfl),HB2.out.alloc HB2.out.size _⟩
theorem run_two:playX 0 [textA,textB]=0∧(playR 0 [textA,textB]).2=[(7,1,0)]∧(playR 0 [textA,textB]).1.sk.done.length=1:=by decide +kernel
theorem play_any {w:World} {g:Int} {v:Value} {l:List ByteArray} (hty:ErrTy w) (h:SliceR w v 1 strCell l) (hs:∀ s∈l,s.size≤maxLen) :
  Calls Tryz.prog 7 #[.int .i64 g,v] w (PlayEnd (playX g l) (playR g l) w):=by
 by_cases hb:g < 0∨4≤g
 ·rw [playX,if_pos hb]
  exact play_bad hty hb _
 ·rw [playX,if_neg hb]
  exact play_good (by omega) (by omega) h hs
set_option maxHeartbeats 2000000 in
set_option maxRecDepth 100000 in
theorem deliv_any {w:World} (hty:ErrTy w):Calls Tryz.prog 4 #[] w fun e w'=>e=.returned (.bool true)∧Below w.heap.size w w':=by
 have KP:Hid (∀ W v,Below w.heap.size w W→SliceR W v 1 strCell [textA,textB]→Calls Tryz.prog 7 #[.int .i64 0,v] W (PlayEnd 0 (playR 0 [textA,textB]) W)):=fun W v hW hv=>by
  have h:=play_any (g:=0) (hty.below hW) hv (fun s hs=>by
   rcases List.mem_cons.1 hs with rfl|hs
   ·decide
   ·rw [List.mem_singleton.1 hs];decide)
  rw [run_two.1] at h
  exact h
 clear hty
 go_enter Tryz.func4,Tryz.ntmps4
 go_wp2_with fail
 refine (solo_any _).mono ?_
 rintro e w1 ⟨b,rfl,hv,hb⟩
 have HB1:Hid (Below w.heap.size w w1):=below_step (by repeat (first|with_reducible (first|exact Below.refl _ _|apply Below.drew|apply below_alloc)|((first|with_reducible refine Below.alloc ?_ ?_ _|with_reducible refine Below.setCell ?_ ?_ _);rotate_left;focus (first|(simp <;> omega)|omega)))) hb
 have HV:=LH hv
 clear hv hb
 go_wp2_with fail
 refine (KP.out _ _ HB1 HV.out).mono ?_
 rintro e w2 ⟨ck,wa,wn,wc,da,dn,dc,ta,tn,tc,ca,cn,cc,la,ln,lc,a,n,cap,rfl,hb,hr⟩
 obtain ⟨hn,ot,sk,-⟩:=hr rfl
 have HB2:Hid (Below w.heap.size w w2):=below_step HB1 hb
 have hn1:n=1:=by rw [hn,run_two.2.1];rfl
 have hd:dn=1:=by
  obtain ⟨_,_,_,_,ev,_,_⟩:=sk
  simp at ev
  rw [ev.2.2.2.1,run_two.2.2]
 rw [run_two.2.1] at ot
 subst hn1 hd
 have hrow:=ot.2
 rcases hrow with ⟨hv,_⟩|⟨g,cp,cur,hv,_⟩
 ·cases hv
 cases hv
 have c0:=World.ownsRow.cells (g:=g) ot rfl 0 (.int .i64 7) rfl
 rw [Addr.add_lit,Nat.add_zero] at c0
 have gl:g < w2.heap.size:=World.block_lt_of_cell? w2 _ c0
 clear ot hb hr hn sk
 go_wp2_with fail
 go_ret
 refine ⟨rfl,?_⟩
 repeat (first|with_reducible (first|exact HB2.out|exact Below.refl _ _|apply Below.drew|apply below_alloc)|((first|with_reducible refine Below.alloc ?_ ?_ _|with_reducible refine Below.setCell ?_ ?_ _);rotate_left;focus (first|(simp <;> omega)|omega)))
theorem BoxG.fr {ts:List TypeId} {w w':World} {B g:Nat} {o:List Gv} (h:BoxG w B g o) (hf:Fr ts w w') (h0:89 ∉ ts) (h1:95 ∉ ts) (h2:3 ∉ ts):BoxG w' B g o:=by
 obtain ⟨a,cap,h3,h4⟩:=h
 exact ⟨a,cap,h3.fr hf h0,h4.fr hf h1 h2⟩
def TimesEnd (x:Int) (T:List Gv) (w:World) (e:Ending) (w':World):Prop:=∃ a n cap,e=.returned (.tuple #[.slice a n cap,.int .i64 x])∧Below w.heap.size w w'∧(x=0→n=T.length∧OwnG w' w.heap.size (.slice a n cap) T)
set_option maxHeartbeats 8000000 in
set_option maxRecDepth 100000 in
theorem times_any {w:World} {gr:Int} {v:Value} {l:List ByteArray} {cs:List PC} {x:Int}
  (h0:0≤gr) (h4:gr < 4) (h:SliceR w v 1 strCell l) (hs:∀ s∈l,s.size≤maxLen) (hcs:cmdsP l=(cs,x)) :
  Calls Tryz.prog 26 #[.int .i64 gr,v] w (TimesEnd x (timesF gr cs skZ) w):=by
 obtain ⟨T,hT⟩:∃ T,T=timesF gr cs skZ:=⟨_,rfl⟩
 rw [← hT]
 have KP:Hid (Calls Tryz.prog 12 #[.int .i64 gr,v,.func (.func 49) #[] #[.pointer (some ⟨w.heap.size,0,none⟩)]] (w.alloc (.cells #[.slice none 0 0] 89)) fun e W'=>∃ ck wa wn wc da dn dc a o cap,e=.returned (.tuple #[.agg #[.int .i64 ck,.slice wa wn wc,.slice da dn dc],.int .i64 x])∧Below w.heap.size w W'∧Blk W' w.heap.size 89 [.slice a o.length cap]∧OwnG W' w.heap.size (.slice a o.length cap) o∧(x=0→o=T)):=by
  have hA:Below w.heap.size w (w.alloc (.cells #[.slice none 0 0] 89)):=(Below.refl _ _).alloc (Nat.le_refl _) _
  have hsz:(w.alloc (.cells #[.slice none 0 0] 89)).heap.size=w.heap.size+1:=by simp
  have hB0:BoxG (w.alloc (.cells #[.slice none 0 0] 89)) (w.heap.size+1) w.heap.size []:=⟨none,0,Blk.new rfl,OwnG.nil _ _⟩
  have hv:=h.below (fun _=>rfl) hA
  generalize w.alloc (.cells #[.slice none 0 0] 89)=W0 at hA hsz hB0 hv ⊢
  have hl:x=0→cs.length≤200:=fun e=>(cmdsP_ok (e ▸ hcs)).2
  refine (ordPlay_any (x:=x) (cs:=cs) (caps:=[.pointer (some ⟨w.heap.size,0,none⟩)]) (ts:=[89,95])
   (Rel:=fun rest s W=>Below w.heap.size w W∧∃ o,BoxG W (w.heap.size+1) w.heap.size o∧o++timesF gr rest s=T∧(x=0→o.length+rest.length≤200))
   (fun args W=>enters_of Tryz.func49 (by kernel_rfl) rfl args W) h0 h4 hv hs hcs (by decide) (by decide) (by decide) (by decide) (by decide) (by decide) ?_ ?_ ?_).mono ?_
  ·exact ⟨hA,[],hB0,by rw [hT,List.nil_append],fun e=>by have:=hl e;simpa using this⟩
  ·rintro rest s W W' ⟨hb,o,hbx,ho,hn⟩ hsw hf hbw
   exact ⟨hb.trans (hbw.mono (by omega)),o,hbx.fr hf (by decide) (by decide) (by decide),ho,hn⟩
  ·rintro c rest s W sv hx hc ⟨hb,o,hbx,ho,hn⟩ hsw hrun hst
   rw [hsz] at hst hsw
   have hn':=hn hx
   rw [List.length_cons] at hn'
   refine (times1_any hbx hst (by omega) hsw (by omega)).mono ?_
   rintro e W' ⟨rfl,hbx',hf,hbw⟩
   refine ⟨rfl,⟨hb.trans hbw,_,hbx',?_,fun _=>?_⟩,hf⟩
   ·rw [List.append_assoc,← ho,timesF]
    rfl
   ·rw [List.length_append]
    have:(addG c s (ordStep gr c s)).length≤1:=by
     unfold addG
     split <;> simp
    omega
  ·rintro e W' ⟨ck,wa,wn,wc,da,dn,dc,rest,s,rfl,-,⟨hb,o,⟨a,cap,hbx,hog⟩,ho,hn⟩,hr⟩
   refine ⟨ck,wa,wn,wc,da,dn,dc,a,o,cap,rfl,hb,hbx,hog.le (by omega),fun e=>?_⟩
   rw [hr e,timesF,List.append_nil] at ho
   exact ho
 clear h hs hcs hT
 go_enter Tryz.func26,Tryz.ntmps26
 go_wp2_with fail
 refine KP.out.mono ?_
 rintro e w1 ⟨ck,wa,wn,wc,da,dn,dc,a,o,cap,rfl,hb,hbx,hog,ho⟩
 have HB:=LH hb
 have HX:=LH hbx
 have HG:=LH hog
 have HO:=LH ho
 obtain ⟨p0,pz⟩:=cells1 hbx
 have pl:=hbx.lt
 obtain ⟨n,hn⟩:∃ n,n=o.length:=⟨_,rfl⟩
 rw [← hn] at p0 HX HG
 have HN:=LH hn
 clear hb hbx hog ho KP hn
 go_wp2_with fail
 have hx2:=HX.out.set_ 0 (.slice a n cap)
 obtain ⟨u0,-⟩:=cells1 hx2
 have hfs:Fr [89] w1 (w1.setCell ⟨w.heap.size,0,none⟩ (.slice a n cap)):=Fr.set HX.out (by decide)
 refine bodyPost_ret (v:=.tuple #[.slice a n cap,.int .i64 x]) (by simp [results,Tryz.results26,go_sem,u0]) rfl ⟨a,n,cap,rfl,HB.out.setCell (Nat.le_refl _) _,fun e=>?_⟩
 have e2:=HO.out e
 subst e2
 exact ⟨HN.out,HG.out.fr hfs (by decide) (by decide)⟩
theorem news_1 (u:Value) {W:World} {g:Nat} {t:TypeId} (hg:g=W.heap.size):∀ j y,([u]:List Value)[j]?=some y→(W.alloc (.cells #[u] t)).cell? ((⟨g,0,none⟩:Addr).add j)=some y:=by
 intro j y hj
 have hB:=Blk.new (w:=W) (t:=t) (cs:=[u]) hg
 have h:=hB.cell j
 rw [show ((⟨g,0,none⟩:Addr).add j)=⟨g,j,none⟩ by unfold Addr.add;split <;> simp_all]
 rw [← hj]
 exact h
set_option maxHeartbeats 8000000 in
set_option maxRecDepth 100000 in
theorem ordOf_any {w:World} {v:Value} {m:List (List ByteArray)} (h:LogsR w v m) (hs:∀ l∈m,∀ s∈l,s.size≤maxLen) :
  Calls Tryz.prog 10 #[v] w (OfEnd m w):=by
 obtain ⟨i0,hi,hz0,hz1,hz2⟩:=info_parts info_gvs
 obtain ⟨a,cap,rfl,hmx⟩:=h.shape
 obtain ⟨n,hn⟩:∃ n,n=m.length:=⟨_,rfl⟩
 have HS:=LH h
 have HN:=LH hn
 have HA:Hid (0 < n→∃ b off,a=some ⟨b,off,none⟩):=fun hp=>by
  obtain ⟨us,h1,h2,_⟩:=h
  obtain ⟨a',cap',e,_,_,_,h5⟩:=h1
  obtain ⟨b,off,e2,_⟩:=h5 (by omega)
  injection e with e1 _ _
  exact ⟨b,off,e1.trans e2⟩
 have HT:Hid (∀ (k:Nat) (u:Value) (W:World),k < n→k < 4→SliceR W u 1 strCell (m.getD k [])→Calls Tryz.prog 26 #[.int .i64 (k:Int),u] W (TimesEnd (cmdsP (m.getD k [])).2 (timesF (k:Int) (cmdsP (m.getD k [])).1 skZ) W)):=fun k u W hk h4 hu=>by
  refine times_any (by omega) (by omega) hu ?_ rfl
  have hkm:k < m.length:=by omega
  refine hs _ ?_
  rw [show m.getD k []=m[k] by simp [List.getD,hkm]]
  exact List.getElem_mem hkm
 rw [← hn] at hmx HS ⊢
 unfold maxLen at hmx
 clear h hn hs
 go_enter Tryz.func10,Tryz.ntmps10
 rcases Int.lt_or_le 4 (n:Int) with h4|h4
 ·go_wp2_with fail
  refine bodyPost_ret (v:=.tuple #[.slice none 0 0,.int .i64 4]) (by simp [results,Tryz.results10,go_sem]) rfl ⟨none,0,0,4,rfl,Below.refl _ _,fun h=>by cases h⟩
 have h4':¬ (4:Int) < (n:Int):=by omega
 go_wp2_with fail
 go_loopg [2,4,5,6,7,13] n (fun gh tv _ _ _ _ iv wr=>∃ (k:Nat) (acc:List (List Gv)) (ta:Option Addr) (tc:Nat),k≤n∧gh=n - k∧iv=.int .i64 (k:Int)∧tv=.slice ta k tc∧Hid (acc.length=k)∧Hid (acc++tabFrom k (m.drop k)=tabF m)∧Hid (∀ i,i < k→(cmdsP (m.getD i [])).2=0)∧Hid (OwnTab wr w.heap.size (.slice ta k tc) acc)∧Hid (Below w.heap.size w wr))
 case atStart=>exact ⟨0,[],none,0,Nat.zero_le _,rfl,rfl,rfl,rfl,rfl,LH (fun i hi=>absurd hi (Nat.not_lt_zero _)),LH (OwnTab.nil _ _),LH (Below.refl _ _)⟩
 case round =>
  obtain ⟨k,acc,ta,tc,hk,rfl,rfl,rfl,HL,HE,HZ,HO,HB⟩:=hrel
  by_cases hlt:k < n
  ·have hk0:(0:Int)≤(k:Int):=by omega
   have hk1:(k:Int) < (n:Int):=by omega
   obtain ⟨b,off,rfl⟩:=HA.out (by omega)
   obtain ⟨ua,uc,c0,hr⟩:=LogsR.at_ (HS.out.below HB.out) (i:=k) (by rw [← HN.out];exact hlt)
   have KT:=LH (HT.out k _ wr hlt (by omega) hr)
   obtain ⟨un,hun⟩:∃ un,un=(m.getD k []).length:=⟨_,rfl⟩
   rw [← hun] at c0 KT
   obtain ⟨x,hx⟩:∃ x,x=(cmdsP (m.getD k [])).2:=⟨_,rfl⟩
   rw [← hx] at KT
   have HX:=LH hx
   have hdr:m.drop k=m.getD k [] :: m.drop (k+1):=by
    have hkl:k < m.length:=by rw [← HN.out];exact hlt
    rw [List.drop_eq_getElem_cons hkl]
    simp [List.getD,hkl]
   have he:=HE.out
   rw [hdr,tabFrom] at he
   have HE2:=LH he
   clear hr hun hx hdr he HE
   go_wp2_with fail
   refine KT.out.mono ?_
   rintro e w2 ⟨xa,xn,xc,rfl,hb,hok⟩
   have HB2:Hid (Below w.heap.size w w2):=below_step HB.out hb
   have HO2:=LH (HO.out.keep hb)
   have HOK:=LH hok
   have HSZ:Hid (w.heap.size≤wr.heap.size):=LH HB.out.size
   clear hb hok KT c0 HO
   by_cases hx0:x=0
   rotate_left
   ·have hxb:(x != 0)=true:=by simpa using hx0
    have HX0:=LH hx0
    clear hx0
    go_wp2_with fail
    refine bodyPost_ret (v:=.tuple #[.slice none 0 0,.int .i64 x]) (by simp [results,Tryz.results10,go_sem]) rfl ⟨none,0,0,x,rfl,HB2.out,fun h=>absurd h HX0.out⟩
   subst hx0
   obtain ⟨hxn,hog⟩:=HOK.out rfl
   have HOG:=LH (hog.le (B':=w.heap.size) HSZ.out)
   obtain ⟨vs,hvs,hrow,hall⟩:=HO2.out
   rw [HL.out] at hrow
   have HVS:=LH hvs
   have HROW:=LH hrow
   have HALL:=LH hall
   clear hxn hog HOK hvs hrow hall
   go_wp2_with (at_builtin;go_must (refine wpList_append_own _ rfl _ _ 50 rfl w.heap.size 89 i0 _ 1 24 Tryz.underlying50 hi hz0 hz1 hz2 rfl (by decide) _ _ _ rfl (ownsRow_keep HROW.out ((Below.refl _ _).alloc (Nat.le_refl _) _)) ⟨w2.heap.size,0,none⟩ 1 1 [.slice xa xn xc] rfl rfl ?_ (by intro v hv;simp at hv;subst hv;rfl) (by unfold maxLen;omega) (by omega) (by have:=HB2.out.size;simp;omega) ?_))
   ·exact news_1 _ rfl
   ·intro v' w3 hown2 hgrow _
    have hbw:Below w2.heap.size w2 (w2.alloc (.cells #[.slice xa xn xc] 89)):=(Below.refl _ _).alloc (Nat.le_refl _) _
    have HO3:=LH (OwnTab.snoc (u:=.slice xa xn xc) HVS.out (ownsRow_keep HROW.out hbw) (fun p hp=>(HALL.out p hp).keep hbw) (HOG.out.keep hbw) hgrow hown2 HL.out.symm)
    have HB3:Hid (Below w.heap.size w w3):=LH (grown_below (below_step HB2.out hbw) hgrow (by have:=HB2.out.size;have:=hbw.size;omega) (fun j hj=>(HROW.out.lt j hj).1))
    obtain ⟨a',c',hv'⟩:=row_shape hown2
    subst hv'
    clear hown2 hgrow hbw HROW HALL HO2
    go_wp2_with fail
    go_roundg (n - (k+1))
    case measure=>omega
    case rel =>
     refine ⟨k+1,_,a',c',by omega,rfl,by go_num,rfl,?_,?_,?_,HO3,HB3⟩
     ·refine LH ?_
      rw [List.length_append,HL.out]
      rfl
     ·refine LH ?_
      rw [List.append_assoc]
      exact HE2.out
     ·refine LH fun i hi=>?_
      by_cases hik:i < k
      ·exact HZ.out i hik
      ·obtain rfl:i=k:=by omega
       exact HX.out.symm
  ·obtain rfl:k=n:=by omega
   have hlt':¬ (k:Int) < (k:Int):=by omega
   have he:=HE.out
   rw [List.drop_eq_nil_of_le (by rw [← HN.out];exact Nat.le_refl _),tabFrom,List.append_nil] at he
   subst he
   clear HE
   go_wp2_with fail
   refine bodyPost_ret (v:=.tuple #[.slice ta k tc,.int .i64 0]) (by simp [results,Tryz.results10,go_sem]) rfl ⟨ta,k,tc,0,rfl,HB.out,fun _=>⟨by rw [← HN.out];omega,fun i hi=>HZ.out i (by rw [HN.out];exact hi),HL.out.symm,HO.out⟩⟩
end Go.Proofs.YtkkohllhebdlcaaGreatDoor
