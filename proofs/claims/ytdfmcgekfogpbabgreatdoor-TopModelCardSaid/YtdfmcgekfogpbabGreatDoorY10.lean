/-
  Proved here: command.in, command.id, command.CheckMessage. No condition. Plain: a command with what its kind has alone. No program in sight. command.plain at one kind of commands. No condition but the kind. command.SameMessage, command.Same: they compare. No condition. keep.Trim where nothing is let go. No condition but that the topic rea
-/
import Derived.Test.YtdfmcgekfogpbabGreatDoorProg
import Derived.Test.YtdfmcgekfogpbabGreatDoorY04
import Derived.Test.YtdfmcgekfogpbabGreatDoorY08
import Derived.Deep.RegionWith
import Derived.Deep.DeepCutAuto
import Derived.Deep.RegionHeld3
set_option maxRecDepth 100000
namespace Go.Proofs.YtdfmcgekfogpbabGreatDoor
open Go.RowKit
theorem cellsM5 {w:World} {g:Nat} {t:TypeId} {a b c d e:Value} (h:Blk w g t [a,b,c,d,e]):w.cell? ⟨g,0,none⟩=some a∧w.cell? ⟨g,1,none⟩=some b∧w.cell? ⟨g,2,none⟩=some c∧w.cell? ⟨g,3,none⟩=some d∧w.cell? ⟨g,4,none⟩=some e∧∀ o,w.frozen? ⟨g,o,none⟩=false:=⟨h.cell 0,h.cell 1,h.cell 2,h.cell 3,h.cell 4,h.free⟩
theorem inB_any (n lo hi:Int) (w:World):Calls Tryz.prog 137 #[.int .i64 n,.int .i64 lo,.int .i64 hi] w fun e w'=>e=.returned (.bool (inB n lo hi))∧w=w':=by
 by_cases h1:lo≤n
 ·by_cases h2:n≤hi
  ·rw [show inB n lo hi=true by simp [inB,h1,h2]]
   go_enter Tryz.func137,Tryz.ntmps137
   go_wp2
   go_ret
   exact ⟨rfl,rfl⟩
  ·rw [show inB n lo hi=false by simp [inB,h2]]
   go_enter Tryz.func137,Tryz.ntmps137
   go_wp2
   go_ret
   exact ⟨rfl,rfl⟩
 ·rw [show inB n lo hi=false by simp [inB,h1]]
  go_enter Tryz.func137,Tryz.ntmps137
  go_wp2
  go_ret
  exact ⟨rfl,rfl⟩
theorem idB_any (n:Int) (w:World):Calls Tryz.prog 136 #[.int .i64 n] w fun e w'=>e=.returned (.bool (idB n))∧w=w':=by
 go_enter Tryz.func136,Tryz.ntmps136
 go_wp2_with fail
 refine Calls.mono (inB_any n 0 6291455 _) ?_
 rintro e w1 ⟨rfl,rfl⟩
 go_wp2_with fail
 go_ret
 exact ⟨rfl,rfl⟩
set_option maxHeartbeats 2000000 in
set_option maxRecDepth 100000 in
theorem chkMsg_few {a:Option Addr} {n cap:Nat} {id topic:Int} {key body:ByteArray} {gs:List Int} {w:World} (h:IntsR w (.slice a n cap) gs) (hn:n=gs.length) (h4:¬ (1≤n∧n≤4)) :
  Calls Tryz.prog 101 #[.agg #[.int .i64 id,.slice a n cap,.int .i64 topic,.string key,.string body]] w fun e w'=>e=.returned (.int .i64 120)∧Below w.heap.size w w':=by
 obtain ⟨a',cap',hv,hcap,hmx,hnn,hd⟩:=h.shape
 injection hv with e1 e2 e3
 subst e1
 subst e3
 clear e2
 rw [← hn] at hcap hd
 have HD:=LH hd
 unfold maxLen at hmx
 have hn63:(n:Int)≤9223372036854775807:=by omega
 clear hd hn hnn h
 by_cases h1:1≤n
 rotate_left
 all_goals
  first
   |(have h2:(1:Int)≤(n:Int):=(by omega);have h3:¬ (n:Int)≤4:=(by omega);clear h1 h4;go_enter Tryz.func101,Tryz.ntmps101;go_wp2_with fail)
   |(have h2:¬ (1:Int)≤(n:Int):=(by omega);clear h1 h4;go_enter Tryz.func101,Tryz.ntmps101;go_wp2_with fail)
  go_loopg [3,4,5,19] n (fun g t3 _ _ i wr=>∃ k:Nat,k≤n∧g=n - k∧i=.int .i64 (k:Int)∧t3=.bool false∧Hid (Below w.heap.size w wr)∧Hid (Blk wr w.heap.size 77 [.int .i64 id,.slice a n cap,.int .i64 topic,.string key,.string body]))
  case atStart=>exact ⟨0,Nat.zero_le _,rfl,rfl,rfl,below_alloc (Below.refl _ _),Blk.new rfl⟩
  case round =>
   obtain ⟨k,hk,rfl,rfl,rfl,HB,HQ⟩:=hrel
   obtain ⟨q0,q1,q2,q3,q4,qz⟩:=cellsM5 HQ.out
   have ql:=HQ.out.lt
   by_cases hlt:k < n
   ·have hk0:(0:Int)≤(k:Int):=by omega
    have hk1:(k:Int) < (n:Int):=by omega
    obtain ⟨bb,off,rfl,hat⟩:=HD.out (by omega)
    have c0:=keep HB.out (hat k hlt)
    clear hat
    go_wp2_with fail
    go_roundg (n - (k+1))
    case measure=>omega
    case rel=>exact ⟨k+1,by omega,rfl,by go_num,rfl,HB,HQ⟩
   ·obtain rfl:k=n:=by omega
    have hlt':¬ (k:Int) < (k:Int):=by omega
    go_wp2_with fail
    go_ret
    exact ⟨rfl,HB.out⟩
set_option maxHeartbeats 4000000 in
set_option maxRecDepth 100000 in
theorem chkMsg_loop {a:Option Addr} {n cap:Nat} {id topic c:Int} {key body:ByteArray} {gs:List Int} {w:World} (h:IntsR w (.slice a n cap) gs) (hn:n=gs.length) (h4:1≤n∧n≤4)
  (hc:c=if (okG gs n && (idB id && (inB topic 0 3 && (decide (key.size≤16) && decide (body.size≤64)))))=true then 0 else 120) :
  Calls Tryz.prog 101 #[.agg #[.int .i64 id,.slice a n cap,.int .i64 topic,.string key,.string body]] w fun e w'=>e=.returned (.int .i64 c)∧Below w.heap.size w w':=by
 obtain ⟨a',cap',hv,hcap,hmx,hnn,hd⟩:=h.shape
 injection hv with e1 e2 e3
 subst e1
 subst e3
 clear e2
 rw [← hn] at hcap hd
 have HD:=LH hd
 have HC:=LH hc
 unfold maxLen at hmx
 have h2:(1:Int)≤(n:Int):=by omega
 have h3:(n:Int)≤4:=by omega
 obtain ⟨bb,off,rfl,-⟩:=hd (by omega)
 clear hd hn hnn h hc h4
 go_enter Tryz.func101,Tryz.ntmps101
 go_wp2_with fail
 go_loopg [3,4,5,19] n (fun g t3 _ _ i wr=>∃ (k:Nat) (t:Bool),k≤n∧g=n - k∧i=.int .i64 (k:Int)∧t3=.bool t∧Hid (t=okG gs k)∧Hid (Below w.heap.size w wr)∧Hid (Blk wr w.heap.size 77 [.int .i64 id,.slice (some ⟨bb,off,none⟩) n cap,.int .i64 topic,.string key,.string body]))
 case atStart=>exact ⟨0,true,Nat.zero_le _,rfl,rfl,rfl,rfl,below_alloc (Below.refl _ _),Blk.new rfl⟩
 case round =>
  obtain ⟨k,t,hk,rfl,rfl,rfl,HT,HB,HQ⟩:=hrel
  obtain ⟨q0,q1,q2,q3,q4,qz⟩:=cellsM5 HQ.out
  have ql:=HQ.out.lt
  by_cases hlt:k < n
  ·have hk0:(0:Int)≤(k:Int):=by omega
   have hk1:(k:Int) < (n:Int):=by omega
   have HAT:Hid (∀ i,i < n→wr.cell? ⟨bb,off+i,none⟩=some (.int .i64 (gs.getD i 0))):=LH (fun i hi=>by
    obtain ⟨_,_,e,hat⟩:=HD.out (by omega)
    cases e
    exact keep HB.out (hat i hi))
   have c0:=HAT.out k hlt
   obtain ⟨y,hy⟩:∃ y,y=gs.getD k 0:=⟨_,rfl⟩
   rw [← hy] at c0
   obtain ⟨z,hz⟩:∃ z:Bool,z=inB y 0 3:=⟨_,rfl⟩
   have HZ:=LH hz
   have HOK:=LH (show okG gs (k+1)=(t && (z && (decide (k=0) || decide (gs.getD (k - 1) 0 < y)))) by rw [okG,HT.out,hz,hy])
   clear hy hz
   cases t
   ·go_wp2_with fail
    go_roundg (n - (k+1))
    case measure=>omega
    case rel=>exact ⟨k+1,false,by omega,rfl,by go_num,rfl,LH (by rw [HOK.out];rfl),HB,HQ⟩
   ·cases z
    ·go_wp2_with fail
     refine Calls.mono (inB_any y 0 3 _) ?_
     rintro e w1 ⟨rfl,rfl⟩
     rw [← HZ.out]
     go_wp2_with fail
     go_roundg (n - (k+1))
     case measure=>omega
     case rel=>exact ⟨k+1,false,by omega,rfl,by go_num,rfl,LH (by rw [HOK.out];rfl),HB,HQ⟩
    ·by_cases hkz:k=0
     ·have hk00:((k:Int) == 0)=true:=by simp [hkz]
      have HO2:=LH (show true=okG gs (k+1) by rw [HOK.out,hkz];rfl)
      clear hkz
      go_wp2_with fail
      refine Calls.mono (inB_any y 0 3 _) ?_
      rintro e w1 ⟨rfl,rfl⟩
      rw [← HZ.out]
      go_wp2_with fail
      go_roundg (n - (k+1))
      case measure=>omega
      case rel=>exact ⟨k+1,true,by omega,rfl,by go_num,rfl,HO2,HB,HQ⟩
     ·obtain ⟨j,hj⟩:∃ j,k=j+1:=⟨k - 1,by omega⟩
      have c1:=HAT.out j (by omega)
      obtain ⟨x,hx⟩:∃ x,x=gs.getD j 0:=⟨_,rfl⟩
      rw [← hx] at c1
      have hk00:((k:Int) == 0)=false:=by simp;omega
      have hsub:(k:Int) - 1=(j:Int):=by omega
      have hj0:(0:Int)≤(j:Int):=by omega
      have hj1:(j:Int) < (n:Int):=by omega
      have HO2:=LH (show decide (x < y)=okG gs (k+1) by rw [HOK.out,hj,Nat.add_sub_cancel,← hx];simp)
      clear hx HOK hkz hj
      go_wp2_with fail
      refine Calls.mono (inB_any y 0 3 _) ?_
      rintro e w1 ⟨rfl,rfl⟩
      rw [← HZ.out]
      by_cases hxy:x < y
      ·have HO3:=LH (show true=okG gs (k+1) by rw [← HO2.out];simp [hxy])
       clear HO2
       go_wp2_with fail
       go_roundg (n - (k+1))
       case measure=>omega
       case rel=>exact ⟨k+1,true,by omega,rfl,by go_num,rfl,HO3,HB,HQ⟩
      ·have HO3:=LH (show false=okG gs (k+1) by rw [← HO2.out];simp [hxy])
       clear HO2
       go_wp2_with fail
       go_roundg (n - (k+1))
       case measure=>omega
       case rel=>exact ⟨k+1,false,by omega,rfl,by go_num,by first|rfl|rw [decide_eq_false (by omega)],HO3,HB,HQ⟩
  ·obtain rfl:k=n:=by omega
   have hlt':¬ (k:Int) < (k:Int):=by omega
   have HC2:=LH (show c=if (t && (idB id && (inB topic 0 3 && (decide (key.size≤16) && decide (body.size≤64)))))=true then 0 else 120 by rw [HC.out,HT.out])
   clear HT
   cases t
   ·obtain rfl:c=120:=by rw [HC2.out];rfl
    clear HC2 HC
    go_wp2_with fail
    go_ret
    exact ⟨rfl,HB.out⟩
   ·obtain ⟨z1,hz1⟩:∃ z:Bool,z=idB id:=⟨_,rfl⟩
    obtain ⟨z2,hz2⟩:∃ z:Bool,z=inB topic 0 3:=⟨_,rfl⟩
    rw [← hz1,← hz2] at HC2
    have HZ1:=LH hz1
    have HZ2:=LH hz2
    clear hz1 hz2
    cases z1
    ·obtain rfl:c=120:=by rw [HC2.out];rfl
     clear HC2 HC
     go_wp2_with fail
     refine Calls.mono (idB_any id _) ?_
     rintro e w1 ⟨rfl,rfl⟩
     rw [← HZ1.out]
     go_wp2_with fail
     go_ret
     exact ⟨rfl,HB.out⟩
    ·cases z2
     ·obtain rfl:c=120:=by rw [HC2.out];rfl
      clear HC2 HC
      go_wp2_with fail
      refine Calls.mono (idB_any id _) ?_
      rintro e w1 ⟨rfl,rfl⟩
      rw [← HZ1.out]
      go_wp2_with fail
      refine Calls.mono (inB_any topic 0 3 _) ?_
      rintro e w1 ⟨rfl,rfl⟩
      rw [← HZ2.out]
      go_wp2_with fail
      go_ret
      exact ⟨rfl,HB.out⟩
     ·by_cases hk16:key.size≤16
      ·by_cases hb64:body.size≤64
       ·have hk17:¬ (16:Int) < (key.size:Int):=by omega
        have hb65:¬ (64:Int) < (body.size:Int):=by omega
        obtain rfl:c=0:=by rw [HC2.out];simp [hk16,hb64]
        clear HC2 HC hk16 hb64
        go_wp2_with fail
        refine Calls.mono (idB_any id _) ?_
        rintro e w1 ⟨rfl,rfl⟩
        rw [← HZ1.out]
        go_wp2_with fail
        refine Calls.mono (inB_any topic 0 3 _) ?_
        rintro e w1 ⟨rfl,rfl⟩
        rw [← HZ2.out]
        go_wp2_with fail
        go_ret
        exact ⟨rfl,HB.out⟩
       ·have hk17:¬ (16:Int) < (key.size:Int):=by omega
        have hb65:(64:Int) < (body.size:Int):=by omega
        obtain rfl:c=120:=by rw [HC2.out];simp [hb64]
        clear HC2 HC hk16 hb64
        go_wp2_with fail
        refine Calls.mono (idB_any id _) ?_
        rintro e w1 ⟨rfl,rfl⟩
        rw [← HZ1.out]
        go_wp2_with fail
        refine Calls.mono (inB_any topic 0 3 _) ?_
        rintro e w1 ⟨rfl,rfl⟩
        rw [← HZ2.out]
        go_wp2_with fail
        go_ret
        exact ⟨rfl,HB.out⟩
      ·have hk17:(16:Int) < (key.size:Int):=by omega
       obtain rfl:c=120:=by rw [HC2.out];simp [hk16]
       clear HC2 HC hk16
       go_wp2_with fail
       refine Calls.mono (idB_any id _) ?_
       rintro e w1 ⟨rfl,rfl⟩
       rw [← HZ1.out]
       go_wp2_with fail
       refine Calls.mono (inB_any topic 0 3 _) ?_
       rintro e w1 ⟨rfl,rfl⟩
       rw [← HZ2.out]
       go_wp2_with fail
       go_ret
       exact ⟨rfl,HB.out⟩
theorem chkMsg_any {v:Value} {m:PM} {w:World} (h:MsgR w v m) {c:Int} (hc:c=if msgB m=true then 0 else 120):Calls Tryz.prog 101 #[v] w fun e w'=>e=.returned (.int .i64 c)∧Below w.heap.size w w':=by
 obtain ⟨a,cap,rfl,hg⟩:=h
 by_cases h4:1≤m.groups.length∧m.groups.length≤4
 ·refine chkMsg_loop hg rfl h4 ?_
  rw [hc,msgB,grpB]
  simp [h4]
 ·have:c=120:=by
   rw [hc,msgB,grpB]
   have:(decide (1≤m.groups.length) && decide (m.groups.length≤4))=false:=by simp;omega
   rw [this]
   rfl
  rw [this]
  exact chkMsg_few hg rfl h4
def pZ (kind:Int):PC:=⟨kind,default,0,0,[],0,0,0⟩
def pC (c:PC):PC :=
 if c.kind=1 then ⟨1,c.msg,0,0,[],0,0,0⟩ else if c.kind=2 then ⟨2,default,c.id,c.time,[],0,0,0⟩ else if c.kind=3 then ⟨3,default,0,0,c.members,0,0,0⟩
 else if c.kind=4 then ⟨4,default,c.id,0,[],c.topic,c.who,c.n⟩ else if c.kind=5∨c.kind=6 then ⟨c.kind,default,c.id,0,[],c.topic,0,c.n⟩ else pZ c.kind
def onT (c:PC):Bool:=idB c.id && (inB c.topic 0 3 && inB c.n 0 1073741824)
def okP (c:PC):Bool :=
 if c.kind=0 then true else if c.kind=1 then msgB c.msg else if c.kind=2 then idB c.id && inB c.time 1 1073741824 else if c.kind=3 then decide (quoC c.members=0)
 else if c.kind=4 then onT c && inB c.who 0 7 else if c.kind=5∨c.kind=6 then onT c else false
def PlainEnd (c:PC) (ok:Bool) (w:World) (e:Ending) (w':World):Prop:=∃ v,e=.returned (.tuple #[v,.bool ok])∧ComR w' v c∧Below w.heap.size w w'
theorem idB_q {n:Int} {z:Bool} (h:z=idB n) (w:World):Calls Tryz.prog 136 #[.int .i64 n] w fun e w'=>e=.returned (.bool z)∧w=w':=by rw [h];exact idB_any n w
theorem inB_q {n lo hi:Int} {z:Bool} (h:z=inB n lo hi) (w:World):Calls Tryz.prog 137 #[.int .i64 n,.int .i64 lo,.int .i64 hi] w fun e w'=>e=.returned (.bool z)∧w=w':=by rw [h];exact inB_any n lo hi w
theorem blk_put12 {w:World} {g:Nat} {t:TypeId} {u0_ u1_ u2_ u3_ u4_ u5_ u6_ u7_ u8_ u9_ u10_ u11_:Value} (h:Blk w g t [u0_,u1_,u2_,u3_,u4_,u5_,u6_,u7_,u8_,u9_,u10_,u11_]) (v0 v1 v2 v3 v4 v5 v6 v7 v8 v9 v10 v11:Value) :
  Blk ((((((((((((w.setCell ⟨g,0,none⟩ v0).setCell ⟨g,1,none⟩ v1).setCell ⟨g,2,none⟩ v2).setCell ⟨g,3,none⟩ v3).setCell ⟨g,4,none⟩ v4).setCell ⟨g,5,none⟩ v5).setCell ⟨g,6,none⟩ v6).setCell ⟨g,7,none⟩ v7).setCell ⟨g,8,none⟩ v8).setCell ⟨g,9,none⟩ v9).setCell ⟨g,10,none⟩ v10).setCell ⟨g,11,none⟩ v11) g t [v0,v1,v2,v3,v4,v5,v6,v7,v8,v9,v10,v11] :=
 (((((((((((h.set_ 0 v0).set_ 1 v1).set_ 2 v2).set_ 3 v3).set_ 4 v4).set_ 5 v5).set_ 6 v6).set_ 7 v7).set_ 8 v8).set_ 9 v9).set_ 10 v10).set_ 11 v11
set_option maxHeartbeats 8000000 in
set_option maxRecDepth 100000 in
theorem plain_k0 {v:Value} {c:PC} {w:World} (h:ComR w v c) (hk:c.kind=0):Calls Tryz.prog 96 #[v] w (PlainEnd (pC c) (okP c) w):=by
 obtain ⟨a,cap,b,bc,rfl,hg,hm⟩:=h
 obtain ⟨q,hq⟩:∃ q,q=onT c:=⟨_,rfl⟩
 have HPC:=LH (show pC c=pC c from rfl)
 have HOK:=LH (show okP c=okP c from rfl)
 obtain ⟨pc,hpc⟩:∃ pc,pc=pC c:=⟨_,rfl⟩
 obtain ⟨ok,hok⟩:∃ ok,ok=okP c:=⟨_,rfl⟩
 rw [← hpc,← hok]
 clear HPC HOK
 obtain ⟨kd,⟨i1,g1,t1,k1,b1⟩,ci,ct,ml,cp,cw,cn⟩:=c
 simp only [onT] at hq hg hm hk ⊢
 have HK:=LH hk
 clear hk
 have HQ:=LH hq
 have HPC:=LH hpc
 have HOK:=LH hok
 have G:=LH hg
 have M:=LH hm
 obtain ⟨gn,hgn⟩:∃ n,n=g1.length:=⟨_,rfl⟩
 obtain ⟨mn,hmn⟩:∃ n,n=ml.length:=⟨_,rfl⟩
 rw [← hgn] at G ⊢
 rw [← hmn] at M ⊢
 have HGN:=LH hgn
 have HMN:=LH hmn
 clear hq hg hm hpc hok hgn hmn
 obtain ⟨z1,hz1⟩:∃ z:Bool,z=idB ci:=⟨_,rfl⟩
 obtain ⟨z2,hz2⟩:∃ z:Bool,z=inB cp 0 3:=⟨_,rfl⟩
 obtain ⟨z3,hz3⟩:∃ z:Bool,z=inB cn 0 1073741824:=⟨_,rfl⟩
 have HZ1:=LH hz1
 have HZ2:=LH hz2
 have HZ3:=LH hz3
 rw [← hz1,← hz2,← hz3] at HQ
 clear hz1 hz2 hz3
 go_enter Tryz.func96,Tryz.ntmps96
 go_upto_region 2 with fail
 go_cut [5] (fun c wx=>c=.bool q∧Hid (Below w.heap.size w wx)∧Hid (Blk wx w.heap.size 79 [.int .u8 kd,.int .i64 i1,.slice a gn cap,.int .i64 t1,.string k1,.string b1,.int .i64 ci,.int .i64 ct,.slice b mn bc,.int .i64 cp,.int .i64 cw,.int .i64 cn])∧Hid (Blk wx (w.heap.size+1) 79 [.int .u8 0,.int .i64 0,.slice none 0 0,.int .i64 0,.string ⟨#[]⟩,.string ⟨#[]⟩,.int .i64 0,.int .i64 0,.slice none 0 0,.int .i64 0,.int .i64 0,.int .i64 0])∧Hid (Blk wx (w.heap.size+1+1) 79 [.int .u8 kd,.int .i64 0,.slice none 0 0,.int .i64 0,.string ⟨#[]⟩,.string ⟨#[]⟩,.int .i64 0,.int .i64 0,.slice none 0 0,.int .i64 0,.int .i64 0,.int .i64 0]))
 case first =>
  have HB0:Hid (Below w.heap.size w (((w.alloc (.cells #[.int .u8 kd,.int .i64 i1,.slice a gn cap,.int .i64 t1,.string k1,.string b1,.int .i64 ci,.int .i64 ct,.slice b mn bc,.int .i64 cp,.int .i64 cw,.int .i64 cn] 79)).alloc (.cells #[.int .u8 0,.int .i64 0,.slice none 0 0,.int .i64 0,.string ⟨#[]⟩,.string ⟨#[]⟩,.int .i64 0,.int .i64 0,.slice none 0 0,.int .i64 0,.int .i64 0,.int .i64 0] 79)).alloc (.cells #[.int .u8 kd,.int .i64 0,.slice none 0 0,.int .i64 0,.string ⟨#[]⟩,.string ⟨#[]⟩,.int .i64 0,.int .i64 0,.slice none 0 0,.int .i64 0,.int .i64 0,.int .i64 0] 79))):=LH (by repeat (first|with_reducible (first|exact Below.refl _ _|apply Below.drew|apply below_alloc)|((first|with_reducible refine Below.alloc ?_ ?_ _|with_reducible refine Below.setCell ?_ ?_ _);rotate_left;focus (first|(simp <;> omega)|omega))))
  have HE:Hid (Blk (((w.alloc (.cells #[.int .u8 kd,.int .i64 i1,.slice a gn cap,.int .i64 t1,.string k1,.string b1,.int .i64 ci,.int .i64 ct,.slice b mn bc,.int .i64 cp,.int .i64 cw,.int .i64 cn] 79)).alloc (.cells #[.int .u8 0,.int .i64 0,.slice none 0 0,.int .i64 0,.string ⟨#[]⟩,.string ⟨#[]⟩,.int .i64 0,.int .i64 0,.slice none 0 0,.int .i64 0,.int .i64 0,.int .i64 0] 79)).alloc (.cells #[.int .u8 kd,.int .i64 0,.slice none 0 0,.int .i64 0,.string ⟨#[]⟩,.string ⟨#[]⟩,.int .i64 0,.int .i64 0,.slice none 0 0,.int .i64 0,.int .i64 0,.int .i64 0] 79)) w.heap.size 79 [.int .u8 kd,.int .i64 i1,.slice a gn cap,.int .i64 t1,.string k1,.string b1,.int .i64 ci,.int .i64 ct,.slice b mn bc,.int .i64 cp,.int .i64 cw,.int .i64 cn]∧Blk (((w.alloc (.cells #[.int .u8 kd,.int .i64 i1,.slice a gn cap,.int .i64 t1,.string k1,.string b1,.int .i64 ci,.int .i64 ct,.slice b mn bc,.int .i64 cp,.int .i64 cw,.int .i64 cn] 79)).alloc (.cells #[.int .u8 0,.int .i64 0,.slice none 0 0,.int .i64 0,.string ⟨#[]⟩,.string ⟨#[]⟩,.int .i64 0,.int .i64 0,.slice none 0 0,.int .i64 0,.int .i64 0,.int .i64 0] 79)).alloc (.cells #[.int .u8 kd,.int .i64 0,.slice none 0 0,.int .i64 0,.string ⟨#[]⟩,.string ⟨#[]⟩,.int .i64 0,.int .i64 0,.slice none 0 0,.int .i64 0,.int .i64 0,.int .i64 0] 79)) (w.heap.size+1) 79 [.int .u8 0,.int .i64 0,.slice none 0 0,.int .i64 0,.string ⟨#[]⟩,.string ⟨#[]⟩,.int .i64 0,.int .i64 0,.slice none 0 0,.int .i64 0,.int .i64 0,.int .i64 0]∧Blk (((w.alloc (.cells #[.int .u8 kd,.int .i64 i1,.slice a gn cap,.int .i64 t1,.string k1,.string b1,.int .i64 ci,.int .i64 ct,.slice b mn bc,.int .i64 cp,.int .i64 cw,.int .i64 cn] 79)).alloc (.cells #[.int .u8 0,.int .i64 0,.slice none 0 0,.int .i64 0,.string ⟨#[]⟩,.string ⟨#[]⟩,.int .i64 0,.int .i64 0,.slice none 0 0,.int .i64 0,.int .i64 0,.int .i64 0] 79)).alloc (.cells #[.int .u8 kd,.int .i64 0,.slice none 0 0,.int .i64 0,.string ⟨#[]⟩,.string ⟨#[]⟩,.int .i64 0,.int .i64 0,.slice none 0 0,.int .i64 0,.int .i64 0,.int .i64 0] 79)) (w.heap.size+1+1) 79 [.int .u8 kd,.int .i64 0,.slice none 0 0,.int .i64 0,.string ⟨#[]⟩,.string ⟨#[]⟩,.int .i64 0,.int .i64 0,.slice none 0 0,.int .i64 0,.int .i64 0,.int .i64 0]) :=
   LH ⟨((Blk.new rfl).alloc _).alloc _,(Blk.new (by simp)).alloc _,Blk.new (by simp)⟩
  cases z1
  ·obtain rfl:q=false:=HQ.out
   go_wp2_with fail
   refine Calls.mono (idB_any ci _) ?_
   rintro e w1 ⟨rfl,rfl⟩
   rw [← HZ1.out]
   go_wp2_with fail
   go_meet
   case rel=>exact ⟨rfl,HB0,HE.out.1,HE.out.2.1,HE.out.2.2⟩
  ·cases z2
   ·obtain rfl:q=false:=HQ.out
    go_wp2_with fail
    refine Calls.mono (idB_any ci _) ?_
    rintro e w1 ⟨rfl,rfl⟩
    rw [← HZ1.out]
    go_wp2_with fail
    refine Calls.mono (inB_any cp 0 3 _) ?_
    rintro e w1 ⟨rfl,rfl⟩
    rw [← HZ2.out]
    go_wp2_with fail
    go_meet
    case rel=>exact ⟨rfl,HB0,HE.out.1,HE.out.2.1,HE.out.2.2⟩
   ·obtain rfl:q=z3:=HQ.out
    go_wp2_with fail
    refine Calls.mono (idB_any ci _) ?_
    rintro e w1 ⟨rfl,rfl⟩
    rw [← HZ1.out]
    go_wp2_with fail
    refine Calls.mono (inB_any cp 0 3 _) ?_
    rintro e w1 ⟨rfl,rfl⟩
    rw [← HZ2.out]
    go_wp2_with fail
    refine Calls.mono (inB_any cn 0 1073741824 _) ?_
    rintro e w1 ⟨rfl,rfl⟩
    rw [← HZ3.out]
    go_wp2_with fail
    go_meet
    case rel=>exact ⟨rfl,HB0,HE.out.1,HE.out.2.1,HE.out.2.2⟩
 case rest =>
  obtain ⟨rfl,HB,HP,HRR,HQQ⟩:=hcut
  have hk:=HK.out
  obtain ⟨⟨⟨q0,q1,q2,q3⟩,⟨q4,q5,q6,q7⟩,q8,q9,q10,q11⟩,qz⟩:=cells12 HQQ.out
  have ql:=HQQ.out.lt
  obtain ⟨⟨⟨p0,p1,p2,p3⟩,⟨p4,p5,p6,p7⟩,p8,p9,p10,p11⟩,pz⟩:=cells12 HP.out
  have pl:=HP.out.lt
  obtain ⟨⟨⟨r0,r1,r2,r3⟩,⟨r4,r5,r6,r7⟩,r8,r9,r10,r11⟩,rz⟩:=cells12 HRR.out
  have rl:=HRR.out.lt
  obtain rfl:pc=pZ 0:=by rw [HPC.out,hk];rfl
  have HOK':=LH (show ok=true by rw [HOK.out,hk];rfl)
  clear HOK HPC
  subst hk
  obtain rfl:ok=true:=HOK'.out
  go_wp2_with fail
  obtain ⟨⟨⟨t0,t1_,t2,t3⟩,⟨t4,t5,t6,t7⟩,t8,t9,t10,t11⟩,-⟩:=cells12 (blk_put12 HRR.out (.int .u8 0) (.int .i64 0) (.slice none 0 0) (.int .i64 0) (.string ⟨#[]⟩) (.string ⟨#[]⟩) (.int .i64 0) (.int .i64 0) (.slice none 0 0) (.int .i64 0) (.int .i64 0) (.int .i64 0))
  have HBF:=((((((((((((HB.out.setCell (p:=⟨w.heap.size+1,0,none⟩) (by simp) (.int .u8 0)).setCell (p:=⟨w.heap.size+1,1,none⟩) (by simp) (.int .i64 0)).setCell (p:=⟨w.heap.size+1,2,none⟩) (by simp) (.slice none 0 0)).setCell (p:=⟨w.heap.size+1,3,none⟩) (by simp) (.int .i64 0)).setCell (p:=⟨w.heap.size+1,4,none⟩) (by simp) (.string ⟨#[]⟩)).setCell (p:=⟨w.heap.size+1,5,none⟩) (by simp) (.string ⟨#[]⟩)).setCell (p:=⟨w.heap.size+1,6,none⟩) (by simp) (.int .i64 0)).setCell (p:=⟨w.heap.size+1,7,none⟩) (by simp) (.int .i64 0)).setCell (p:=⟨w.heap.size+1,8,none⟩) (by simp) (.slice none 0 0)).setCell (p:=⟨w.heap.size+1,9,none⟩) (by simp) (.int .i64 0)).setCell (p:=⟨w.heap.size+1,10,none⟩) (by simp) (.int .i64 0)).setCell (p:=⟨w.heap.size+1,11,none⟩) (by simp) (.int .i64 0))
  obtain rfl:=HGN.out
  obtain rfl:=HMN.out
  exact bodyPost_ret (v:=.tuple #[.agg #[.int .u8 0,.int .i64 0,.slice none 0 0,.int .i64 0,.string ⟨#[]⟩,.string ⟨#[]⟩,.int .i64 0,.int .i64 0,.slice none 0 0,.int .i64 0,.int .i64 0,.int .i64 0],.bool true]) (by simp [results,Tryz.results96,go_sem,t0,t1_,t2,t3,t4,t5,t6,t7,t8,t9,t10,t11]) rfl ⟨_,rfl,⟨none,0,none,0,rfl,ints_nil _,ints_nil _⟩,HBF⟩
theorem eqI_q {v v':Value} {l l':List Int} {w:World} {q:Bool} (h:IntsR w v l) (h':IntsR w v' l') (hq:q=true↔l=l') :
  Calls Tryz.prog 79 #[v,v'] w fun e w'=>e=.returned (.bool q)∧Below w.heap.size w w':=by
 refine (eqInt_any h h').mono fun e w' hh=>?_
 have hd:q=decide (l=l'):=by
  by_cases h:l=l'
  ·rw [hq.2 h];simp [h]
  ·cases q
   ·simp [h]
   ·exact absurd (hq.1 rfl) h
 rw [hd]
 exact hh
theorem strB_eq {x y:ByteArray} (h:x=y):(x.toList == y.toList)=true:=by simp [h]
theorem strB_ne {x y:ByteArray} (h:¬ x=y):(x.toList == y.toList)=false:=by
 rw [← Bool.not_eq_true,beq_iff_eq]
 exact fun e=>h (toList_eq e)
set_option maxHeartbeats 4000000 in
set_option maxRecDepth 100000 in
theorem sameMsg_any {v v':Value} {m m':PM} {w:World} {z:Bool} (h:MsgR w v m) (h':MsgR w v' m') (hz:z=true↔m=m') :
  Calls Tryz.prog 139 #[v,v'] w fun e w'=>e=.returned (.bool z)∧Below w.heap.size w w':=by
 obtain ⟨a,cap,rfl,hg⟩:=h
 obtain ⟨a',cap',rfl,hg'⟩:=h'
 obtain ⟨i1,g1,t1,k1,b1⟩:=m
 obtain ⟨i2,g2,t2,k2,b2⟩:=m'
 simp only [PM.mk.injEq] at hz
 simp only at hg hg' ⊢
 have G:=LH hg
 have G':=LH hg'
 obtain ⟨n,hn⟩:∃ n,n=g1.length:=⟨_,rfl⟩
 obtain ⟨n',hn'⟩:∃ n,n=g2.length:=⟨_,rfl⟩
 rw [← hn] at G ⊢
 rw [← hn'] at G' ⊢
 have HZ:=LH hz
 clear hg hg' hn hn' hz
 by_cases hid:i1=i2
 ·have hid':(i1 == i2)=true:=by simp [hid]
  by_cases hgg:g1=g2
  ·by_cases ht:t1=t2
   ·have ht':(t1 == t2)=true:=by simp [ht]
    by_cases hk:k1=k2
    ·have hk':=strB_eq hk
     by_cases hb:b1=b2
     ·have hb':=strB_eq hb
      obtain rfl:z=true:=HZ.out.2 ⟨by assumption,by assumption,by assumption,by assumption,by assumption⟩
      clear HZ
      go_enter Tryz.func139,Tryz.ntmps139
      go_wp2_with fail
      refine Calls.mono (eqI_q (q:=true) (l:=g1) (l':=g2) ?_ ?_ ?_) ?_
      ·exact G.out.below (by repeat (first|with_reducible (first|exact Below.refl _ _|apply Below.drew|apply below_alloc)|((first|with_reducible refine Below.alloc ?_ ?_ _|with_reducible refine Below.setCell ?_ ?_ _);rotate_left;focus (first|(simp <;> omega)|omega))))
      ·exact G'.out.below (by repeat (first|with_reducible (first|exact Below.refl _ _|apply Below.drew|apply below_alloc)|((first|with_reducible refine Below.alloc ?_ ?_ _|with_reducible refine Below.setCell ?_ ?_ _);rotate_left;focus (first|(simp <;> omega)|omega))))
      ·simp [hgg]
      rintro e w1 ⟨rfl,hb⟩
      have HB:Hid (Below w.heap.size w _):=below_step (by repeat (first|with_reducible (first|exact Below.refl _ _|apply Below.drew|apply below_alloc)|((first|with_reducible refine Below.alloc ?_ ?_ _|with_reducible refine Below.setCell ?_ ?_ _);rotate_left;focus (first|(simp <;> omega)|omega)))) hb
      have P:Blk _ (w.heap.size) _ _:=Blk.step (by repeat (first|((with_reducible apply Blk.new);focus (first|rfl|(simp <;> omega)))|with_reducible (first|apply Blk.drew|apply Blk.alloc|apply Blk.set_)|((with_reducible apply Blk.far);rotate_left;focus (first|(simp <;> omega)|omega)))) hb
      obtain ⟨p0,p1,p2,p3,p4,pz⟩:=cells5 P
      have pl:=Blk.lt P
      have HP:=LH P
      clear P
      have Q:Blk _ (w.heap.size+1) _ _:=Blk.step (by repeat (first|((with_reducible apply Blk.new);focus (first|rfl|(simp <;> omega)))|with_reducible (first|apply Blk.drew|apply Blk.alloc|apply Blk.set_)|((with_reducible apply Blk.far);rotate_left;focus (first|(simp <;> omega)|omega)))) hb
      obtain ⟨q0,q1,q2,q3,q4,qz⟩:=cells5 Q
      have ql:=Blk.lt Q
      have HQ:=LH Q
      clear Q
      clear hb
      go_wp2_with fail
      go_ret
      refine ⟨rfl,?_⟩
      exact HB.out
     ·have hb':=strB_ne hb
      obtain rfl:z=false:=by
       cases z
       ·rfl
       ·have:=HZ.out.1 rfl;simp_all
      clear HZ
      go_enter Tryz.func139,Tryz.ntmps139
      go_wp2_with fail
      refine Calls.mono (eqI_q (q:=true) (l:=g1) (l':=g2) ?_ ?_ ?_) ?_
      ·exact G.out.below (by repeat (first|with_reducible (first|exact Below.refl _ _|apply Below.drew|apply below_alloc)|((first|with_reducible refine Below.alloc ?_ ?_ _|with_reducible refine Below.setCell ?_ ?_ _);rotate_left;focus (first|(simp <;> omega)|omega))))
      ·exact G'.out.below (by repeat (first|with_reducible (first|exact Below.refl _ _|apply Below.drew|apply below_alloc)|((first|with_reducible refine Below.alloc ?_ ?_ _|with_reducible refine Below.setCell ?_ ?_ _);rotate_left;focus (first|(simp <;> omega)|omega))))
      ·simp [hgg]
      rintro e w1 ⟨rfl,hb⟩
      have HB:Hid (Below w.heap.size w _):=below_step (by repeat (first|with_reducible (first|exact Below.refl _ _|apply Below.drew|apply below_alloc)|((first|with_reducible refine Below.alloc ?_ ?_ _|with_reducible refine Below.setCell ?_ ?_ _);rotate_left;focus (first|(simp <;> omega)|omega)))) hb
      have P:Blk _ (w.heap.size) _ _:=Blk.step (by repeat (first|((with_reducible apply Blk.new);focus (first|rfl|(simp <;> omega)))|with_reducible (first|apply Blk.drew|apply Blk.alloc|apply Blk.set_)|((with_reducible apply Blk.far);rotate_left;focus (first|(simp <;> omega)|omega)))) hb
      obtain ⟨p0,p1,p2,p3,p4,pz⟩:=cells5 P
      have pl:=Blk.lt P
      have HP:=LH P
      clear P
      have Q:Blk _ (w.heap.size+1) _ _:=Blk.step (by repeat (first|((with_reducible apply Blk.new);focus (first|rfl|(simp <;> omega)))|with_reducible (first|apply Blk.drew|apply Blk.alloc|apply Blk.set_)|((with_reducible apply Blk.far);rotate_left;focus (first|(simp <;> omega)|omega)))) hb
      obtain ⟨q0,q1,q2,q3,q4,qz⟩:=cells5 Q
      have ql:=Blk.lt Q
      have HQ:=LH Q
      clear Q
      clear hb
      go_wp2_with fail
      go_ret
      refine ⟨rfl,?_⟩
      exact HB.out
    ·have hk':=strB_ne hk
     obtain rfl:z=false:=by
      cases z
      ·rfl
      ·have:=HZ.out.1 rfl;simp_all
     clear HZ
     go_enter Tryz.func139,Tryz.ntmps139
     go_wp2_with fail
     refine Calls.mono (eqI_q (q:=true) (l:=g1) (l':=g2) ?_ ?_ ?_) ?_
     ·exact G.out.below (by repeat (first|with_reducible (first|exact Below.refl _ _|apply Below.drew|apply below_alloc)|((first|with_reducible refine Below.alloc ?_ ?_ _|with_reducible refine Below.setCell ?_ ?_ _);rotate_left;focus (first|(simp <;> omega)|omega))))
     ·exact G'.out.below (by repeat (first|with_reducible (first|exact Below.refl _ _|apply Below.drew|apply below_alloc)|((first|with_reducible refine Below.alloc ?_ ?_ _|with_reducible refine Below.setCell ?_ ?_ _);rotate_left;focus (first|(simp <;> omega)|omega))))
     ·simp [hgg]
     rintro e w1 ⟨rfl,hb⟩
     have HB:Hid (Below w.heap.size w _):=below_step (by repeat (first|with_reducible (first|exact Below.refl _ _|apply Below.drew|apply below_alloc)|((first|with_reducible refine Below.alloc ?_ ?_ _|with_reducible refine Below.setCell ?_ ?_ _);rotate_left;focus (first|(simp <;> omega)|omega)))) hb
     have P:Blk _ (w.heap.size) _ _:=Blk.step (by repeat (first|((with_reducible apply Blk.new);focus (first|rfl|(simp <;> omega)))|with_reducible (first|apply Blk.drew|apply Blk.alloc|apply Blk.set_)|((with_reducible apply Blk.far);rotate_left;focus (first|(simp <;> omega)|omega)))) hb
     obtain ⟨p0,p1,p2,p3,p4,pz⟩:=cells5 P
     have pl:=Blk.lt P
     have HP:=LH P
     clear P
     have Q:Blk _ (w.heap.size+1) _ _:=Blk.step (by repeat (first|((with_reducible apply Blk.new);focus (first|rfl|(simp <;> omega)))|with_reducible (first|apply Blk.drew|apply Blk.alloc|apply Blk.set_)|((with_reducible apply Blk.far);rotate_left;focus (first|(simp <;> omega)|omega)))) hb
     obtain ⟨q0,q1,q2,q3,q4,qz⟩:=cells5 Q
     have ql:=Blk.lt Q
     have HQ:=LH Q
     clear Q
     clear hb
     go_wp2_with fail
     go_ret
     refine ⟨rfl,?_⟩
     exact HB.out
   ·have ht':(t1 == t2)=false:=by simp [ht]
    obtain rfl:z=false:=by
     cases z
     ·rfl
     ·have:=HZ.out.1 rfl;simp_all
    clear HZ
    go_enter Tryz.func139,Tryz.ntmps139
    go_wp2_with fail
    refine Calls.mono (eqI_q (q:=true) (l:=g1) (l':=g2) ?_ ?_ ?_) ?_
    ·exact G.out.below (by repeat (first|with_reducible (first|exact Below.refl _ _|apply Below.drew|apply below_alloc)|((first|with_reducible refine Below.alloc ?_ ?_ _|with_reducible refine Below.setCell ?_ ?_ _);rotate_left;focus (first|(simp <;> omega)|omega))))
    ·exact G'.out.below (by repeat (first|with_reducible (first|exact Below.refl _ _|apply Below.drew|apply below_alloc)|((first|with_reducible refine Below.alloc ?_ ?_ _|with_reducible refine Below.setCell ?_ ?_ _);rotate_left;focus (first|(simp <;> omega)|omega))))
    ·simp [hgg]
    rintro e w1 ⟨rfl,hb⟩
    have HB:Hid (Below w.heap.size w _):=below_step (by repeat (first|with_reducible (first|exact Below.refl _ _|apply Below.drew|apply below_alloc)|((first|with_reducible refine Below.alloc ?_ ?_ _|with_reducible refine Below.setCell ?_ ?_ _);rotate_left;focus (first|(simp <;> omega)|omega)))) hb
    have P:Blk _ (w.heap.size) _ _:=Blk.step (by repeat (first|((with_reducible apply Blk.new);focus (first|rfl|(simp <;> omega)))|with_reducible (first|apply Blk.drew|apply Blk.alloc|apply Blk.set_)|((with_reducible apply Blk.far);rotate_left;focus (first|(simp <;> omega)|omega)))) hb
    obtain ⟨p0,p1,p2,p3,p4,pz⟩:=cells5 P
    have pl:=Blk.lt P
    have HP:=LH P
    clear P
    have Q:Blk _ (w.heap.size+1) _ _:=Blk.step (by repeat (first|((with_reducible apply Blk.new);focus (first|rfl|(simp <;> omega)))|with_reducible (first|apply Blk.drew|apply Blk.alloc|apply Blk.set_)|((with_reducible apply Blk.far);rotate_left;focus (first|(simp <;> omega)|omega)))) hb
    obtain ⟨q0,q1,q2,q3,q4,qz⟩:=cells5 Q
    have ql:=Blk.lt Q
    have HQ:=LH Q
    clear Q
    clear hb
    go_wp2_with fail
    go_ret
    refine ⟨rfl,?_⟩
    exact HB.out
  ·obtain rfl:z=false:=by
    cases z
    ·rfl
    ·have:=HZ.out.1 rfl;simp_all
   clear HZ
   go_enter Tryz.func139,Tryz.ntmps139
   go_wp2_with fail
   refine Calls.mono (eqI_q (q:=false) (l:=g1) (l':=g2) ?_ ?_ ?_) ?_
   ·exact G.out.below (by repeat (first|with_reducible (first|exact Below.refl _ _|apply Below.drew|apply below_alloc)|((first|with_reducible refine Below.alloc ?_ ?_ _|with_reducible refine Below.setCell ?_ ?_ _);rotate_left;focus (first|(simp <;> omega)|omega))))
   ·exact G'.out.below (by repeat (first|with_reducible (first|exact Below.refl _ _|apply Below.drew|apply below_alloc)|((first|with_reducible refine Below.alloc ?_ ?_ _|with_reducible refine Below.setCell ?_ ?_ _);rotate_left;focus (first|(simp <;> omega)|omega))))
   ·simp [hgg]
   rintro e w1 ⟨rfl,hb⟩
   have HB:Hid (Below w.heap.size w _):=below_step (by repeat (first|with_reducible (first|exact Below.refl _ _|apply Below.drew|apply below_alloc)|((first|with_reducible refine Below.alloc ?_ ?_ _|with_reducible refine Below.setCell ?_ ?_ _);rotate_left;focus (first|(simp <;> omega)|omega)))) hb
   have P:Blk _ (w.heap.size) _ _:=Blk.step (by repeat (first|((with_reducible apply Blk.new);focus (first|rfl|(simp <;> omega)))|with_reducible (first|apply Blk.drew|apply Blk.alloc|apply Blk.set_)|((with_reducible apply Blk.far);rotate_left;focus (first|(simp <;> omega)|omega)))) hb
   obtain ⟨p0,p1,p2,p3,p4,pz⟩:=cells5 P
   have pl:=Blk.lt P
   have HP:=LH P
   clear P
   have Q:Blk _ (w.heap.size+1) _ _:=Blk.step (by repeat (first|((with_reducible apply Blk.new);focus (first|rfl|(simp <;> omega)))|with_reducible (first|apply Blk.drew|apply Blk.alloc|apply Blk.set_)|((with_reducible apply Blk.far);rotate_left;focus (first|(simp <;> omega)|omega)))) hb
   obtain ⟨q0,q1,q2,q3,q4,qz⟩:=cells5 Q
   have ql:=Blk.lt Q
   have HQ:=LH Q
   clear Q
   clear hb
   go_wp2_with fail
   go_ret
   refine ⟨rfl,?_⟩
   exact HB.out
 ·have hid':(i1 == i2)=false:=by simp [hid]
  obtain rfl:z=false:=by
   cases z
   ·rfl
   ·have:=HZ.out.1 rfl;simp_all
  clear HZ
  go_enter Tryz.func139,Tryz.ntmps139
  go_wp2_with fail
  go_ret
  refine ⟨rfl,?_⟩
  repeat (first|with_reducible (first|exact Below.refl _ _|apply Below.drew|apply below_alloc)|((first|with_reducible refine Below.alloc ?_ ?_ _|with_reducible refine Below.setCell ?_ ?_ _);rotate_left;focus (first|(simp <;> omega)|omega)))
def noTop:Value:=.agg #[.int .i64 0,.int .i64 0,.int .i64 0,.slice none 0 0]
set_option maxHeartbeats 1000000 in
set_option maxRecDepth 100000 in
theorem trim_bad {v:Value} {t:Top} {w:World} (tq:Int) (h:TopR w v t) (hk:∀ x∈t.ents,x.key.size≤maxLen) (hm:¬ t.may) :
  Calls Tryz.prog 128 #[v,.int .i64 tq] w fun e w'=>e=.returned (.tuple #[noTop,.int .i64 8])∧Below w.heap.size w w':=by
 have hb0:∀ o o':Obj,Below w.heap.size w ((w.alloc o).alloc o'):=fun o o'=>((Below.refl _ _).alloc (Nat.le_refl _) o).alloc (by simp) o'
 have K:=fun (o o':Obj)=>check_no (h.below (hb0 o o')) hk hm
 have HK:=LH K
 have HB:=LH hb0
 obtain ⟨a,cap,rfl,_⟩:=h
 clear K hb0 hk hm
 go_enter Tryz.func128,Tryz.ntmps128
 go_wp2_with fail
 refine (HK.out _ _).mono ?_
 rintro e w2 ⟨rfl,hb⟩
 have HB2:=LH ((HB.out _ _).trans (hb.mono (by simp;omega)))
 have r0:=keep hb (a:=⟨w.heap.size+1,0,none⟩) (v:=.int .i64 0) (by go_simp)
 have r1:=keep hb (a:=⟨w.heap.size+1,1,none⟩) (v:=.int .i64 0) (by go_simp)
 have r2:=keep hb (a:=⟨w.heap.size+1,2,none⟩) (v:=.int .i64 0) (by go_simp)
 have r3:=keep hb (a:=⟨w.heap.size+1,3,none⟩) (v:=.slice none 0 0) (by go_simp)
 have q0:w2.frozen? ⟨w.heap.size+1,0,none⟩=false:=by rw [hb.frozen (p:=⟨w.heap.size+1,0,none⟩) (by simp)];go_simp
 have q1:w2.frozen? ⟨w.heap.size+1,1,none⟩=false:=by rw [hb.frozen (p:=⟨w.heap.size+1,1,none⟩) (by simp)];go_simp
 have q2:w2.frozen? ⟨w.heap.size+1,2,none⟩=false:=by rw [hb.frozen (p:=⟨w.heap.size+1,2,none⟩) (by simp)];go_simp
 have q3:w2.frozen? ⟨w.heap.size+1,3,none⟩=false:=by rw [hb.frozen (p:=⟨w.heap.size+1,3,none⟩) (by simp)];go_simp
 clear hb
 go_wp2_with fail
 refine bodyPost_ret (v:=.tuple #[noTop,.int .i64 8]) (by simp [noTop,results,Tryz.results128,go_sem,r0,r1,r2,r3]) rfl ⟨rfl,?_⟩
 exact (((HB2.out.setCell (p:=⟨w.heap.size+1,0,none⟩) (Nat.le_succ _) _).setCell (p:=⟨w.heap.size+1,1,none⟩) (Nat.le_succ _) _).setCell (p:=⟨w.heap.size+1,2,none⟩) (Nat.le_succ _) _).setCell (p:=⟨w.heap.size+1,3,none⟩) (Nat.le_succ _) _
set_option maxHeartbeats 1000000 in
set_option maxRecDepth 100000 in
theorem trim_arg {v:Value} {t:Top} {w:World} (tq:Int) (h:TopR w v t) (hk:∀ x∈t.ents,x.key.size≤maxLen) (hm:t.may) (hto:tq < 0∨1073741824 < tq) :
  Calls Tryz.prog 128 #[v,.int .i64 tq] w fun e w'=>e=.returned (.tuple #[noTop,.int .i64 2])∧Below w.heap.size w w':=by
 have hb0:∀ o o':Obj,Below w.heap.size w ((w.alloc o).alloc o'):=fun o o'=>((Below.refl _ _).alloc (Nat.le_refl _) o).alloc (by simp) o'
 have K:=fun (o o':Obj)=>check_yes (h.below (hb0 o o')) hk hm
 have HK:=LH K
 have HB:=LH hb0
 obtain ⟨a,cap,rfl,_⟩:=h
 clear K hb0 hk hm
 rcases hto with hto|hto
 all_goals
  go_enter Tryz.func128,Tryz.ntmps128
  go_wp2_with fail
  refine (HK.out _ _).mono ?_
  rintro e w2 ⟨rfl,hb⟩
  have HB2:=LH ((HB.out _ _).trans (hb.mono (by simp;omega)))
  have r0:=keep hb (a:=⟨w.heap.size+1,0,none⟩) (v:=.int .i64 0) (by go_simp)
  have r1:=keep hb (a:=⟨w.heap.size+1,1,none⟩) (v:=.int .i64 0) (by go_simp)
  have r2:=keep hb (a:=⟨w.heap.size+1,2,none⟩) (v:=.int .i64 0) (by go_simp)
  have r3:=keep hb (a:=⟨w.heap.size+1,3,none⟩) (v:=.slice none 0 0) (by go_simp)
  have q0:w2.frozen? ⟨w.heap.size+1,0,none⟩=false:=by rw [hb.frozen (p:=⟨w.heap.size+1,0,none⟩) (by simp)];go_simp
  have q1:w2.frozen? ⟨w.heap.size+1,1,none⟩=false:=by rw [hb.frozen (p:=⟨w.heap.size+1,1,none⟩) (by simp)];go_simp
  have q2:w2.frozen? ⟨w.heap.size+1,2,none⟩=false:=by rw [hb.frozen (p:=⟨w.heap.size+1,2,none⟩) (by simp)];go_simp
  have q3:w2.frozen? ⟨w.heap.size+1,3,none⟩=false:=by rw [hb.frozen (p:=⟨w.heap.size+1,3,none⟩) (by simp)];go_simp
  clear hb
  go_wp2_with fail
  refine bodyPost_ret (v:=.tuple #[noTop,.int .i64 2]) (by simp [noTop,results,Tryz.results128,go_sem,r0,r1,r2,r3]) rfl ⟨rfl,?_⟩
  exact (((HB2.out.setCell (p:=⟨w.heap.size+1,0,none⟩) (Nat.le_succ _) _).setCell (p:=⟨w.heap.size+1,1,none⟩) (Nat.le_succ _) _).setCell (p:=⟨w.heap.size+1,2,none⟩) (Nat.le_succ _) _).setCell (p:=⟨w.heap.size+1,3,none⟩) (Nat.le_succ _) _
end Go.Proofs.YtdfmcgekfogpbabGreatDoor
