/-
  Proved here: Plain: what group.Play answers. No program in sight but its types. towncriertop.great: it comes back, and turns nothing. Condition: the l
-/
import Derived.Test.YtdfmcgekfogpbabGreatDoorY34
import Derived.Test.YtdfmcgekfogpbabGreatDoorY36
set_option maxRecDepth 100000
namespace Go.Proofs.YtdfmcgekfogpbabGreatDoor
open Go.RowKit
theorem cmdsL_ok:∀ (l:List ByteArray) (acc cs:List PC),cmdsL l acc=(cs,0)→(∀ c∈acc,okCom c=true)→(∀ c∈cs,okCom c=true)∧cs.length=acc.length+l.length
 |[],acc,cs,h,ha=>by
  rw [cmdsL] at h
  cases h
  exact ⟨ha,rfl⟩
 |s :: l,acc,cs,h,ha=>by
  rw [cmdsL] at h
  split at h
  ·next h0 =>
   have hc:okCom (readP s).1=true:=readP_ok (c:=(readP s).1) (by rw [← h0])
   have:=cmdsL_ok l (acc++[(readP s).1]) cs h (fun c hm=>by
    rcases List.mem_append.1 hm with hm|hm
    ·exact ha c hm
    ·rw [List.mem_singleton.1 hm]
     exact hc)
   refine ⟨this.1,?_⟩
   rw [this.2]
   simp only [List.length_append,List.length_cons,List.length_nil]
   omega
  ·cases h
theorem cmdsP_ok {l:List ByteArray} {cs:List PC} (h:cmdsP l=(cs,0)):(∀ c∈cs,okCom c=true)∧cs.length≤200:=by
 unfold cmdsP at h
 split at h
 ·cases h
 ·next hn =>
  have:=cmdsL_ok l [] cs h (fun c hm=>by cases hm)
  refine ⟨this.1,?_⟩
  have h2:=this.2
  simp only [List.length_nil] at h2
  omega
def playX (g:Int) (l:List ByteArray):Int:=if g < 0∨4≤g then 2 else (cmdsP l).2
def playR (g:Int) (l:List ByteArray):Gs × List Tk:=runQ g (cmdsP l).1 gs0 []
theorem putsM_len:∀ (l:List PM) (m:Mdl) (tk:List Tk),(putsM m tk l).2.length≤tk.length+l.length
 |[],_,tk=>by rw [putsM];exact Nat.le_refl _
 |x :: l,m,tk=>by
  rw [putsM]
  split
  ·have:=putsM_len l (putM m x.id x.topic x.key x.body).1 (tk++[(x.id,x.topic,(putM m x.id x.topic x.key x.body).2.1)])
   simp only [List.length_append,List.length_cons,List.length_nil] at this ⊢
   omega
  ·have:=putsM_len l m tk
   simp only [List.length_cons]
   omega
theorem stepQ_few {g:Int} {c:PC} {s:Gs}:(stepQ g c s).2.1.length≤200:=by
 unfold stepQ
 split
 ·exact Nat.zero_le _
 ·split
  ·exact Nat.zero_le _
  ·next h4 h0 =>
   obtain ⟨e1,e2⟩:=apS_len (Classical.not_not.1 h0)
   have:=putsM_len (apS g c s.sk).2.2 s.m []
   simp only [List.length_nil] at this
   show (putsM s.m [] (apS g c s.sk).2.2).2.length≤200
   omega
theorem stepQ_bad {g:Int} {c:PC} {s:Gs} (h:(stepQ g c s).2.2≠0):(stepQ g c s).2.1=[]:=by
 unfold stepQ at h ⊢
 split
 ·rfl
 ·next h4 =>
  rw [if_neg h4] at h
  split
  ·rfl
  ·next h0 =>
   rw [if_neg h0] at h
   exact absurd rfl h
theorem skZ_reads (w:World):SkR w (.agg #[.int .i64 skZ.clock,.slice none 0 0,.slice none 0 0]) skZ :=
 OwnSk.reads (B:=0) (show OwnSk w 0 _ skZ from ⟨none,0,none,0,rfl,OwnW.nil _ _,OwnD.nil _ _⟩)
def LogsR (w:World) (v:Value) (m:List (List ByteArray)):Prop :=
 ∃ us:List Value,SliceR w v 1 oneCell us∧us.length=m.length∧∀ i,i < m.length→SliceR w (us.getD i .nilIface) 1 strCell (m.getD i [])
theorem LogsR.shape {w:World} {v:Value} {m:List (List ByteArray)} (h:LogsR w v m):∃ a cap,v=.slice a m.length cap∧m.length≤maxLen:=by
 obtain ⟨us,⟨a,cap,h1,h2,h3,_,_⟩,h5,_⟩:=h
 exact ⟨a,cap,by rw [h1,h5],by omega⟩
theorem LogsR.at_ {w:World} {b off n cap i:Nat} {m:List (List ByteArray)} (h:LogsR w (.slice (some ⟨b,off,none⟩) n cap) m) (hi:i < m.length) :
  ∃ a c,w.cell? ⟨b,off+i,none⟩=some (.slice a (m.getD i []).length c)∧SliceR w (.slice a (m.getD i []).length c) 1 strCell (m.getD i []):=by
 obtain ⟨us,h1,h2,h3⟩:=h
 obtain ⟨a',cap',e,_,_,_,h5⟩:=h1.one (c:=fun u=>u) .nilIface
 obtain ⟨b',off',e2,hat⟩:=h5 (by omega)
 cases e
 cases e2
 have h6:=h3 i hi
 have h7:=hat i (by omega)
 obtain ⟨a,c,e3,_⟩:=id h6
 rw [e3] at h6 h7
 exact ⟨a,c,h7,h6⟩
def TopGreatEnd (w:World) (e:Ending) (w':World):Prop:=(∃ z,e=.returned (.bool z))∧w=w'
set_option maxHeartbeats 4000000 in
set_option maxRecDepth 100000 in
theorem topGreat_any {w:World} {v:Value} {m:List (List ByteArray)} (h:LogsR w v m) :
  Calls Tryz.prog 5 #[v] w (TopGreatEnd w):=by
 obtain ⟨a,cap,rfl,hmx⟩:=h.shape
 obtain ⟨n,hn⟩:∃ n,n=m.length:=⟨_,rfl⟩
 have HS:=LH h
 have HN:=LH hn
 have HA:Hid (0 < n→∃ b off,a=some ⟨b,off,none⟩):=fun hp=>by
  obtain ⟨us,h1,h2,_⟩:=h
  obtain ⟨a',cap',e,_,_,_,h5⟩:=h1
  obtain ⟨b,off,e2,_⟩:=h5 (by omega)
  injection e with e1 _ _
  exact ⟨b,off,e1.trans e2⟩
 rw [← hn] at hmx HS ⊢
 unfold maxLen at hmx
 clear h hn
 go_enter Tryz.func5,Tryz.ntmps5
 go_wp2_with fail
 go_loopg [3,4,5] n (fun gh nv iv _ wr=>∃ (i:Nat) (t:Int),i≤n∧gh=n - i∧iv=.int .i64 (i:Int)∧nv=.int .i64 t∧Hid (w=wr))
 case atStart=>exact ⟨0,0,Nat.zero_le _,rfl,rfl,rfl,rfl⟩
 case round =>
  obtain ⟨i,t,hi,rfl,rfl,rfl,hw⟩:=hrel
  obtain rfl:w=wr:=hw
  by_cases hlt:i < n
  ·have hi0:(0:Int)≤(i:Int):=by omega
   have hi1:(i:Int) < (n:Int):=by omega
   by_cases h10:i < 10
   ·have hi10:(i:Int) < 10:=by omega
    obtain ⟨b,off,rfl⟩:=HA.out (by omega)
    obtain ⟨ua,uc,c0,hr⟩:=LogsR.at_ HS.out (i:=i) (by rw [← HN.out];exact hlt)
    obtain ⟨r,hrr⟩:∃ r,r=m.getD i []:=⟨_,rfl⟩
    rw [← hrr] at c0 hr
    obtain ⟨ua',uc',e,hcap,hmx2,_,hd⟩:=hr.one (c:=fun s=>.string s) ByteArray.empty
    cases e
    obtain ⟨rn,hrn⟩:∃ rn,rn=r.length:=⟨_,rfl⟩
    rw [← hrn] at c0 hd hcap
    have HD:=LH hd
    unfold maxLen at hmx2
    clear hrr hr hrn hd
    go_wp2_with fail
    go_loopg [3,5] rn (fun gh nv kv wi=>∃ (k:Nat) (t':Int),k≤rn∧gh=rn - k∧kv=.int .i64 (k:Int)∧nv=.int .i64 t'∧Hid (w=wi))
    case atStart=>exact ⟨0,t,Nat.zero_le _,rfl,rfl,rfl,rfl⟩
    case round =>
     obtain ⟨k,t',hk,rfl,rfl,rfl,hw⟩:=hrel
     obtain rfl:=hw
     by_cases hkl:k < rn
     ·have hk0:(0:Int)≤(k:Int):=by omega
      have hk1:(k:Int) < (rn:Int):=by omega
      by_cases h1000:k < 1000
      ·have hk10:(k:Int) < 1000:=by omega
       obtain ⟨ub,uo,rfl,hat⟩:=HD.out (by omega)
       have x0:=hat k hkl
       obtain ⟨q,hq⟩:∃ q:Nat,q=(r.getD k ByteArray.empty).size:=⟨_,rfl⟩
       obtain ⟨sx,hsx⟩:∃ sx,sx=r.getD k ByteArray.empty:=⟨_,rfl⟩
       rw [← hsx] at x0 hq
       clear hat hsx hq q
       rcases Int.lt_or_le (sx.size:Int) 10000 with hs|hs
       ·go_wp2_with fail
        go_roundg (rn - (k+1))
        case measure=>omega
        case rel=>exact ⟨k+1,_,by omega,rfl,by go_num,rfl,rfl⟩
       ·have hs':¬ (sx.size:Int) < 10000:=by omega
        go_wp2_with fail
        all_goals
         go_roundg (rn - (k+1))
         case measure=>omega
         case rel=>exact ⟨k+1,_,by omega,rfl,by go_num,rfl,rfl⟩
      ·have hk10:¬ (k:Int) < 1000:=by omega
       go_wp2_with fail
       go_roundg (n - (i+1))
       case measure=>omega
       case rel=>exact ⟨i+1,_,by omega,rfl,by go_num,rfl,rfl⟩
     ·obtain rfl:k=rn:=by omega
      have hkl':¬ (k:Int) < (k:Int):=by omega
      go_wp2_with fail
      go_roundg (n - (i+1))
      case measure=>omega
      case rel=>exact ⟨i+1,_,by omega,rfl,by go_num,rfl,rfl⟩
   ·have hi10:¬ (i:Int) < 10:=by omega
    rcases Int.lt_or_le 6 (n:Int) with h6|h6
    ·go_wp2_with fail
     go_ret
     exact ⟨⟨_,rfl⟩,rfl⟩
    ·have h6':¬ (6:Int) < (n:Int):=by omega
     rcases Int.lt_or_le 30000 t with h3|h3
     ·go_wp2_with fail
      go_ret
      exact ⟨⟨_,rfl⟩,rfl⟩
     ·have h3':¬ (30000:Int) < t:=by omega
      go_wp2_with fail
      go_ret
      exact ⟨⟨_,rfl⟩,rfl⟩
  ·obtain rfl:i=n:=by omega
   have hlt':¬ (i:Int) < (i:Int):=by omega
   rcases Int.lt_or_le 6 (i:Int) with h6|h6
   ·go_wp2_with fail
    go_ret
    exact ⟨⟨_,rfl⟩,rfl⟩
   ·have h6':¬ (6:Int) < (i:Int):=by omega
    rcases Int.lt_or_le 30000 t with h3|h3
    ·go_wp2_with fail
     go_ret
     exact ⟨⟨_,rfl⟩,rfl⟩
    ·have h3':¬ (30000:Int) < t:=by omega
     go_wp2_with fail
     go_ret
     exact ⟨⟨_,rfl⟩,rfl⟩
end Go.Proofs.YtdfmcgekfogpbabGreatDoor
