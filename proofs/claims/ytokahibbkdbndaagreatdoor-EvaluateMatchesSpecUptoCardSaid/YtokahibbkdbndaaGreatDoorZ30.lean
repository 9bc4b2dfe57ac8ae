/- Fields folded into lines, headers: what the checks answer. -/
import Derived.Test.YtokahibbkdbndaaGreatDoorZ29
namespace Go.Proofs.YtokahibbkdbndaaGreatDoor
open Go.RowKit
theorem maxI:IntKind.max IntKind.i64=9223372036854775807:=rfl
def ptP (s:ByteArray) (v:Int):Prop:=0≤v∧v≤s.size
theorem qxo (s:ByteArray) (hs:s.size≤100000):∀ (m:Nat) (k:Nat) (b:Int),1≤k→s.size - k≤m→k≤9223372036854775806→ptP s b→Ok (qlw s b k) fun x=>Sum.elim (fun r=>ptP s r.1.2.1) (fun r=>ptP s r.1.2.1) x:=by
 intro m
 induction m with
 |zero =>
  intro k b h1 hk hk2 hb
  refine .via qly ?_
  unfold qm3
  try simp only [wI,p0]
  refine qv9 (fun h=>?_) (fun _=>qvc hb)
  have:=of_decide_eq_true h
  omega
 |succ m ih =>
  intro k b h1 hk hk2 hb
  refine .via qly ?_
  unfold qm3
  try simp only [wI,p0]
  refine qv9 (fun h=>?_) (fun _=>qvc hb)
  have hlt:k<s.size:=by have:=of_decide_eq_true h;omega
  have e2:IntKind.i64.wrap ((k:Int)+1)=((k+1:Nat):Int):=by rw [q1m1 (by omega)];rfl
  have e3:IntKind.i64.wrap ((k:Int) - 1)=((k - 1:Nat):Int):=by rw [q1m1 (by omega)];omega
  have hi:=fun b' hb'=>ih (k+1) b' (by omega) (by omega) (by omega) hb'
  have hk':ptP s k:=⟨by omega,by omega⟩
  rw [e2,e3]
  refine qvb (by simp;omega) (qv8 (q7k _) fun r0 _=>qv9 (fun _=>qvb (by simp;omega) (qv8 (q7k _) fun r1 _=>qv9 (fun _=>hi b hb) (fun _=>qv9 (fun _=>qv9 (fun _=>qvc hb) (fun _=>hi k hk')) (fun _=>hi k hk')))) (fun _=>hi b hb))
theorem qxp (s:ByteArray) (hs:s.size≤100000) (f:Int) (hf:f≤9223372036854775806):Ok (qm4 s f) (ptP s):=.via qlv (by
 unfold qm5
 have hx:∃ k:Nat,1≤k∧k≤9223372036854775806∧(ite (true=true) (ite (f<(1:Int)) (1:Int) f) (ite ((1:Int)<f) (1:Int) f))=(k:Int):=by
  rw [if_pos rfl]
  split
  ·exact ⟨1,by omega,by omega,rfl⟩
  ·exact ⟨f.toNat,by omega,by omega,by omega⟩
 obtain ⟨k,h1,h2,h3⟩:=hx
 rw [h3]
 refine qv8 (qxo s hs _ k 0 h1 (Nat.le_refl _) h2 ⟨by omega,by omega⟩) ?_
 rintro (r|r) hr
 ·exact qvc hr
 ·exact qvc hr)
def flQ (x:((Unit×ByteArray×Int×Nat×Bool)×((Int×Int)×(List ByteArray)))⊕((Unit×ByteArray×Nat×Int×Bool)×((Int×Int)×(List ByteArray)))):ByteArray×Nat×List ByteArray:=Sum.elim (fun r=>(r.1.2.1,r.1.2.2.2.1,r.2.2)) (fun r=>(r.1.2.1,r.1.2.2.1,r.2.2)) x
def szB (l:List ByteArray):Prop:=∀ e∈l,e.size≤100000
theorem q1hn {l:List ByteArray} {s:ByteArray} (h:szB l) (hs:s.size≤100000):szB (l++[s]):=by
 intro e he
 rcases List.mem_append.1 he with he|he
 ·exact h e he
 ·have:e=s:=by simpa using he
  rw [this];exact hs
theorem qle:∀ (m:Nat) (s:ByteArray) (f:Int) (out:Nat) (l:List ByteArray),s.size≤m→out=l.length→out+s.size≤100000→f≤100000→szB l→Ok (qkx s f out 0 0 l) fun x=>(flQ x).2.1=(flQ x).2.2.length∧(flQ x).2.1≤100000∧(flQ x).1.size≤100000∧szB (flQ x).2.2∧(s.size≤78→flQ x=(s,out,l)):=by
 intro m
 induction m with
 |zero =>
  intro s f out l hm ho hb hf hz
  refine .via qkz ?_
  unfold ql4
  try simp only [gL,dL,p0,aL,dQ]
  refine qv9 (fun h=>?_) (fun _=>qvb (by simp [EC.isL_encL]) (qvc ?_))
  ·have:=of_decide_eq_true h
   omega
  ·simp only [EC.decL_encL,flQ,Sum.elim_inl]
   exact ⟨ho,by omega,by omega,hz,fun _=>trivial⟩
 |succ m ih =>
  intro s f out l hm ho hb hf hz
  refine .via qkz ?_
  unfold ql4
  try simp only [gL,dL,p0,aL,dQ]
  refine qv9 (fun h=>?_) (fun _=>qvb (by simp [EC.isL_encL]) (qvc ?_))
  ·have h78:=of_decide_eq_true h
   refine qv8 (qxp s (by omega) f (by omega)) fun r hr=>?_
   obtain ⟨p0,p1⟩:=hr
   refine qv9 (fun _=>qvb (by simp [EC.isL_encL]) (qvc ?_)) (fun hne=>?_)
   ·simp only [EC.decL_encL,flQ,Sum.elim_inr]
    exact ⟨ho,by omega,by omega,hz,fun h=>by omega⟩
   ·have hne:r≠0:=by simpa using hne
    have hz1:(s.extract r.toNat s.size).size=s.size - r.toNat:=by rw [ByteArray.size_extract];omega
    have hz2:(s.extract 0 r.toNat).size≤100000:=by rw [ByteArray.size_extract];omega
    simp only [EC.decL_encL,EC.isL_encL,q3l,q3z]
    refine qvb (by simp;omega) (qvb (by simp;omega) (qvb (by simp;omega) ?_))
    refine (ih _ 0 (out+1) (l++[s.extract 0 r.toNat]) (by rw [hz1];omega) (by simp [ho]) (by rw [hz1];omega) (by omega) (q1hn hz hz2)).mono fun x hx=>⟨hx.1,hx.2.1,hx.2.2.1,hx.2.2.2.1,fun h=>by omega⟩
  ·simp only [EC.decL_encL,flQ,Sum.elim_inl]
   exact ⟨ho,by omega,by omega,hz,fun _=>trivial⟩
theorem qqu (l:List ByteArray) (k:Nat) (h:k<l.length):isP [K1.str] 0 ((qb5.encL l).getD k [])=true:=by rw [EC.getD_lt _ _ h];rfl
theorem q1lv (out:Nat) (c d:Int) (l:List ByteArray) (hl:l.length≤100001):∀ m k:Nat,k+m=l.length→Ok (qkp out l.length l.length k c d l) fun x=>Sum.elim (fun r=>r.1.1=0∧r.2.1=[]∧r.2.2.1=1∧¬ ∀ e∈l,e.size≤998) (fun r=>r.1.2.1=out∧r.2.2=l) x:=by
 intro m
 induction m with
 |zero =>
  intro k hk
  refine .via qkr ?_
  unfold qkw
  try simp only [gL,dL,lN,wI,p0]
  refine qv9 (fun h=>?_) (fun _=>qvb (by simp [EC.isL_encL]) (qvc ?_))
  ·have:=of_decide_eq_true h
   omega
  ·simp only [EC.decL_encL,Sum.elim_inr,and_self]
 |succ m ih =>
  intro k hk
  have hlt:k<l.length:=by omega
  have e2:IntKind.i64.wrap ((k:Int)+1)=((k+1:Nat):Int):=by rw [q1m1 (by omega)];rfl
  refine .via qkr ?_
  unfold qkw
  try simp only [gL,dL,lN,wI,p0]
  simp only [EC.decL_encL,EC.isL_encL,EC.encL_length,q51,Int.toNat_natCast,e2]
  refine qv9 (fun h=>?_) (fun h=>?_)
  ·refine qvb (by simp;omega) (qvb (by rw [qs3 l k hlt];simp [hlt]) (qvb (qqu l k hlt) ?_))
   refine qv9 (fun hw=>?_) (fun _=>?_)
   ·refine qv8 (qjr _ _) fun r hr=>qvc ?_
    subst hr
    refine ⟨rfl,rfl,rfl,fun hall=>?_⟩
    have h1:=hall l[k] (List.getElem_mem hlt)
    have h2:=of_decide_eq_true hw
    rw [qn9 hlt] at h2
    omega
   ·exact qvb rfl (ih (k+1) (by omega))
  ·have:=of_decide_eq_false h
   omega
end Go.Proofs.YtokahibbkdbndaaGreatDoor
namespace Go.Proofs.YtokahibbkdbndaaGreatDoor
open Go.RowKit
def foldP (n v:ByteArray) (r:(Nat×(Int×Int))×List ByteArray):Prop:=r.1.1=r.2.length∧r.1.1≤100001∧szB r.2∧(r.1.2.1=0→fnameB n=true∧v.size≤4000)∧(fnameB n=true→v.size=0→r.1.2.1=0)
theorem qlr (n v:ByteArray):Ok (ql5 n v) (foldP n v):=.via qko (by
 unfold ql6
 try simp only [gL,dL,aL,dQ,dM]
 refine qv8 (qva (qki n)) fun r0 hr0=>?_
 subst hr0
 refine qv9 (fun hb=>qv8 (qjr _ _) fun r hr=>qvc ?_) (fun hb=>?_)
 ·subst hr
  have hb:fnameB n=false:=by simpa using hb
  exact ⟨rfl,by simp,(fun e he=>by simp [EC.decL] at he),(fun h=>by simp at h),(fun h=>by rw [hb] at h;cases h)⟩
 ·have hb:fnameB n=true:=by simpa using hb
  have hn:n.size≤60:=by
   unfold fnameB at hb
   rw [Bool.and_eq_true,Bool.and_eq_true] at hb
   have:=of_decide_eq_true hb.2.1
   omega
  refine qv9 (fun hv=>qv8 (qjr _ _) fun r hr=>qvc ?_) (fun hv=>?_)
  ·subst hr
   have:=of_decide_eq_true hv
   exact ⟨rfl,by simp,(fun e he=>by simp [EC.decL] at he),(fun h=>by simp at h),(fun _ h=>by omega)⟩
  ·have hv4:v.size≤4000:=by have:=of_decide_eq_false hv;omega
   refine qv8 (q1lk v (by omega)) fun r1 hr1=>qv9 (fun hb1=>qv8 (qjr _ _) fun r hr=>qvc ?_) (fun hb1=>?_)
   ·subst hr
    exact ⟨rfl,by simp,(fun e he=>by simp [EC.decL] at he),(fun h=>by simp at h),(fun _ h=>by rw [hr1 h] at hb1;cases hb1)⟩
   ·have hc2:(ByteArray.mk (List.toArray [(58:UInt8),(32:UInt8)])).size=2:=rfl
    have hsz:((n++(ByteArray.mk (List.toArray [(58:UInt8),(32:UInt8)])))++v).size=n.size+2+v.size:=by rw [ByteArray.size_append,ByteArray.size_append,hc2]
    have hsz1:(n++(ByteArray.mk (List.toArray [(58:UInt8),(32:UInt8)]))).size=n.size+2:=by rw [ByteArray.size_append,hc2]
    rw [maxI,hc2,hsz1]
    refine qv9 (fun h=>absurd (of_decide_eq_true h) (by omega)) (fun _=>qv9 (fun h=>absurd (of_decide_eq_true h) (by omega)) (fun _=>?_))
    have hw:IntKind.i64.wrap ((n.size:Int)+2)=((n.size+2:Nat):Int):=by rw [q1m1 (by omega)];rfl
    rw [hw,qg]
    refine qv8 (qle _ _ _ 0 [] (Nat.le_refl _) rfl (by rw [hsz];omega) (by omega) (fun e he=>by cases he)) ?_
    intro r hr
    have fin:∀ (c d:Int) (s:ByteArray) (o:Nat) (l:List ByteArray),o=l.length→o≤100000→s.size≤100000→szB l→(n.size+2+v.size≤78→s.size≤78∧l=[]) →
      Ok (Option.bind (qkp (o+1) (o+1) (((o+1:Nat)):Int) 0 c d (l++[s])) fun r4=>Sum.elim (fun r5=>some ((r5.1.1,(r5.2.2.1,r5.2.2.2)),r5.2.1)) (fun r5=>Option.bind q72 fun r6=>some ((r5.1.2.1,(r6.1,r6.2)),r5.2.2)) r4) (foldP n v):=by
     intro c d s o l ho h1 h2 h3 h4
     have hl:(l++[s]).length=o+1:=by simp [ho]
     have hz:=q1hn h3 h2
     have hwd:=q1lv (o+1) c d (l++[s]) (by omega) (l++[s]).length 0 (by omega)
     rw [hl] at hwd
     refine qv8 hwd ?_
     rintro (x|x) hx
     ·obtain ⟨x1,x2,x3,x4⟩:=hx
      refine qvc ⟨by rw [x1,x2];rfl,by rw [x1];omega,by rw [x2];exact (fun e he=>by cases he),(fun h=>by rw [x3] at h;cases h),(fun _ h0=>absurd (fun e he=>?_) x4)⟩
      obtain ⟨g1,g2⟩:=h4 (by omega)
      subst g2
      have:e=s:=by simpa using he
      rw [this];omega
     ·obtain ⟨x1,x2⟩:=hx
      refine qv8 qv0 fun r6 hr6=>qvc ?_
      subst hr6
      exact ⟨by rw [x1,x2,hl],by rw [x1];omega,by rw [x2];exact hz,(fun _=>⟨hb,hv4⟩),(fun _ _=>rfl)⟩
    rcases r with r|r
    ·obtain ⟨q1,q2,q3,q4,q5⟩:=hr
     simp only [flQ,Sum.elim_inl] at q1 q2 q3 q4 q5
     have hf:=fin r.2.1.1 r.2.1.2 r.1.2.1 r.1.2.2.2.1 r.2.2 q1 q2 q3 q4 (fun h=>by
      have:=q5 (by rw [hsz];omega)
      rw [Prod.mk.injEq,Prod.mk.injEq] at this
      rw [this.1,this.2.2]
      exact ⟨by rw [hsz];omega,rfl⟩)
     show Ok (gdE _ _) _
     refine qvb (by simp [q3l];omega) (qvb (by simp [EC.isL_encL,q3z]) ?_)
     simp only [EC.decL_encL,EC.isL_encL,q3z,qn6,if_true]
     exact hf
    ·obtain ⟨q1,q2,q3,q4,q5⟩:=hr
     simp only [flQ,Sum.elim_inr] at q1 q2 q3 q4 q5
     have hf:=fin r.2.1.1 r.2.1.2 r.1.2.1 r.1.2.2.1 r.2.2 q1 q2 q3 q4 (fun h=>by
      have:=q5 (by rw [hsz];omega)
      rw [Prod.mk.injEq,Prod.mk.injEq] at this
      rw [this.1,this.2.2]
      exact ⟨by rw [hsz];omega,rfl⟩)
     show Ok (gdE _ _) _
     refine qvb (by simp [q3l];omega) (qvb (by simp [EC.isL_encL,q3z]) ?_)
     simp only [EC.decL_encL,EC.isL_encL,q3z,qn6,if_true]
     exact hf)
def fieldB (x:S55):Prop:=fnameB x.Name=true∧x.Value.size≤4000
theorem qpm (l:List S55) (hl:l.length≤60) (c d:Int):∀ m k:Nat,k+m=l.length→Ok (qog l l.length k c d) fun x=>Sum.elim (fun r=>r.2.1≠0) (fun _=>∀ x∈l.drop k,fieldB x) x:=by
 intro m
 induction m with
 |zero =>
  intro k hk
  refine .via qoi ?_
  unfold qon
  try simp only [gL,dL,eC,wI,p0]
  refine qv9 (fun h=>?_) (fun _=>qvb (by simp [EC.isL_encL]) (qvc ?_))
  ·have:=of_decide_eq_true h
   omega
  ·rw [List.drop_eq_nil_of_le (by omega)]
   intro x hx;cases hx
 |succ m ih =>
  intro k hk
  have hlt:k<l.length:=by omega
  have e2:IntKind.i64.wrap ((k:Int)+1)=((k+1:Nat):Int):=by rw [q1m1 (by omega)];rfl
  refine .via qoi ?_
  unfold qon
  try simp only [gL,dL,eC,wI,p0]
  simp only [EC.decL_encL,EC.isL_encL,EC.encL_length,isE_55,q4v,q4w,Int.toNat_natCast,e2]
  refine qv9 (fun h=>?_) (fun h=>?_)
  ·refine qvb (by simp) (qvb (by simp [hlt]) ?_)
   refine qv8 (qlr _ _) fun r hr=>?_
   rw [qn9 hlt] at hr
   refine qv8 (qva (qjo _ _)) fun r1 hr1=>?_
   subst hr1
   refine qv9 (fun hb=>qv8 (qjr _ _) fun r2 hr2=>qvc ?_) (fun hb=>?_)
   ·subst hr2
    show r.1.2.1≠0
    simpa using hb
   ·have h0:r.1.2.1=0:=by simpa using hb
    refine qvb rfl ((ih (k+1) (by omega)).mono fun x hx=>?_)
    rcases x with x|x
    ·exact hx
    ·show ∀ y∈l.drop k,fieldB y
     rw [qag hlt]
     intro y hy
     rcases List.mem_cons.1 hy with rfl|hy
     ·exact hr.2.2.2.1 h0
     ·exact hx y hy
  ·have:=of_decide_eq_false h
   omega
def hvalP (l:List S55) (r:Int×Int):Prop:=r.1=0→l.length≤60∧∀ x∈l,fieldB x
theorem qpn (l:List S55):Ok (qoo l) (hvalP l):=.via qof (by
 unfold qop
 try simp only [gL,dL,lN]
 simp only [EC.decL_encL,EC.isL_encL,EC.encL_length]
 refine qv9 (fun h=>qv8 (qjr _ _) fun r hr=>qvc ?_) (fun h=>qvb rfl ?_)
 ·subst hr
  intro h;cases h
 ·have hl:l.length≤60:=by have:=of_decide_eq_false h;omega
  refine qv8 (qpm l hl 0 0 l.length 0 (by omega)) ?_
  rintro (r|r) hr
  ·exact qvc (fun h=>absurd h hr)
  ·refine qv8 qv0 fun r2 hr2=>qvc ?_
   intro _
   exact ⟨hl,by rw [List.drop_zero] at hr;exact hr⟩)
theorem qp8 (s:ByteArray):Ok (qou s) fun r=>r=fnameB s:=.via qot (by
 unfold qov
 refine qv8 (qlr _ _) fun r hr=>?_
 refine qv8 (qva (qjo _ _)) fun r1 hr1=>qvc ?_
 subst hr1
 obtain ⟨_,_,_,h1,h2⟩:=hr
 cases hb:fnameB s with
 |true=>rw [h2 hb rfl];rfl
 |false =>
  have:r.1.2.1≠0:=fun h=>by rw [(h1 h).1] at hb;cases hb
  simpa using this)
theorem qnp (s p:ByteArray):Ok (q1h0 s p) fun _=>True:=.via q1gz (by
 unfold q1h1
 refine qv8 (P:=fun _=>True) (.via q1hb ?_) fun r _=>qvc trivial
 unfold q1hd
 try simp only [p0]
 refine qv9 (fun h=>qvb ?_ (qvc trivial)) (fun _=>qvc trivial)
 simp at h ⊢
 exact h)
theorem qnx (s p:ByteArray) (hs:s.size≤2000000):Ok (q1h6 s p) fun _=>True:=.via q1h5 (by
 unfold q1h7
 refine qv8 (P:=fun _=>True) (.via q1hh ?_) fun r _=>qvc trivial
 unfold q1hj
 try simp only [p0]
 refine qv9 (fun h=>qvb ?_ (qvc trivial)) (fun _=>qvc trivial)
 have h:(s.size:Int)≥(p.size:Int):=by simpa using h
 rw [q1m1 (by omega)]
 simp
 omega)
theorem quk (s:ByteArray):Ok (q6w s) fun _=>True:=.via q6v (by
 unfold q6x
 refine qv9 (fun _=>qv9 (fun h=>?_) (fun _=>qvc trivial)) (fun _=>qvc trivial)
 have h:(s.size:Int)≤60:=by simpa using h
 exact qv8 (qva (q31 s (by omega))) fun r _=>qvc trivial)
theorem qad (s:ByteArray):Ok (qcd s) fun r=>r=true→s.size≤60:=.via qcc (by
 unfold qce
 refine qv9 (fun _=>qv9 (fun h=>?_) (fun _=>qvc (fun h=>by cases h))) (fun _=>qvc (fun h=>by cases h))
 have h:(s.size:Int)≤60:=by simpa using h
 have hs:s.size≤60:=by omega
 refine qv8 (qva (q1l s (by omega))) fun r _=>?_
 refine qv9 (fun _=>qv8 (qnp _ _) fun r1 _=>qv9 (fun _=>qv8 (qnx _ _ (by omega)) fun r2 _=>qv9 (fun _=>?_) (fun _=>qvc (fun _=>hs))) (fun _=>qvc (fun _=>hs))) (fun _=>qvc (fun _=>hs))
 refine qv8 (P:=fun _=>True) ⟨_,by unfold contP;rw [if_pos (by omega)],trivial⟩ fun r3 _=>qvc (fun _=>hs))
theorem q9o (s sep:List UInt8) (h:(Lib.cut s sep).2.2=true):(Lib.cut s sep).1.length+sep.length+(Lib.cut s sep).2.1.length=s.length:=by
 unfold Lib.cut at *
 split at h
 ·rename_i h0
  rw [if_pos h0]
  have:=Lib.index_room s sep h0
  simp only [List.length_drop,List.length_take]
  omega
 ·cases h
theorem q1g7 (s:ByteArray) (hs:s.size≤2000000):Ok (qd9 s) fun r=>r.2.2=true→s.size≤121:=.via qd8 (by
 unfold qda
 have hc:=q9o s.data.toList [64]
 refine qv8 (P:=fun r:ByteArray×ByteArray×Bool=>r.2.2=true→r.1.size+1+r.2.1.size=s.size) ⟨_,by unfold cutP;rw [if_pos (by omega)],fun h=>?_⟩ fun r hr=>?_
 ·have:=hc h
  have e:s.data.toList.length=s.size:=by rw [Array.length_toList];rfl
  rw [e] at this
  exact this
 ·refine qv9 (fun hk=>?_) (fun _=>qvc (fun h=>by cases h))
  have hk:=hr (by simpa using hk)
  refine qv9 (fun _=>qv9 (fun h=>?_) (fun _=>qvc (fun h=>by cases h))) (fun _=>qvc (fun h=>by cases h))
  have h:(r.1.size:Int)≤60:=by simpa using h
  refine qv8 (qva (q2k r.1 (by omega))) fun r1 _=>qv9 (fun _=>?_) (fun _=>qvc (fun h=>by cases h))
  exact qv8 (qad _) fun r2 h2=>qvc (fun h3=>by have:=h2 h3;omega))
theorem qv (s:ByteArray) (hs:s.size≤2000000):Ok (qc1 s) fun r=>r=true→s.size≤121:=.via qc0 (by
 unfold qc2
 exact qv8 (q1g7 s hs) fun r h=>qvc h)
theorem qv3 (n:Int):Ok (qcj n) fun _=>True:=.via qci (by
 unfold qck
 exact qv9 (fun _=>qvc trivial) (fun _=>qvc trivial))
theorem qq2 (l:List S118) (hl:l.length≤2000000) (f:ByteArray) (n:Int):∀ m k:Nat,k+m=l.length→Ok (qpu l f n l.length k) fun _=>True:=by
 intro m
 induction m with
 |zero =>
  intro k hk
  refine .via qpw ?_
  unfold qq1
  try simp only [gL,dL,eC,wI,p0]
  refine qv9 (fun h=>?_) (fun _=>qvb (by simp [EC.isL_encL]) (qvc trivial))
  have:=of_decide_eq_true h
  omega
 |succ m ih =>
  intro k hk
  have hlt:k<l.length:=by omega
  have e2:IntKind.i64.wrap ((k:Int)+1)=((k+1:Nat):Int):=by rw [q1m1 (by omega)];rfl
  refine .via qpw ?_
  unfold qq1
  try simp only [gL,dL,eC,wI,p0]
  simp only [EC.decL_encL,EC.isL_encL,EC.encL_length,qqm,q42,q43,Int.toNat_natCast,e2]
  refine qv9 (fun h=>?_) (fun h=>?_)
  ·refine qvb (by simp) (qvb (by simp [hlt]) ?_)
   refine qv8 (P:=fun _=>True) (.via q1ag (qvc trivial)) fun r _=>qv9 (fun _=>qvc trivial) (fun _=>qvb rfl (ih (k+1) (by omega)))
  ·have:=of_decide_eq_false h
   omega
theorem qnu (l:List S118) (hl:l.length≤2000000) (f:ByteArray) (n:Int):Ok (qnv l f n) fun _=>True:=.via qnt (by
 unfold qnw
 try simp only [gL,dL]
 simp only [EC.decL_encL,EC.isL_encL]
 refine qvb rfl (qv8 (P:=fun _=>True) (.via qpt ?_) fun r _=>qvc trivial)
 unfold qq4
 try simp only [gL,dL,lN]
 simp only [EC.decL_encL,EC.isL_encL,EC.encL_length]
 refine qvb rfl (qv8 (qq2 l hl f n l.length 0 (by omega)) ?_)
 rintro (r|r) _
 ·exact qvc trivial
 ·exact qvc trivial)
theorem q1aj (l:List S118) (hl:l.length≤2000000) (ha:∀ x∈l,x.Address.size≤2000000) (c d:Int):∀ m k:Nat,k+m=l.length→Ok (qcp l l l.length k c d) fun x=>Sum.elim (fun r=>r.2.1≠0) (fun _=>∀ x∈l.drop k,x.Address.size≤121) x:=by
 intro m
 induction m with
 |zero =>
  intro k hk
  refine .via qcr ?_
  unfold qcw
  try simp only [gL,dL,lN,eC,wI,p0,aL]
  refine qv9 (fun h=>?_) (fun _=>qvb (by simp [EC.isL_encL]) (qvb (by simp [EC.isL_encL]) (qvc ?_)))
  ·have:=of_decide_eq_true h
   omega
  ·rw [List.drop_eq_nil_of_le (by omega)]
   intro x hx;cases hx
 |succ m ih =>
  intro k hk
  have hlt:k<l.length:=by omega
  have e2:IntKind.i64.wrap ((k:Int)+1)=((k+1:Nat):Int):=by rw [q1m1 (by omega)];rfl
  refine .via qcr ?_
  unfold qcw
  try simp only [gL,dL,lN,eC,wI,p0,aL]
  simp only [EC.decL_encL,EC.isL_encL,EC.encL_length,qqm,q42,q43,q3i,Int.toNat_natCast,e2,qh,qf]
  refine qv9 (fun h=>?_) (fun h=>?_)
  ·refine qvb (by simp) (qvb (by simp [hlt]) ?_)
   rw [qn9 hlt]
   refine qv8 (qv _ (ha _ (List.getElem_mem hlt))) fun r0 hr0=>qv9 (fun _=>qv8 (qjr _ _) fun r1 hr1=>qvc ?_) (fun hb=>?_)
   ·subst hr1
    intro h;cases h
   ·refine qv8 (qv3 _) fun r1 _=>qv9 (fun _=>qv8 (qjr _ _) fun r2 hr2=>qvc ?_) (fun _=>?_)
    ·subst hr2
     intro h;cases h
    ·refine qvb (by simp;omega) (qvb (by simp []) ?_)
     refine qvb rfl (qv8 (qnu _ (by simp;omega) _ _) fun r2 _=>qv9 (fun _=>qv8 (qjr _ _) fun r3 hr3=>qvc ?_) (fun _=>qvb rfl (qvb rfl ((ih (k+1) (by omega)).mono fun x hx=>?_))))
     ·subst hr3
      intro h;cases h
     ·rcases x with x|x
      ·exact hx
      ·show ∀ y∈l.drop k,y.Address.size≤121
       rw [qag hlt]
       intro y hy
       rcases List.mem_cons.1 hy with rfl|hy
       ·exact hr0 (by simpa using hb)
       ·exact hx y hy
  ·have:=of_decide_eq_false h
   omega
theorem q1ak (l:List S118) (hl:l.length≤2000000) (ha:∀ x∈l,x.Address.size≤2000000):Ok (qcx l) fun r=>r.1=0→∀ x∈l,x.Address.size≤121:=.via qco (by
 unfold qcy
 try simp only [gL,dL,lN]
 simp only [EC.decL_encL,EC.isL_encL,EC.encL_length]
 refine qvb rfl (qvb rfl (qv8 (q1aj l hl ha 0 0 l.length 0 (by omega)) ?_))
 rintro (r|r) hr
 ·exact qvc (fun h=>absurd h hr)
 ·refine qv8 qv0 fun r2 hr2=>qvc ?_
  intro _
  rw [List.drop_zero] at hr
  exact hr)
def envB (f:ByteArray) (l:List S118):Prop:=f.size≤121∧l.length≤60∧∀ x∈l,x.Address.size≤121
theorem env_ok (f:ByteArray) (l:List S118) (i:ByteArray) (hf:f.size≤2000000) (hl:l.length≤2000000) (ha:∀ x∈l,x.Address.size≤2000000):Ok (qdf f l i) fun r=>r.1=0→envB f l:=.via qde (by
 unfold qdg
 try simp only [gL,dL,lN]
 simp only [EC.decL_encL,EC.isL_encL,EC.encL_length,qbg]
 have rest:f.size≤121→l.length≤60→Ok (brE ((!em i)==true) (Option.bind (q6w i) fun r0=>brE (!r0) (Option.bind (q61 10 (-12)) fun r1=>some (r1.1,r1.2)) (gdE true<| Option.bind (qcx l) fun r1=>some (r1.1,r1.2))) (gdE true<| Option.bind (qcx l) fun r0=>some (r0.1,r0.2))) fun r=>r.1=0→envB f l:=by
  intro h1 h2
  have fin:Ok (gdE true<| Option.bind (qcx l) fun r0=>some (r0.1,r0.2)) fun r=>r.1=0→envB f l:=qvb rfl (qv8 (q1ak l hl ha) fun r hr=>qvc fun h=>⟨h1,h2,hr h⟩)
  refine qv9 (fun _=>qv8 (quk _) fun r _=>qv9 (fun _=>qv8 (qjr _ _) fun r1 hr1=>qvc ?_) (fun _=>fin)) (fun _=>fin)
  subst hr1
  intro h;cases h
 have bad:∀ a b:Int,a≠0→Ok (Option.bind (q61 a b) fun r1=>some (r1.1,r1.2)) fun r=>r.1=0→envB f l:=fun a b h0=>qv8 (qjr _ _) fun r hr=>qvc (by subst hr;exact fun h=>absurd h h0)
 have rest2:f.size≤121→Ok (brE (decide ((l.length:Int)<1)==false) (brE (decide ((l.length:Int)>60)) (Option.bind (q61 2 (-11)) fun r1=>some (r1.1,r1.2)) (brE ((!em i)==true) (Option.bind (q6w i) fun r0=>brE (!r0) (Option.bind (q61 10 (-12)) fun r1=>some (r1.1,r1.2)) (gdE true<| Option.bind (qcx l) fun r1=>some (r1.1,r1.2))) (gdE true<| Option.bind (qcx l) fun r0=>some (r0.1,r0.2)))) (Option.bind (q61 2 (-11)) fun r1=>some (r1.1,r1.2))) fun r=>r.1=0→envB f l:=fun h1 =>
  qv9 (fun _=>qv9 (fun _=>bad _ _ (by decide)) (fun h=>rest h1 (by have:=of_decide_eq_false h;omega))) (fun _=>bad _ _ (by decide))
 refine qv9 (fun _=>qv8 (qv f hf) fun r hr=>qv9 (fun _=>bad _ _ (by decide)) (fun h=>rest2 (hr (by simpa using h)))) (fun h=>rest2 ?_)
 have he:em f=true:=by cases h2:em f with|true=>rfl|false=>rw [h2] at h;cases h
 rw [qbh] at he
 have:=of_decide_eq_true he
 omega)
theorem nb_low (b:UInt8):nb (lowB b)=lowI (nb b):=by
 have h:=qsp (qul b).1 (qul b).2
 unfold lowB ub
 generalize lowI (nb b)=c at h
 unfold nb
 rw [UInt8.toNat_ofNat']
 omega
theorem qkf (c:Int):fnB (lowI c)=fnB c:=by
 unfold lowI fnB
 split
 ·rw [Bool.eq_iff_iff]
  simp
  omega
 ·rfl
theorem qkh {a b:ByteArray} (h:lowL (L a)=lowL (L b)):fnameB a=fnameB b:=by
 have hl:(L a).length=(L b).length:=by
  have:=congrArg List.length h
  simpa [lowL] using this
 have hs:a.size=b.size:=by rw [←ql,←ql,hl]
 have hp:∀ s:ByteArray,(L s).all q20=(lowL (L s)).all q20:=by
  intro s
  unfold lowL
  rw [List.all_map]
  congr 1
  funext x
  show fnB (nb x)=fnB (nb (lowB x))
  rw [nb_low,qkf]
 unfold fnameB
 rw [qbh,qbh,hs,hp a,hp b,h]
def sm (n:ByteArray) (x:S55):Bool:=lowL (L x.Name)==lowL (L n)
def valsL (l:List S55) (n:ByteArray):List ByteArray:=(l.filter (sm n)).map fun x=>x.Value
theorem q1lg (l:List S55) (n:ByteArray):(valsL l n).length≤l.length:=by
 unfold valsL
 rw [List.length_map]
 exact List.length_filter_le _ _
theorem q1lf (x:S55) (l:List S55) (n:ByteArray):valsL (x::l) n=if sm n x=true then x.Value::valsL l n else valsL l n:=by
 unfold valsL
 rw [List.filter_cons]
 split <;> rfl
theorem qnj (l:List S55) (n:ByteArray) (hl:l.length≤60) (hn:n.size≤2000000) (hx:∀ x∈l,x.Name.size≤2000000) (c d:Int):∀ (m k:Nat) (acc:List ByteArray),k+m=l.length→acc.length≤k→Ok (qo3 n acc.length l l.length k c d acc) fun x=>x.2.2=acc++valsL (l.drop k) n∧x.1.2.2.1=x.2.2.length:=by
 intro m
 induction m with
 |zero =>
  intro k acc hk ha
  refine .via qo5 ?_
  unfold qo9
  try simp only [gL,dL,eC,wI,p0,aL,dQ]
  simp only [EC.decL_encL,EC.isL_encL,EC.encL_length,q3l,q3z,isE_55,q4v,q4w]
  refine qv9 (fun h=>?_) (fun _=>qvb rfl (qvb rfl (qvc ?_)))
  ·have:=of_decide_eq_true h
   omega
  ·rw [List.drop_eq_nil_of_le (by omega)]
   exact ⟨(List.append_nil _).symm,rfl⟩
 |succ m ih =>
  intro k acc hk ha
  have hlt:k<l.length:=by omega
  have e2:IntKind.i64.wrap ((k:Int)+1)=((k+1:Nat):Int):=by rw [q1m1 (by omega)];rfl
  refine .via qo5 ?_
  unfold qo9
  try simp only [gL,dL,eC,wI,p0,aL,dQ]
  simp only [EC.decL_encL,EC.isL_encL,EC.encL_length,q3l,q3z,isE_55,q4v,q4w,Int.toNat_natCast,e2]
  refine qv9 (fun h=>?_) (fun h=>?_)
  ·refine qvb (by simp) (qvb (by simp [hlt]) ?_)
   rw [qn9 hlt]
   have h1:=hx _ (List.getElem_mem hlt)
   refine qv8 (qva (same_s l[k].Name n (by omega) (by omega))) fun r hr=>?_
   rw [qag hlt,q1lf]
   refine qv9 (fun hb=>?_) (fun hb=>?_)
   ·rw [hr] at hb
    have hb:sm n l[k]=true:=hb
    rw [if_pos hb]
    refine qvb (by simp;omega) (qvb rfl (qvb rfl ?_))
    have:=ih (k+1) (acc++[l[k].Value]) (by omega) (by simp;omega)
    rw [List.length_append] at this
    refine this.mono fun x h=>⟨by rw [h.1,List.append_assoc];rfl,h.2⟩
   ·rw [hr] at hb
    have hb:sm n l[k]=false:=hb
    rw [if_neg (by rw [hb];decide)]
    exact qvb rfl (qvb rfl (ih (k+1) acc (by omega) (by omega)))
  ·have:=of_decide_eq_false h
   omega
theorem qkg {n:ByteArray} (h:fnameB n=true):n.size≤60:=by
 unfold fnameB at h
 rw [Bool.and_eq_true,Bool.and_eq_true] at h
 have:=of_decide_eq_true h.2.1
 omega
structure HdrOk (l:List S55):Prop where
 val:∃ i,qoo l=some (0,i)
 len:l.length≤60
 all:∀ x∈l,fieldB x
theorem get_s {l:List S55} (h:HdrOk l) (n:ByteArray) (hn:n.size≤2000000):Ok (qoa l n) fun r=>r.2=valsL l n∧r.1.1=r.2.length:=.via qo2 (by
 obtain ⟨i,hv⟩:=h.val
 have hval:Ok (qp0 l n) fun r=>(fnameB n=true→r.1=0)∧(fnameB n=false→r.1≠0):=.via qoz (by
  unfold qp1
  try simp only [gL,dL]
  simp only [EC.decL_encL,EC.isL_encL]
  refine qvb rfl (qv8 (qva hv) fun r hr=>?_)
  subst hr
  refine qv8 (qva (qjo _ _)) fun r1 hr1=>?_
  subst hr1
  refine qv9 (fun h=>by cases h) (fun _=>?_)
  refine qv8 (qp8 n) fun r2 hr2=>qv9 (fun hb=>qv8 (qjr _ _) fun r3 hr3=>qvc ?_) (fun hb=>qv8 qv0 fun r3 hr3=>qvc ?_)
  ·subst hr3
   refine ⟨fun h=>?_,fun _=>by decide⟩
   rw [hr2,h] at hb;cases hb
  ·subst hr3
   refine ⟨fun _=>rfl,fun h=>?_⟩
   rw [hr2,h] at hb;cases hb)
 unfold qob
 try simp only [gL,dL,lN]
 simp only [EC.decL_encL,EC.isL_encL,EC.encL_length,qg]
 refine qvb rfl (qv8 hval fun r0 hr0=>qv8 (qva (qjo _ _)) fun r1 hr1=>?_)
 subst hr1
 have hemp:fnameB n=false→valsL l n=[]:=by
  intro hf
  unfold valsL
  have:l.filter (sm n)=[]:=by
   rw [List.filter_eq_nil_iff]
   intro x hx hs
   have:=qkh (a:=x.Name) (b:=n) (by simpa [sm] using hs)
   rw [(h.all x hx).1,hf] at this
   cases this
  rw [this];rfl
 refine qv9 (fun hb=>qvc ?_) (fun hb=>?_)
 ·have hf:fnameB n=false:=by
   cases hf:fnameB n with
   |true=>rw [hr0.1 hf] at hb;cases hb
   |false=>rfl
  exact ⟨(hemp hf).symm,rfl⟩
 ·refine qvb rfl (qv8 (qnj l n h.len hn (fun x hx=>by have:=qkg (h.all x hx).1;omega) 0 0 l.length 0 [] (by omega) (by simp)) fun r2 hr2=>qv8 qv0 fun r3 hr3=>qvb rfl (qvc ?_))
  rw [List.drop_zero,List.nil_append] at hr2
  exact hr2)
theorem q1li (l:List S55) (b:List Int) (n:ByteArray) (hl:l.length≤60) (hx:∀ x∈l,x.Name.size≤2000000):∀ (m k:Nat) (acc:List ByteArray),k+m=l.length→acc.length≤k→Ok (qzg n acc.length k l b acc) fun x=>x.2.2=acc++valsL (l.drop k) n∧x.1.2.2.1=x.2.2.length:=by
 intro m
 induction m with
 |zero =>
  intro k acc hk ha
  refine .via qzi ?_
  unfold qzm
  try simp only [gL,dL,lN,eC,wI,p0,aL,dQ]
  simp only [EC.decL_encL,EC.isL_encL,EC.encL_length,q3l,q3z,isE_55,q4v,q4w]
  refine qv9 (fun h=>?_) (fun _=>qvb rfl (qvb rfl (qvb rfl (qvc ?_))))
  ·have:=of_decide_eq_true h
   omega
  ·rw [List.drop_eq_nil_of_le (by omega)]
   exact ⟨(List.append_nil _).symm,rfl⟩
 |succ m ih =>
  intro k acc hk ha
  have hlt:k<l.length:=by omega
  have e2:IntKind.i64.wrap ((k:Int)+1)=((k+1:Nat):Int):=by rw [q1m1 (by omega)];rfl
  refine .via qzi ?_
  unfold qzm
  try simp only [gL,dL,lN,eC,wI,p0,aL,dQ]
  simp only [EC.decL_encL,EC.isL_encL,EC.encL_length,q3l,q3z,isE_55,q4v,q4w,Int.toNat_natCast,e2]
  refine qv9 (fun h=>?_) (fun h=>?_)
  ·refine qvb (by simp) (qvb (by simp [hlt]) ?_)
   rw [qn9 hlt]
   have h1:=hx _ (List.getElem_mem hlt)
   refine qv8 (qva (q12 l[k].Name n (by omega))) fun r hr=>?_
   rw [qag hlt,q1lf]
   refine qv9 (fun hb=>?_) (fun hb=>?_)
   ·rw [hr] at hb
    have hb:sm n l[k]=true:=hb
    rw [if_pos hb]
    refine qvb (by simp) (qvb (by simp [hlt]) (qvb (by simp;omega) (qvb rfl (qvb rfl (qvb rfl ?_)))))
    have:=ih (k+1) (acc++[l[k].Value]) (by omega) (by simp;omega)
    rw [List.length_append] at this
    refine this.mono fun x h=>⟨by rw [h.1,List.append_assoc];rfl,h.2⟩
   ·rw [hr] at hb
    have hb:sm n l[k]=false:=hb
    rw [if_neg (by rw [hb];decide)]
    exact qvb rfl (qvb rfl (qvb rfl (ih (k+1) acc (by omega) (by omega))))
  ·have:=of_decide_eq_false h
   omega
theorem vals_s {l:List S55} (h:HdrOk l) (b:List Int) (n:ByteArray):qzn l b n=some ((valsL l n).length,valsL l n):=by
 have:Ok (qzn l b n) fun r=>r.2=valsL l n∧r.1=r.2.length:=.via qzf (by
  unfold qzo
  try simp only [gL,dL]
  simp only [EC.decL_encL,EC.isL_encL,qg]
  refine qvb rfl (qvb rfl (qv8 (q1li l b n h.len (fun x hx=>by have:=qkg (h.all x hx).1;omega) l.length 0 [] (by omega) (by simp)) fun r2 hr2=>qvb rfl (qvc ?_)))
  rw [List.drop_zero,List.nil_append] at hr2
  exact hr2)
 obtain ⟨r,e,h1,h2⟩:=this
 rw [e,←h1,←h2]
end Go.Proofs.YtokahibbkdbndaaGreatDoor
