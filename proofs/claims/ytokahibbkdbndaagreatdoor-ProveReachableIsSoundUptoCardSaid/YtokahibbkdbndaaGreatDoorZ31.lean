/- What a run of a script does, in plain words: variables, texts, matches. -/
import Derived.Test.YtokahibbkdbndaaGreatDoorZ30
import Derived.Test.YtokahibbkdbndaaGreatDoorH6
import Derived.Test.YtokahibbkdbndaaGreatDoorZ22
namespace Go.Proofs.YtokahibbkdbndaaGreatDoor
open Go.RowKit
abbrev MM:=List (ByteArray × ByteArray)
def itB (n:Int):ByteArray:=⟨(Lib.itoa n).toArray⟩
def putP:List ByteArray→Nat→MM→MM
 | [],_,m=>m
 | v::vs,k,m=>putP vs (k+1) (putM m (itB ((k+1:Nat):Int)) v)
def noDig (m:MM):MM:=m.filter fun p=>!digP p.1
theorem decLen:∀ u:Nat,(Lib.decDigits u).length≤u+1:=by
 intro u
 induction u using Nat.strongRecOn with
 | _ u ih =>
  rw [Lib.decDigits]
  split
  ·simp
  ·have:=ih (u / 10) (by omega)
   simp only [List.length_append,List.length_singleton]
   omega
theorem qln (k:Nat):(itB (k:Int)).size≤k+1:=by
 have:=decLen k
 show (Lib.itoa (k:Int)).toArray.size≤_
 rw [List.size_toArray,Lib.itoa,if_neg (by omega)]
 simpa using this
theorem dec_ne (u:Nat):∃ b l,Lib.decDigits u=b::l∧48≤b.toNat∧b.toNat≤57:=by
 induction u using Nat.strongRecOn with
 | _ u ih =>
  rw [Lib.decDigits]
  split
  ·rename_i h
   refine ⟨_,[],rfl,?_⟩
   rw [UInt8.toNat_ofNat']
   omega
  ·obtain ⟨b,l,e,h⟩:=ih (u / 10) (by omega)
   exact ⟨b,l++[UInt8.ofNat (48+u % 10)],by rw [e];rfl,h⟩
theorem qlm (k:Nat):digP (itB (k:Int))=true∧(itB (k:Int)).size≠0:=by
 obtain ⟨b,l,e,h1,h2⟩:=dec_ne k
 have hi:Lib.itoa (k:Int)=b::l:=by rw [Lib.itoa,if_neg (by omega)];simpa using e
 constructor
 ·unfold digP
  have:(itB (k:Int)).data.toList=b::l:=hi
  rw [this]
  simp [h1,h2]
 ·show (Lib.itoa (k:Int)).toArray.size≠0
  rw [List.size_toArray,hi]
  simp
theorem ql7 (x q:ByteArray × ByteArray):∀ m:MM,q∈insM x m ↔ q=x∨q∈m
 | []=>by simp [insM]
 | y::r=>by
  unfold insM
  cases befM x.1 y.1 with
  | true=>simp
  | false =>
   have:=ql7 x q r
   simp only [cond_false,List.mem_cons,this]
   constructor
   ·rintro (h | h | h)
    ·exact .inr (.inl h)
    ·exact .inl h
    ·exact .inr (.inr h)
   ·rintro (h | h | h)
    ·exact .inr (.inl h)
    ·exact .inl h
    ·exact .inr (.inr h)
theorem qsm {m:MM} {k v:ByteArray} {q:ByteArray × ByteArray} (h:q∈putM m k v):q=(k,v)∨q∈m:=by
 unfold putM at h
 rcases (ql7 _ _ _).1 h with h | h
 ·exact .inl h
 ·exact .inr (List.mem_filter.1 h).1
theorem qsk (m:MM) (k v:ByteArray):(putM m k v).length≤m.length+1:=by
 unfold putM
 rw [ql5]
 have:=List.length_filter_le (fun p:ByteArray × ByteArray=>!(p.1.data.toList==k.data.toList)) m
 omega
structure Inv (n:Nat) (m:MM):Prop where
 key:∀ p∈m,p.1.size≠0
 val:∀ p∈m,p.2.size≤2000000
 len:(noDig m).length≤n
 all:m.length≤n+1000
theorem ql8 {k v:ByteArray} (h:digP k=true):∀ m:MM,(noDig (insM (k,v) m))=noDig m
 | []=>by simp [insM,noDig,h]
 | y::r=>by
  unfold insM
  cases befM (k,v).1 y.1 with
  | true=>simp [noDig,h]
  | false =>
   have:=ql8 (v:=v) h r
   simp only [noDig] at this
   simp only [cond_false,noDig,List.filter_cons,this]
theorem qp3 (m:MM) (k v:ByteArray) (h:digP k=true):(noDig (putM m k v)).length≤(noDig m).length:=by
 unfold putM
 rw [ql8 h]
 unfold noDig
 exact (List.Sublist.filter _ List.filter_sublist).length_le
theorem qp2 (m:MM):(noDig m).length≤m.length:=List.length_filter_le _ _
theorem qsn:∀ (vs:List ByteArray) (k:Nat) (m:MM),(∀ v∈vs,v.size≤2000000)→(∀ p∈m,p.1.size≠0)→(∀ p∈m,p.2.size≤2000000)→(∀ p∈putP vs k m,p.1.size≠0)∧(∀ p∈putP vs k m,p.2.size≤2000000)∧(noDig (putP vs k m)).length≤(noDig m).length∧(putP vs k m).length≤m.length+vs.length
 | [],k,m,_,h1,h2=>⟨h1,h2,Nat.le_refl _,Nat.le_refl _⟩
 | v::vs,k,m,hv,h1,h2=>by
  have hd:=qlm (k+1)
  have:=qsn vs (k+1) (putM m (itB ((k+1:Nat):Int)) v) (fun x hx=>hv x (List.mem_cons_of_mem _ hx)) (fun p hp=>by
   rcases qsm hp with rfl | hp
   ·exact hd.2
   ·exact h1 p hp) (fun p hp=>by
   rcases qsm hp with rfl | hp
   ·exact hv v (List.mem_cons_self ..)
   ·exact h2 p hp)
  have e1:=qp3 m (itB ((k+1:Nat):Int)) v hd.1
  have e2:=qsk m (itB ((k+1:Nat):Int)) v
  rw [putP]
  refine ⟨this.1,this.2.1,Nat.le_trans this.2.2.1 e1,?_⟩
  have:=this.2.2.2
  simp only [List.length_cons]
  omega
theorem Inv.pieces {n:Nat} {m:MM} (h:Inv n m) {vs:List ByteArray} (hv:∀ v∈vs,v.size≤2000000) (hl:vs.length≤1000):Inv n (putP vs 0 (noDig m)):=by
 have hm:∀ p∈noDig m,p∈m:=fun p hp=>(List.mem_filter.1 hp).1
 have:=qsn vs 0 (noDig m) hv (fun p hp=>h.key p (hm p hp)) (fun p hp=>h.val p (hm p hp))
 have hidem:noDig (noDig m)=noDig m:=by unfold noDig;rw [List.filter_filter];congr 1;funext p;simp
 rw [hidem] at this
 exact ⟨this.1,this.2.1,Nat.le_trans this.2.2.1 h.len,by have:=this.2.2.2;have:=h.len;omega⟩
theorem Inv.set {n:Nat} {m:MM} (h:Inv n m) {k v:ByteArray} (hk:k.size≠0) (hv:v.size≤2000000):Inv (n+1) (putM m k v):=by
 refine ⟨fun p hp=>?_,fun p hp=>?_,?_,?_⟩
 ·rcases qsm hp with rfl | hp
  ·exact hk
  ·exact h.key p hp
 ·rcases qsm hp with rfl | hp
  ·exact hv
  ·exact h.val p hp
 ·have hn:∀ x:ByteArray × ByteArray,∀ m:MM,(noDig (insM x m)).length≤(noDig m).length+1:=by
   intro x m
   induction m with
   | nil=>unfold insM noDig;rw [List.filter_cons];split <;> simp
   | cons y r ih =>
    unfold insM
    cases befM x.1 y.1 with
    | true =>
     simp only [cond_true,noDig,List.filter_cons]
     split <;> simp
    | false =>
     simp only [noDig] at ih
     simp only [cond_false,noDig,List.filter_cons]
     split
     ·simp only [List.length_cons];omega
     ·omega
  have h1:=hn (k,v) (m.filter fun p=>!(p.1.data.toList==k.data.toList))
  have h2:(noDig (m.filter fun p=>!(p.1.data.toList==k.data.toList))).length≤(noDig m).length:=by
   unfold noDig
   exact (List.Sublist.filter _ List.filter_sublist).length_le
  have h3:=h.len
  unfold putM
  omega
 ·have:=qsk m k v
  have:=h.all
  omega
theorem Inv.mono {n k:Nat} {m:MM} (h:Inv n m) (hk:n≤k):Inv k m:=⟨h.key,h.val,Nat.le_trans h.len hk,Nat.le_trans h.all (by omega)⟩
theorem Inv.nil:Inv 0 []:=⟨(fun p hp=>by cases hp),(fun p hp=>by cases hp),Nat.le_refl _,Nat.zero_le _⟩
def matL (p:Int) (tx:ByteArray) (m:MM):List ByteArray→Bool × MM
 | []=>(false,m)
 | s::l=>if (matchR p tx s).1.2.2.1=0∧(matchR p tx s).1.1=true then (true,if p=3 then putP (matchR p tx s).2 0 (noDig m) else m) else matL p tx m l
theorem qrh:∀ (l:List El) (T:List UInt8),∀ x∈pieces l T,x.length≤T.length
 | [],_=>by simp [pieces]
 | e::l,T=>by
  intro x hx
  rw [pieces] at hx
  split at hx
  ·rcases List.mem_cons.1 hx with rfl | hx
   ·simp;omega
   ·have:=qrh l _ x hx;simp at this;omega
  ·split at hx
   ·rcases List.mem_cons.1 hx with rfl | hx
    ·simp;omega
    ·have:=qrh l _ x hx;simp at this;omega
   ·have:=qrh l _ x hx;simp at this;omega
theorem qni (k:Int) (p t:ByteArray):(matchR k p t).1.2.1=(matchR k p t).2.length∧(matchR k p t).2.length≤1000∧∀ v∈(matchR k p t).2,v.size≤2000000:=by
 unfold matchR
 split
 ·exact ⟨rfl,by simp,fun v hv=>by cases hv⟩
 ·rename_i hf
  split
  ·exact ⟨rfl,by simp,fun v hv=>by cases hv⟩
  ·rename_i ht
   have hp:p.size≤200:=by
    have hf:faultP k p=(0,0):=by simpa using hf
    unfold faultP at hf
    split at hf
    ·cases hf
    ·split at hf
     ·cases hf
     ·omega
   unfold matchedR
   split
   ·exact ⟨rfl,by simp,fun v hv=>by cases hv⟩
   ·split
    ·exact ⟨rfl,by simp,fun v hv=>by cases hv⟩
    ·unfold wildR
     split
     ·refine ⟨rfl,?_,fun v hv=>?_⟩
      ·have h1:=qrg (elems2 (L p)) (L t)
       have h2:=q9c (L p)
       have h3:=L_len p
       simp
       omega
      ·obtain ⟨x,hx,rfl⟩:=List.mem_map.1 hv
       have:=qrh _ _ x hx
       have h3:=L_len t
       show x.toArray.size≤_
       rw [List.size_toArray]
       omega
     ·exact ⟨rfl,by simp,fun v hv=>by cases hv⟩
theorem qnh {n:Nat} {m:MM} (h:Inv n m) (p:Int) (tx:ByteArray):∀ l:List ByteArray,Inv n (matL p tx m l).2
 | []=>h
 | s::l=>by
  rw [matL]
  obtain ⟨_,h2,h3⟩:=qni p tx s
  split
  ·split
   ·exact h.pieces h3 h2
   ·exact h
  ·exact qnh h p tx l
end Go.Proofs.YtokahibbkdbndaaGreatDoor
namespace Go.Proofs.YtokahibbkdbndaaGreatDoor
open Go.RowKit
def tOf (r:S50):S48:=⟨r.Test_Kind,r.Test_Tests,r.Test_Name,r.Test_Pattern,r.Test_Text,r.Test_N⟩
def okvT (t:S48):Prop:=∃ d,tfT t d=0
def okvL (l:List S50):Prop:=∃ n d m,n≤100∧ckL l n d=.inr m
theorem q111 {d:Nat}:∀ {ts:List S48},tfL ts d=0→∀ t∈ts,tfT t d=0
 | [],_,t,h=>by cases h
 | x::ts,h0,t,h=>by
  unfold tfL at h0
  split at h0
  ·rename_i hne;exact absurd h0 hne
  ·rename_i hx
   rcases List.mem_cons.1 h with rfl | h
   ·simpa using hx
   ·exact q111 h0 t h
theorem qpf {t:S48} (h:okvT t) {t':S48} (ht:t'∈t.Tests):okvT t':=by
 obtain ⟨d,h⟩:=h
 rw [tfT_eq] at h
 split at h
 ·rename_i hne;exact absurd h hne
 ·exact ⟨d+1,q111 h t' ht⟩
theorem qpg {t:S48} (h:okvT t):(1≤t.Kind∧t.Kind≤9)∧innerB t.Kind t.Tests.length=true:=by
 obtain ⟨d,h⟩:=h
 rw [tfT_eq] at h
 split at h
 ·rename_i hne;exact absurd h hne
 ·rename_i h0
  have h0:tHead t.Kind t.Tests.length t.Name t.Pattern t.Text t.N d=0:=by simpa using h0
  unfold tHead at h0
  split at h0
  ·cases h0
  split at h0
  ·cases h0
  rename_i h2
  split at h0
  ·cases h0
  rename_i h3
  simp only [Bool.or_eq_true,decide_eq_true_eq,not_or] at h2
  exact ⟨by omega,by simpa using h3⟩
theorem okvR {l:List S50} (h:okvL l) {r:S50} (hr:r∈l):rHead r=0∧okvL r.Then∧okvL r.Else:=by
 obtain ⟨n,d,m,hn,hc⟩:=h
 induction l generalizing n with
 | nil=>cases hr
 | cons x l ih =>
  unfold ckL at hc
  split at hc
  ·cases hc
  rename_i h100
  split at hc
  ·cases hc
  rename_i hrc
  cases hq:ckR x n d with
  | inl f=>rw [hq] at hc;cases hc
  | inr n2 =>
   rw [hq] at hc
   have hn2:n2≤100:=by
    have:=(ck_sz (szL [x]) [x] rfl n d hn).1 n2 (by simp only [ckL];rw [if_neg h100,if_neg hrc,hq])
    exact this.2
   rcases List.mem_cons.1 hr with rfl | hr
   ·have h0:rc r d=0:=by simpa using hrc
    refine ⟨?_,?_⟩
    ·unfold rc at h0
     split at h0
     ·cases h0
     ·exact h0
    ·rw [ckR_eq] at hq
     cases ht:ckL r.Then (n+1) (d+1) with
     | inl f=>rw [ht] at hq;cases hq
     | inr n1 =>
      rw [ht] at hq
      exact ⟨⟨n+1,d+1,n1,by omega,ht⟩,⟨n1,d+1,n2,(ck_inr (by omega) ht).2,hq⟩⟩
   ·exact ih hr n2 hn2 hc
theorem qpe {r:S50} (h:rHead r=0) (hk:(r.Kind==1)=true):okvT (tOf r):=by
 unfold rHead at h
 split at h
 ·cases h
 split at h
 ·cases h
 ·exact ⟨1,h⟩
theorem qph {t:S48} (h:okvT t):t.Text.size≤200∧t.Name.size≤60:=by
 obtain ⟨d,h⟩:=h
 rw [tfT_eq] at h
 split at h
 ·rename_i hne;exact absurd h hne
 ·rename_i h0
  have h0:tHead t.Kind t.Tests.length t.Name t.Pattern t.Text t.N d=0:=by simpa using h0
  unfold tHead at h0
  split at h0
  ·cases h0
  split at h0
  ·cases h0
  split at h0
  ·cases h0
  split at h0
  ·cases h0
  rename_i h4
  split at h0
  ·cases h0
  rename_i h5
  split at h0
  ·cases h0
  split at h0
  ·cases h0
  rename_i h7
  have h7:¬ (t.Text.size:Int) > 200:=by simpa using h7
  refine ⟨by omega,?_⟩
  cases hk:(t.Kind==5||t.Kind==9) with
  | true =>
   rw [hk] at h5
   have h5:¬ (em t.Name=true∨(t.Name.size:Int) > 60):=by simpa using h5
   omega
  | false =>
   rw [hk] at h4
   have he:em t.Name=true:=by
    cases he:em t.Name with
    | true=>rfl
    | false=>rw [he] at h4;simp at h4
   rw [q9h] at he
   have:=of_decide_eq_true he
   omega
theorem qtd {r:S50} (h:rHead r=0):(1≤r.Kind∧r.Kind≤4)∧(r.Kind≠1→r.Text.size≤200)∧(r.Kind=3→varB r.Name=true)∧(r.Kind≠1→r.Then=[]∧r.Else=[]):=by
 unfold rHead at h
 split at h
 ·cases h
 rename_i hk
 have hk:¬ (r.Kind<1∨r.Kind > 4):=by simpa using hk
 refine ⟨by omega,?_⟩
 split at h
 ·rename_i h1
  have h1:r.Kind=1:=by simpa using h1
  exact ⟨fun h=>absurd h1 h,fun h=>by omega,fun h=>absurd h1 h⟩
 ·unfold pHead at h
  split at h
  ·cases h
  rename_i h0
  split at h
  ·cases h
  split at h
  ·cases h
  split at h
  ·cases h
  rename_i h4
  split at h
  ·cases h
  rename_i h5
  have h5:¬ (r.Text.size:Int) > 200:=by simpa using h5
  refine ⟨fun _=>by omega,fun h3=>?_,fun _=>?_⟩
  ·rw [h3] at h4
   simpa using h4
  ·simp only [Bool.or_eq_true,not_or] at h0
   have:=h0.1.1.1.2
   simp at this
   exact this
theorem eta_T (t:S48):(⟨t.Kind,t.Tests,t.Name,t.Pattern,t.Text,t.N⟩:S48)=t:=by cases t;rfl
mutual
def tsz:S50→Nat
 | ⟨_,k,ts,nm,p,tx,n,t,e,_,_,_,_⟩=>tzT ⟨k,ts,nm,p,tx,n⟩+tszL t+tszL e
def tszL:List S50→Nat
 | []=>0
 | r::l=>tsz r+tszL l
end
theorem tsz_eq (r:S50):tsz r=tzT (tOf r)+tszL r.Then+tszL r.Else:=by cases r;rfl
end Go.Proofs.YtokahibbkdbndaaGreatDoor
namespace Go.Proofs.YtokahibbkdbndaaGreatDoor
open Go.RowKit
section
variable (f:ByteArray) (rc:List S118) (fs:List S55) (sz:Int)
mutual
def tsT:S48→MM→Bool × MM
 | ⟨k,ts,nm,p,tx,n⟩,m =>
  if k=2 then tsH ts m else if k=3∨k=4 then tsA k ts m else if k=5 then matL p tx m (valsL fs nm) else if k=6 then matL p tx m [f] else if k=7 then matL p tx m (rc.map fun x=>x.Address)
  else if k=8 then (decide (sz > n),m) else if k=9 then (decide (((valsL fs nm).length:Int) > 0),m) else (true,m)
def tsH:List S48→MM→Bool × MM
 | [],m=>(true,m)
 | t::_,m=>(!(tsT t m).1,(tsT t m).2)
def tsA (k:Int):List S48→MM→Bool × MM
 | [],m=>(k==3,m)
 | t::l,m=>if (tsT t m).1=(k==4) then (k==4,(tsT t m).2) else tsA k l (tsT t m).2
end
theorem tsT_eq (t:S48) (m:MM):tsT f rc fs sz t m=if t.Kind=2 then tsH f rc fs sz t.Tests m else if t.Kind=3∨t.Kind=4 then tsA f rc fs sz t.Kind t.Tests m else if t.Kind=5 then matL t.Pattern t.Text m (valsL fs t.Name) else if t.Kind=6 then matL t.Pattern t.Text m [f] else if t.Kind=7 then matL t.Pattern t.Text m (rc.map fun x=>x.Address)
  else if t.Kind=8 then (decide (sz > t.N),m) else if t.Kind=9 then (decide (((valsL fs t.Name).length:Int) > 0),m) else (true,m):=by cases t;rw [tsT]
mutual
theorem q11c (n:Nat):∀ (t:S48) (m:MM),Inv n m→Inv n (tsT f rc fs sz t m).2
 | ⟨k,ts,nm,p,tx,q⟩,m,h=>by
  rw [tsT]
  split
  ·exact q11b n ts m h
  ·split
   ·exact q11a n k ts m h
   ·split
    ·exact qnh h _ _ _
    ·split
     ·exact qnh h _ _ _
     ·split
      ·exact qnh h _ _ _
      ·split
       ·exact h
       ·split
        ·exact h
        ·exact h
theorem q11b (n:Nat):∀ (ts:List S48) (m:MM),Inv n m→Inv n (tsH f rc fs sz ts m).2
 | [],m,h=>by rw [tsH];exact h
 | t::_,m,h=>by rw [tsH];exact q11c n t m h
theorem q11a (n:Nat) (k:Int):∀ (ts:List S48) (m:MM),Inv n m→Inv n (tsA f rc fs sz k ts m).2
 | [],m,h=>by rw [tsA];exact h
 | t::l,m,h=>by
  rw [tsA]
  split
  ·exact q11c n t m h
  ·exact q11a n k l _ (q11c n t m h)
end
end
end Go.Proofs.YtokahibbkdbndaaGreatDoor
namespace Go.Proofs.YtokahibbkdbndaaGreatDoor
open Go.RowKit
def exF (l:MM):Nat→List UInt8→List UInt8→List UInt8
 | 0,_,out=>out
 | n+1,s,out =>
  if (Lib.cut s [36,123]).2.2=false∨(Lib.cut (Lib.cut s [36,123]).2.1 [125]).2.2=false then out++s
  else exF l n (Lib.cut (Lib.cut s [36,123]).2.1 [125]).2.1 (out++((Lib.cut s [36,123]).1++getM l (Lib.cut (Lib.cut s [36,123]).2.1 [125]).1))
def exT (m:MM) (s:ByteArray):ByteArray:=⟨((exF m (s.size+1) s.data.toList []).take 4000).toArray⟩
theorem qim {l:MM} (k:List UInt8) (h:∀ p∈l,p.2.size≤2000000):(getM l k).length≤2000000:=by
 unfold getM
 cases hf:l.find? fun p=>p.1.data.toList==k with
 | none=>simp
 | some p =>
  have:=h p (List.mem_of_find?_eq_some hf)
  show p.2.data.toList.length≤2000000
  rw [Array.length_toList]
  exact this
theorem expF_s {l:MM} (h:∀ p∈l,p.2.size≤2000000):∀ (n:Nat) (s out:List UInt8),s.length<n→s.length≤1000→out.length+s.length * 3000000≤100000000000000→expF l n s out=some (exF l n s out):=by
 intro n
 induction n with
 | zero=>intro s out h;omega
 | succ n ih =>
  intro s out hn hs ho
  rw [expF,exF]
  split
  ·rw [if_pos (by omega)]
  ·rename_i hc
   have h1:(Lib.cut s [36,123]).2.2=true:=by
    cases hh:(Lib.cut s [36,123]).2.2 with
    | true=>rfl
    | false=>exact absurd (.inl hh) hc
   have h2:(Lib.cut (Lib.cut s [36,123]).2.1 [125]).2.2=true:=by
    cases hh:(Lib.cut (Lib.cut s [36,123]).2.1 [125]).2.2 with
    | true=>rfl
    | false=>exact absurd (.inr hh) hc
   have c1:=q8i s [36,123] h1
   have c2:=q8i (Lib.cut s [36,123]).2.1 [125] h2
   have hv:=qim (Lib.cut (Lib.cut s [36,123]).2.1 [125]).1 h
   simp only [List.length_cons,List.length_nil] at c1 c2
   rw [if_pos (by omega)]
   refine ih _ _ (by omega) (by omega) ?_
   simp only [List.length_append]
   omega
theorem expP_s {l:MM} (h:∀ p∈l,p.2.size≤2000000) (s:ByteArray) (hs:s.size≤1000):expP l s=some (exT l s):=by
 have e:s.data.toList.length=s.size:=by rw [Array.length_toList];rfl
 unfold expP exT
 rw [if_pos (by omega),expF_s h (s.size+1) s.data.toList [] (by omega) (by omega) (by simp;omega)]
 rfl
theorem qef (m:MM) (s:ByteArray):(exT m s).size≤4000:=by
 show ((exF m (s.size+1) s.data.toList []).take 4000).toArray.size≤4000
 rw [List.size_toArray,List.length_take]
 omega
def noTx:ByteArray:=ByteArray.mk (List.toArray [])
section
variable (f:ByteArray) (rc:List S118) (fs:List S55) (sz:Int)
mutual
def exR:S50→Int→MM→List S45→List S62→Bool × MM × List S45 × List S62
 | ⟨kd,k,ts,nm,p,tx,n,t,e,ak,name,text,q⟩,i,m,a,st =>
  if kd=1 then (if (tsT f rc fs sz ⟨k,ts,nm,p,tx,n⟩ m).1=true then exL t (i+1) (tsT f rc fs sz ⟨k,ts,nm,p,tx,n⟩ m).2 a (st++[⟨i,true,noTx⟩]) else exL e (i+1+szL t) (tsT f rc fs sz ⟨k,ts,nm,p,tx,n⟩ m).2 a (st++[⟨i,false,noTx⟩]))
  else if kd=2 then (true,m,a++[⟨ak,exT m text,q⟩],st++[⟨i,false,exT m text⟩])
  else if kd=3 then (true,putM m name (exT m text),a,st++[⟨i,false,exT m text⟩])
  else (false,m,a,st++[⟨i,false,noTx⟩])
def exL:List S50→Int→MM→List S45→List S62→Bool × MM × List S45 × List S62
 | [],_,m,a,st=>(true,m,a,st)
 | r::l,i,m,a,st=>if (exR r i m a st).1=true then exL l (i+szR r) (exR r i m a st).2.1 (exR r i m a st).2.2.1 (exR r i m a st).2.2.2 else exR r i m a st
end
theorem exR_eq (r:S50) (i:Int) (m:MM) (a:List S45) (st:List S62):exR f rc fs sz r i m a st=if r.Kind=1 then (if (tsT f rc fs sz (tOf r) m).1=true then exL f rc fs sz r.Then (i+1) (tsT f rc fs sz (tOf r) m).2 a (st++[⟨i,true,noTx⟩]) else exL f rc fs sz r.Else (i+1+szL r.Then) (tsT f rc fs sz (tOf r) m).2 a (st++[⟨i,false,noTx⟩]))
  else if r.Kind=2 then (true,m,a++[⟨r.Act,exT m r.Text,r.N⟩],st++[⟨i,false,exT m r.Text⟩])
  else if r.Kind=3 then (true,putM m r.Name (exT m r.Text),a,st++[⟨i,false,exT m r.Text⟩])
  else (false,m,a,st++[⟨i,false,noTx⟩]):=by cases r;rw [exR];rfl
def exP (n:Nat) (a:List S45) (st:List S62) (q:Nat) (u:Bool × MM × List S45 × List S62):Prop:=Inv (n+q) u.2.1∧u.2.2.1.length≤a.length+q∧u.2.2.2.length≤st.length+q
theorem qed:∀ (q:Nat) (s:List S50),szL s=q→okvL s→∀ (n:Nat) (i:Int) (m:MM) (a:List S45) (st:List S62),Inv n m→exP n a st q (exL f rc fs sz s i m a st):=by
 intro q
 induction q using Nat.strongRecOn with
 | _ q ihq =>
  intro s
  induction s with
  | nil =>
   intro hq hv n i m a st hI
   rw [exL]
   have:q=0:=by simpa [szL] using hq.symm
   subst this
   exact ⟨hI,Nat.le_refl _,Nat.le_refl _⟩
  | cons r l ihl =>
   intro hq hv n i m a st hI
   have hsz:szR r+szL l=q:=by simpa [szL] using hq
   have hr:=szR_eq r
   obtain ⟨hh,hvt,hve⟩:=okvR hv (List.mem_cons_self ..)
   have hvl:okvL l:=by
    obtain ⟨n0,d0,m0,hn0,hc0⟩:=hv
    unfold ckL at hc0
    split at hc0
    ·cases hc0
    rename_i h100
    split at hc0
    ·cases hc0
    rename_i hrc
    cases hq:ckR r n0 d0 with
    | inl g=>rw [hq] at hc0;cases hc0
    | inr n2 =>
     rw [hq] at hc0
     have:=(ck_sz (szL [r]) [r] rfl n0 d0 hn0).1 n2 (by simp only [ckL];rw [if_neg h100,if_neg hrc,hq])
     exact ⟨n2,d0,m0,this.2,hc0⟩
   obtain ⟨hk,htx,hvar,_⟩:=qtd hh
   have h1:exP n a st (szR r) (exR f rc fs sz r i m a st):=by
    rw [exR_eq]
    split
    ·rename_i hk1
     have hI2:=q11c f rc fs sz n (tOf r) m hI
     split
     ·obtain ⟨g1,g2,g3⟩:=ihq (szL r.Then) (by omega) r.Then rfl hvt n (i+1) _ a (st++[⟨i,true,noTx⟩]) hI2
      simp only [List.length_append,List.length_singleton] at g3
      exact ⟨g1.mono (by omega),by omega,by omega⟩
     ·obtain ⟨g1,g2,g3⟩:=ihq (szL r.Else) (by omega) r.Else rfl hve n (i+1+szL r.Then) _ a (st++[⟨i,false,noTx⟩]) hI2
      simp only [List.length_append,List.length_singleton] at g3
      exact ⟨g1.mono (by omega),by omega,by omega⟩
    ·split
     ·exact ⟨hI.mono (by omega),by simp;omega,by simp;omega⟩
     ·split
      ·rename_i hk3
       have hvb:=hvar hk3
       have hne:r.Name.size≠0:=by
        unfold varB at hvb
        simp at hvb
        omega
       have:=hI.set (k:=r.Name) (v:=exT m r.Text) hne (by have:=qef m r.Text;omega)
       exact ⟨this.mono (by omega),by simp,by simp;omega⟩
      ·exact ⟨hI.mono (by omega),by simp,by simp;omega⟩
   rw [exL]
   obtain ⟨g1,g2,g3⟩:=h1
   split
   ·obtain ⟨k1,k2,k3⟩:exP (n+szR r) (exR f rc fs sz r i m a st).2.2.1 (exR f rc fs sz r i m a st).2.2.2 (szL l) (exL f rc fs sz l (i+szR r) (exR f rc fs sz r i m a st).2.1 (exR f rc fs sz r i m a st).2.2.1 (exR f rc fs sz r i m a st).2.2.2):=by
     exact ihq (szL l) (by omega) l rfl hvl (n+szR r) _ _ _ _ g1
    exact ⟨k1.mono (by omega),by omega,by omega⟩
   ·exact ⟨g1.mono (by omega),by omega,by omega⟩
end
end Go.Proofs.YtokahibbkdbndaaGreatDoor
namespace Go.Proofs.YtokahibbkdbndaaGreatDoor
open Go.RowKit
def dB (k:Int):Bool:=k != 6&&k != 7
theorem q8t (l:List S45) (hl:l.length≤big):∀ m k,k+m=l.length→∃ x,qc2 l l.length k=some x∧Sum.elim (fun r=>r.1) (fun _=>false) x=(l.drop k).any fun a=>dB a.Kind:=by
 intro m
 induction m with
 | zero =>
  intro k hk
  have hk:k=l.length:=by omega
  subst hk
  refine ⟨.inr ((l,((l.length:Int),((l.length:Int),false))),()),qc4 (by
   simp only [qc9,brE_if,gdE_if,EC.decL_encL,EC.isL_encL,EC.encL_length,isE_45,q3u]
   simp),?_⟩
  rw [List.drop_length];rfl
 | succ m ihm =>
  intro k hk
  have hlt:k<l.length:=by omega
  have e1:decide ((k:Int)<(l.length:Int))=true:=by simp;omega
  have e0:decide ((0:Int)≤(k:Int))=true:=by simp
  have e2:IntKind.i64.wrap ((k:Int)+1)=((k+1:Nat):Int):=wr_nat hlt (by unfold big at hl;omega)
  have hd2:decide (k<l.length)=true:=by simp [hlt]
  obtain ⟨x,h1,h2⟩:=ihm (k+1) (by omega)
  rw [q97 hlt,List.any_cons,dB]
  cases h6:(l[k].Kind != 6) with
  | false =>
   refine ⟨x,qc4 ?_,by rw [Bool.false_and,Bool.false_or];exact h2⟩
   simp only [qc9,brE_if,gdE_if,EC.decL_encL,EC.isL_encL,EC.encL_length,isE_45,q3u,e1,e0,if_true,Int.toNat_natCast,hd2,Bool.and_self,qik hlt,h6,Bool.false_eq_true,if_false,e2,show (false==true)=false from rfl]
   exact h1
  | true =>
  cases h7:(l[k].Kind != 7) with
  | false =>
   refine ⟨x,qc4 ?_,by rw [Bool.true_and,Bool.false_or];exact h2⟩
   simp only [qc9,brE_if,gdE_if,EC.decL_encL,EC.isL_encL,EC.encL_length,isE_45,q3u,e1,e0,if_true,Int.toNat_natCast,hd2,Bool.and_self,qik hlt,h6,h7,Bool.false_eq_true,if_false,e2,beq_self_eq_true]
   exact h1
  | true =>
   refine ⟨.inl (true,()),qc4 ?_,rfl⟩
   simp only [qc9,brE_if,gdE_if,EC.decL_encL,EC.isL_encL,EC.encL_length,isE_45,q3u,e1,e0,if_true,Int.toNat_natCast,hd2,Bool.and_self,qik hlt,h6,h7,beq_self_eq_true]
theorem q8x (l:List S45) (hl:l.length≤big):qca l=some (l.any fun a=>dB a.Kind):=by
 obtain ⟨x,h1,h2⟩:=q8t l hl l.length 0 (by omega)
 have h1:qc2 l l.length 0=some x:=h1
 rw [List.drop_zero] at h2
 refine qc1 ?_
 simp only [qcb,gdE_if,EC.decL_encL,EC.isL_encL,EC.encL_length,if_true,h1,Option.bind_some,← h2]
 rcases x with x | x <;> rfl
def finA (a:List S45):List S45:=if (a.any fun x=>dB x.Kind)=true then a else a++[⟨1,noTx,0⟩]
structure MOk (s:List S50) (f:ByteArray) (rc:List S118) (bd:List Int):Prop where
 len:s.length≤big
 ok:okL s
 fr:f.size≤2000000
 rl:rc.length≤2000000
 ad:∀ x∈rc,x.Address.size≤2000000
 bl:bd.length≤2000000
noncomputable def envF (f:ByteArray) (rc:List S118) (e:ByteArray):Int × Int:=(qbd f rc e).getD (0,0)
noncomputable def msgF (fs:List S55) (bd:List Int):(Nat × (Int × Int)) × List Int:=(qnv fs bd).getD ((0,(0,0)),[])
theorem envF_s {s:List S50} {f:ByteArray} {rc:List S118} {bd:List Int} (h:MOk s f rc bd) (e:ByteArray):qbd f rc e=some (envF f rc e)∧((envF f rc e).1=0→envB f rc):=by
 obtain ⟨r,e1,h1⟩:=env_ok f rc e h.fr h.rl h.ad
 unfold envF
 rw [e1]
 exact ⟨rfl,h1⟩
theorem msgF_s (fs:List S55) {bd:List Int} (h:bd.length≤2000000):qnv fs bd=some (msgF fs bd)∧((msgF fs bd).1.2.1=0→HdrOk fs)∧(msgF fs bd).1.1=(msgF fs bd).2.length:=by
 obtain ⟨r,e1,h1,h2⟩:=qoq fs bd h
 unfold msgF
 rw [e1]
 exact ⟨rfl,h1,h2⟩
noncomputable def runF (s:List S50) (f:ByteArray) (rc:List S118) (e:ByteArray) (fs:List S55) (bd:List Int):Int × Int :=
 if (scriptF s).1≠0 then scriptF s else if (envF f rc e).1≠0 then ((envF f rc e).1,-3) else if (msgF fs bd).1.2.1≠0 then ((msgF fs bd).1.2.1,-2) else (0,0)
noncomputable def theRun (s:List S50) (f:ByteArray) (rc:List S118) (fs:List S55) (bd:List Int):Bool × MM × List S45 × List S62:=exL f rc fs (((msgF fs bd).1.1:Nat):Int) s 0 [] [] []
noncomputable def runA (s:List S50) (f:ByteArray) (rc:List S118) (e:ByteArray) (fs:List S55) (bd:List Int):List S45:=if (runF s f rc e fs bd).1≠0 then [] else finA (theRun s f rc fs bd).2.2.1
theorem runF_0 {s:List S50} {f:ByteArray} {rc:List S118} {e:ByteArray} {fs:List S55} {bd:List Int} (h:(runF s f rc e fs bd).1=0):(scriptF s).1=0∧(envF f rc e).1=0∧(msgF fs bd).1.2.1=0:=by
 unfold runF at h
 split at h
 ·rename_i h0;exact absurd h h0
 ·rename_i h0
  split at h
  ·rename_i h1;exact absurd h h1
  ·rename_i h1
   split at h
   ·rename_i h2;exact absurd h h2
   ·rename_i h2
    exact ⟨by simpa using h0,by simpa using h1,by simpa using h2⟩
theorem val_ok {s:List S50} (h:(scriptF s).1=0):okvL s∧szL s≤100:=by
 obtain ⟨m,m1,m2,m3⟩:=qx9 h
 exact ⟨⟨0,1,m,by omega,m1⟩,m3⟩
theorem q113 {s:List S50} (f:ByteArray) (rc:List S118) (fs:List S55) (bd:List Int) (h:(scriptF s).1=0):exP 0 [] [] (szL s) (theRun s f rc fs bd):=qed f rc fs _ (szL s) s rfl (val_ok h).1 0 0 [] [] [] Inv.nil
end Go.Proofs.YtokahibbkdbndaaGreatDoor
namespace Go.Proofs.YtokahibbkdbndaaGreatDoor
open Go.RowKit
section
variable (f:ByteArray) (rc:List S118) (i:ByteArray) (fs:List S55) (bd:List Int) (sz:Int) (na:Nat) (ac:List S45) (ns:Nat) (st:List S62)
theorem q12f (ps:List ByteArray) (hp:ps.length≤1000) (hv:∀ v∈ps,v.size≤2000000):∀ (m k:Nat) (mm:MM),k+m=ps.length→mm.length+m≤100000000→qdg ps.length ps.length k f rc i fs bd sz na ps mm ns ac st=some (((),(ps.length,((ps.length:Int),((ps.length:Int),false)))),((f,(rc,(i,(fs,(bd,(sz,((),(na,())))))))),(ps,(putP (ps.drop k) k mm,(ns,(ac,st)))))):=by
 intro m
 induction m with
 | zero =>
  intro k mm hk hs
  have hk:k=ps.length:=by omega
  subst hk
  refine qdi ?_
  rw [List.drop_length,putP]
  simp only [qdm,brE_if,gdE_if,EC.decL_encL,EC.isL_encL,EC.encL_length,at_9_0]
  simp
 | succ m ih =>
  intro k mm hk hs
  have hlt:k<ps.length:=by omega
  have e1:decide ((k:Int)<(ps.length:Int))=true:=by simp;omega
  have e0:decide ((0:Int)≤(k:Int))=true:=by simp
  have e2:IntKind.i64.wrap ((k:Int)+1)=((k+1:Nat):Int):=wr_nat hlt (by omega)
  have e3:decide (k<ps.length)=true:=by simp [hlt]
  have hi:itoaP ((k+1:Nat):Int)=some (itB ((k+1:Nat):Int)):=by unfold itoaP;rw [if_pos (by omega)];rfl
  have g1:decide ((itB ((k+1:Nat):Int)).size≤maxLen)=true:=decide_eq_true (by have:=qln (k+1);unfold maxLen;omega)
  have g2:decide (ps[k].size≤maxLen)=true:=decide_eq_true (by have:=hv _ (List.getElem_mem hlt);unfold maxLen;omega)
  have g3:decide (mm.length<maxLen)=true:=decide_eq_true (by unfold maxLen;omega)
  refine qdi ?_
  rw [q97 hlt,putP]
  simp only [qdm,brE_if,gdE_if,EC.decL_encL,EC.isL_encL,EC.encL_length,at_9_0,e1,e0,e3,if_true,Int.toNat_natCast,Bool.and_self,len_9 ps k hlt,qll ps k hlt,qik hlt,beq_self_eq_true,e2,hi,Option.bind_some,g1,g2,g3]
  exact ih (k+1) _ (by omega) (by have:=qsk mm (itB ((k+1:Nat):Int)) ps[k];omega)
theorem q12c (t:S48) (ht:t.Text.size≤2000000) (l:List ByteArray) (hl:l.length≤2000000) (hv:∀ v∈l,v.size≤2000000) (n:Nat) (hn:n≤1000000) (mm:MM) (hm:Inv n mm):∀ (m k:Nat),k+m=l.length→∃ x,qd8 l.length l.length k f rc i fs bd sz na t.Kind t.Tests t.Name t.Pattern t.Text t.N l mm ns ac st=some x ∧
  Sum.elim (fun r=>(r.1,(r.1,r.2))) (fun r=>(false,(false,(r.2.1,(r.2.2.2.2.1,r.2.2.2.2.2))))) x=((matL t.Pattern t.Text mm (l.drop k)).1,((matL t.Pattern t.Text mm (l.drop k)).1,((f,(rc,(i,(fs,(bd,(sz,((),(na,())))))))),((matL t.Pattern t.Text mm (l.drop k)).2,(ns,(ac,st)))))):=by
 intro m
 induction m with
 | zero =>
  intro k hk
  have hk:k=l.length:=by omega
  subst hk
  refine ⟨.inr (((),((),(l.length,((l.length:Int),((l.length:Int),false))))),((f,(rc,(i,(fs,(bd,(sz,((),(na,())))))))),((t.Kind,(t.Tests,(t.Name,(t.Pattern,(t.Text,t.N))))),(l,(mm,(ns,(ac,st))))))),qda (by
   simp only [qdf,brE_if,gdE_if,EC.decL_encL,EC.isL_encL,EC.encL_length,at_9_0]
   simp),?_⟩
  rw [List.drop_length];rfl
 | succ m ih =>
  intro k hk
  have hlt:k<l.length:=by omega
  have e1:decide ((k:Int)<(l.length:Int))=true:=by simp;omega
  have e0:decide ((0:Int)≤(k:Int))=true:=by simp
  have e2:IntKind.i64.wrap ((k:Int)+1)=((k+1:Nat):Int):=wr_nat hlt (by omega)
  have e3:decide (k<l.length)=true:=by simp [hlt]
  have hs:=hv _ (List.getElem_mem hlt)
  have hM:=qnj t.Pattern t.Text l[k] (by omega) (by omega)
  obtain ⟨p1,p2,p3⟩:=qni t.Pattern t.Text l[k]
  obtain ⟨x,h1,h2⟩:=ih (k+1) (by omega)
  rw [q97 hlt,matL]
  generalize matchR t.Pattern t.Text l[k]=r at hM p1 p2 p3
  cases hf:(r.1.2.2.1 != 0) with
  | true =>
   have hf':¬ (r.1.2.2.1=0∧r.1.1=true):=fun h=>by rw [h.1] at hf;cases hf
   rw [if_neg hf']
   refine ⟨x,qda ?_,h2⟩
   simp only [qdf,brE_if,gdE_if,EC.decL_encL,EC.isL_encL,EC.encL_length,at_9_0,e1,e0,e3,if_true,Int.toNat_natCast,Bool.and_self,len_9 l k hlt,qll l k hlt,qik hlt,beq_self_eq_true,e2,hM,Option.bind_some,qf3,hf,show (true==false)=false from rfl,Bool.false_eq_true,if_false]
   exact h1
  | false =>
   have hf0:r.1.2.2.1=0:=by simpa using hf
   cases hb:r.1.1 with
   | false =>
    rw [if_neg (by simp)]
    refine ⟨x,qda ?_,h2⟩
    simp only [qdf,brE_if,gdE_if,EC.decL_encL,EC.isL_encL,EC.encL_length,at_9_0,e1,e0,e3,if_true,Int.toNat_natCast,Bool.and_self,len_9 l k hlt,qll l k hlt,qik hlt,beq_self_eq_true,e2,hM,Option.bind_some,qf3,hf,hb,Bool.not_false]
    exact h1
   | true =>
    rw [if_pos ⟨hf0,rfl⟩]
    cases h3:(t.Pattern==3) with
    | false =>
     have h3':¬ t.Pattern=3:=by simpa using h3
     refine ⟨.inl (true,((f,(rc,(i,(fs,(bd,(sz,((),(na,())))))))),(mm,(ns,(ac,st))))),qda ?_,by rw [if_neg h3'];rfl⟩
     simp only [qdf,brE_if,gdE_if,EC.decL_encL,EC.isL_encL,EC.encL_length,at_9_0,e1,e0,e3,if_true,Int.toNat_natCast,Bool.and_self,len_9 l k hlt,qll l k hlt,qik hlt,beq_self_eq_true,e2,hM,Option.bind_some,qf3,hf,hb,h3,Bool.not_true,Bool.false_eq_true,if_false]
    | true =>
     have h3':t.Pattern=3:=by simpa using h3
     have hd:delP mm=some (noDig mm):=by
      unfold delP
      rw [if_pos (List.all_eq_true.2 fun p hp=>decide_eq_true (hm.key p hp))]
      rfl
     have hln:=qp2 mm
     have hma:=hm.all
     have hpc:=q12f f rc i fs bd sz na ac ns st r.2 p2 p3 r.2.length 0 (noDig mm) (by omega) (by omega)
     rw [List.drop_zero] at hpc
     have hpc:qdg r.2.length r.2.length 0 f rc i fs bd sz na r.2 (noDig mm) ns ac st=_:=hpc
     refine ⟨.inl (true,((f,(rc,(i,(fs,(bd,(sz,((),(na,())))))))),(putP r.2 0 (noDig mm),(ns,(ac,st))))),qda ?_,by rw [if_pos h3'];rfl⟩
     simp only [qdf,brE_if,gdE_if,EC.decL_encL,EC.isL_encL,EC.encL_length,at_9_0,e1,e0,e3,if_true,Int.toNat_natCast,Bool.and_self,len_9 l k hlt,qll l k hlt,qik hlt,beq_self_eq_true,e2,hM,Option.bind_some,qf3,hf,hb,h3,Bool.not_true,Bool.false_eq_true,if_false,hd,p1,hpc]
theorem q12d (t:S48) (ht:t.Text.size≤2000000) (l:List ByteArray) (hl:l.length≤2000000) (hv:∀ v∈l,v.size≤2000000) (n:Nat) (hn:n≤1000000) (mm:MM) (hm:Inv n mm) :
  qd5 t.Kind t.Tests t.Name t.Pattern t.Text t.N l.length f rc i fs bd sz na l mm ns ac st=some ((matL t.Pattern t.Text mm l).1,((matL t.Pattern t.Text mm l).1,((f,(rc,(i,(fs,(bd,(sz,((),(na,())))))))),((matL t.Pattern t.Text mm l).2,(ns,(ac,st)))))):=by
 obtain ⟨x,h1,h2⟩:=q12c f rc i fs bd sz na ac ns st t ht l hl hv n hn mm hm l.length 0 (by omega)
 rw [List.drop_zero] at h2
 have h1:qd8 l.length l.length 0 f rc i fs bd sz na t.Kind t.Tests t.Name t.Pattern t.Text t.N l mm ns ac st=some x:=h1
 refine qd7 ?_
 simp only [qdq,gdE_if,EC.decL_encL,EC.isL_encL,if_true,h1,Option.bind_some]
 rcases x with x | x
 ·simp only [Sum.elim_inl] at h2 ⊢
  exact congrArg some h2
 ·simp only [Sum.elim_inr] at h2 ⊢
  exact congrArg some h2
theorem q12b (h:HdrOk fs) (n:ByteArray) (hn:n.size≤2000000) (mm:MM) :
  qcy n f rc i fs bd sz na mm ns ac st=some ((valsL fs n).length,((valsL fs n).length,(valsL fs n,((f,(rc,(i,(fs,(bd,(sz,((),(na,())))))))),(mm,(ns,(ac,st))))))):=by
 obtain ⟨r,e,h1,h2⟩:=get_s h n hn
 refine qd0 ?_
 simp only [qd4,gdE_if,EC.decL_encL,EC.isL_encL,if_true,e,Option.bind_some]
 rw [h2,h1]
end
end Go.Proofs.YtokahibbkdbndaaGreatDoor
