/- What a run of a script does, in plain words: variables, texts, matches. -/
import Derived.Test.YtokahibbkdbndaaGreatDoorZ26
namespace Go.Proofs.YtokahibbkdbndaaGreatDoor
open Go.RowKit
abbrev MM:=List (ByteArray × ByteArray)
def itB (n:Int):ByteArray:=⟨(Lib.itoa n).toArray⟩
def putP:List ByteArray→Nat→MM→MM
 |[],_,m=>m
 |v::vs,k,m=>putP vs (k+1) (putM m (itB ((k+1:Nat):Int)) v)
def noDig (m:MM):MM:=m.filter fun p=>!digP p.1
theorem decLen:∀ u:Nat,(Lib.decDigits u).length≤u+1:=by
 intro u
 induction u using Nat.strongRecOn with
 |_ u ih =>
  rw [Lib.decDigits]
  split
  ·simp
  ·have:=ih (u / 10) (by omega)
   simp only [List.length_append,List.length_singleton]
   omega
theorem qln (k:Nat):(itB (k:Int)).size≤k+1:=by
 have:=decLen k
 show (Lib.itoa (k:Int)).toArray.size≤_
 rw [List.size_toArray,Lib.itoa,if_neg (by omega)]
 simpa using this
theorem dec_ne (u:Nat):∃ b l,Lib.decDigits u=b::l∧48≤b.toNat∧b.toNat≤57:=by
 induction u using Nat.strongRecOn with
 |_ u ih =>
  rw [Lib.decDigits]
  split
  ·rename_i h
   refine ⟨_,[],rfl,?_⟩
   rw [UInt8.toNat_ofNat']
   omega
  ·obtain ⟨b,l,e,h⟩:=ih (u / 10) (by omega)
   exact ⟨b,l++[UInt8.ofNat (48+u % 10)],by rw [e];rfl,h⟩
theorem qlm (k:Nat):digP (itB (k:Int))=true∧(itB (k:Int)).size≠0:=by
 obtain ⟨b,l,e,h1,h2⟩:=dec_ne k
 have hi:Lib.itoa (k:Int)=b::l:=by rw [Lib.itoa,if_neg (by omega)];simpa using e
 constructor
 ·unfold digP
  have:(itB (k:Int)).data.toList=b::l:=hi
  rw [this]
  simp [h1,h2]
 ·show (Lib.itoa (k:Int)).toArray.size≠0
  rw [List.size_toArray,hi]
  simp
theorem ql7 (x q:ByteArray × ByteArray):∀ m:MM,q∈insM x m ↔ q=x∨q∈m
 |[]=>by simp [insM]
 |y::r=>by
  unfold insM
  cases befM x.1 y.1 with
  |true=>simp
  |false =>
   have:=ql7 x q r
   simp only [cond_false,List.mem_cons,this]
   constructor
   ·rintro (h|h|h)
    ·exact .inr (.inl h)
    ·exact .inl h
    ·exact .inr (.inr h)
   ·rintro (h|h|h)
    ·exact .inr (.inl h)
    ·exact .inl h
    ·exact .inr (.inr h)
theorem qsm {m:MM} {k v:ByteArray} {q:ByteArray × ByteArray} (h:q∈putM m k v):q=(k,v)∨q∈m:=by
 unfold putM at h
 rcases (ql7 _ _ _).1 h with h|h
 ·exact .inl h
 ·exact .inr (List.mem_filter.1 h).1
theorem qsk (m:MM) (k v:ByteArray):(putM m k v).length≤m.length+1:=by
 unfold putM
 rw [ql5]
 have:=List.length_filter_le (fun p:ByteArray × ByteArray=>!(p.1.data.toList==k.data.toList)) m
 omega
structure Inv (n:Nat) (m:MM):Prop where
 key:∀ p∈m,p.1.size≠0
 val:∀ p∈m,p.2.size≤2000000
 len:(noDig m).length≤n
 all:m.length≤n+1000
theorem ql8 {k v:ByteArray} (h:digP k=true):∀ m:MM,(noDig (insM (k,v) m))=noDig m
 |[]=>by simp [insM,noDig,h]
 |y::r=>by
  unfold insM
  cases befM (k,v).1 y.1 with
  |true=>simp [noDig,h]
  |false =>
   have:=ql8 (v:=v) h r
   simp only [noDig] at this
   simp only [cond_false,noDig,List.filter_cons,this]
theorem qp3 (m:MM) (k v:ByteArray) (h:digP k=true):(noDig (putM m k v)).length≤(noDig m).length:=by
 unfold putM
 rw [ql8 h]
 unfold noDig
 exact (List.Sublist.filter _ List.filter_sublist).length_le
theorem qp2 (m:MM):(noDig m).length≤m.length:=List.length_filter_le _ _
theorem qsn:∀ (vs:List ByteArray) (k:Nat) (m:MM),(∀ v∈vs,v.size≤2000000)→(∀ p∈m,p.1.size≠0)→(∀ p∈m,p.2.size≤2000000)→(∀ p∈putP vs k m,p.1.size≠0)∧(∀ p∈putP vs k m,p.2.size≤2000000)∧(noDig (putP vs k m)).length≤(noDig m).length∧(putP vs k m).length≤m.length+vs.length
 |[],k,m,_,h1,h2=>⟨h1,h2,Nat.le_refl _,Nat.le_refl _⟩
 |v::vs,k,m,hv,h1,h2=>by
  have hd:=qlm (k+1)
  have:=qsn vs (k+1) (putM m (itB ((k+1:Nat):Int)) v) (fun x hx=>hv x (List.mem_cons_of_mem _ hx)) (fun p hp=>by
   rcases qsm hp with rfl|hp
   ·exact hd.2
   ·exact h1 p hp) (fun p hp=>by
   rcases qsm hp with rfl|hp
   ·exact hv v (List.mem_cons_self ..)
   ·exact h2 p hp)
  have e1:=qp3 m (itB ((k+1:Nat):Int)) v hd.1
  have e2:=qsk m (itB ((k+1:Nat):Int)) v
  rw [putP]
  refine ⟨this.1,this.2.1,Nat.le_trans this.2.2.1 e1,?_⟩
  have:=this.2.2.2
  simp only [List.length_cons]
  omega
theorem Inv.pieces {n:Nat} {m:MM} (h:Inv n m) {vs:List ByteArray} (hv:∀ v∈vs,v.size≤2000000) (hl:vs.length≤1000):Inv n (putP vs 0 (noDig m)):=by
 have hm:∀ p∈noDig m,p∈m:=fun p hp=>(List.mem_filter.1 hp).1
 have:=qsn vs 0 (noDig m) hv (fun p hp=>h.key p (hm p hp)) (fun p hp=>h.val p (hm p hp))
 have hidem:noDig (noDig m)=noDig m:=by unfold noDig;rw [List.filter_filter];congr 1;funext p;simp
 rw [hidem] at this
 exact ⟨this.1,this.2.1,Nat.le_trans this.2.2.1 h.len,by have:=this.2.2.2;have:=h.len;omega⟩
theorem Inv.set {n:Nat} {m:MM} (h:Inv n m) {k v:ByteArray} (hk:k.size≠0) (hv:v.size≤2000000):Inv (n+1) (putM m k v):=by
 refine ⟨fun p hp=>?_,fun p hp=>?_,?_,?_⟩
 ·rcases qsm hp with rfl|hp
  ·exact hk
  ·exact h.key p hp
 ·rcases qsm hp with rfl|hp
  ·exact hv
  ·exact h.val p hp
 ·have hn:∀ x:ByteArray × ByteArray,∀ m:MM,(noDig (insM x m)).length≤(noDig m).length+1:=by
   intro x m
   induction m with
   |nil=>unfold insM noDig;rw [List.filter_cons];split <;> simp
   |cons y r ih =>
    unfold insM
    cases befM x.1 y.1 with
    |true =>
     simp only [cond_true,noDig,List.filter_cons]
     split <;> simp
    |false =>
     simp only [noDig] at ih
     simp only [cond_false,noDig,List.filter_cons]
     split
     ·simp only [List.length_cons];omega
     ·omega
  have h1:=hn (k,v) (m.filter fun p=>!(p.1.data.toList==k.data.toList))
  have h2:(noDig (m.filter fun p=>!(p.1.data.toList==k.data.toList))).length≤(noDig m).length:=by
   unfold noDig
   exact (List.Sublist.filter _ List.filter_sublist).length_le
  have h3:=h.len
  unfold putM
  omega
 ·have:=qsk m k v
  have:=h.all
  omega
theorem Inv.mono {n k:Nat} {m:MM} (h:Inv n m) (hk:n≤k):Inv k m:=⟨h.key,h.val,Nat.le_trans h.len hk,Nat.le_trans h.all (by omega)⟩
theorem Inv.nil:Inv 0 []:=⟨(fun p hp=>by cases hp),(fun p hp=>by cases hp),Nat.le_refl _,Nat.zero_le _⟩
def matL (p:Int) (tx:ByteArray) (m:MM):List ByteArray→Bool × MM
 |[]=>(false,m)
 |s::l=>if (matchR p tx s).1.2.2.1=0∧(matchR p tx s).1.1=true then (true,if p=3 then putP (matchR p tx s).2 0 (noDig m) else m) else matL p tx m l
theorem qrh:∀ (l:List El) (T:List UInt8),∀ x∈pieces l T,x.length≤T.length
 |[],_=>by simp [pieces]
 |e::l,T=>by
  intro x hx
  rw [pieces] at hx
  split at hx
  ·rcases List.mem_cons.1 hx with rfl|hx
   ·simp;omega
   ·have:=qrh l _ x hx;simp at this;omega
  ·split at hx
   ·rcases List.mem_cons.1 hx with rfl|hx
    ·simp;omega
    ·have:=qrh l _ x hx;simp at this;omega
   ·have:=qrh l _ x hx;simp at this;omega
theorem qni (k:Int) (p t:ByteArray):(matchR k p t).1.2.1=(matchR k p t).2.length∧(matchR k p t).2.length≤1000∧∀ v∈(matchR k p t).2,v.size≤2000000:=by
 unfold matchR
 split
 ·exact ⟨rfl,by simp,fun v hv=>by cases hv⟩
 ·rename_i hf
  split
  ·exact ⟨rfl,by simp,fun v hv=>by cases hv⟩
  ·rename_i ht
   have hp:p.size≤200:=by
    have hf:faultP k p=(0,0):=by simpa using hf
    unfold faultP at hf
    split at hf
    ·cases hf
    ·split at hf
     ·cases hf
     ·omega
   unfold matchedR
   split
   ·exact ⟨rfl,by simp,fun v hv=>by cases hv⟩
   ·split
    ·exact ⟨rfl,by simp,fun v hv=>by cases hv⟩
    ·unfold wildR
     split
     ·refine ⟨rfl,?_,fun v hv=>?_⟩
      ·have h1:=qrg (elems2 (L p)) (L t)
       have h2:=q9c (L p)
       have h3:=q264 p
       simp
       omega
      ·obtain ⟨x,hx,rfl⟩:=List.mem_map.1 hv
       have:=qrh _ _ x hx
       have h3:=q264 t
       show x.toArray.size≤_
       rw [List.size_toArray]
       omega
     ·exact ⟨rfl,by simp,fun v hv=>by cases hv⟩
theorem qnh {n:Nat} {m:MM} (h:Inv n m) (p:Int) (tx:ByteArray):∀ l:List ByteArray,Inv n (matL p tx m l).2
 |[]=>h
 |s::l=>by
  rw [matL]
  obtain ⟨_,h2,h3⟩:=qni p tx s
  split
  ·split
   ·exact h.pieces h3 h2
   ·exact h
  ·exact qnh h p tx l
end Go.Proofs.YtokahibbkdbndaaGreatDoor
