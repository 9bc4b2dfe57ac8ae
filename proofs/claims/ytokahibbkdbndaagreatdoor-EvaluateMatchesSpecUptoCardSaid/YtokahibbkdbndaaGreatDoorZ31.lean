/- A message written: it answers. -/
import Derived.Test.YtokahibbkdbndaaGreatDoorZ30
namespace Go.Proofs.YtokahibbkdbndaaGreatDoor
open Go.RowKit
theorem bmap (s:ByteArray):List.map (fun (b:UInt8)=>[byteC b]) (Array.toList (ByteArray.data s))=qb0.encL (ints s):=q87 s
theorem qbs {τ:Type} (e:EC τ) (a b:List τ):e.encL a++e.encL b=e.encL (a++b):=by simp [EC.encL]
theorem q9f:([[(C.int Go.IntKind.u8 (13:Int))],[(C.int Go.IntKind.u8 (10:Int))]]:List (List C))=qb0.encL [13,10]:=rfl
theorem qs8 (l:List S55) (t12 t13:Int) (b0:List S55) (b01:List Int) (b2:List ByteArray) (hb:b2.length≤100001) (hz:szB b2):∀ (m k:Nat) (b1:List Int),k+m=b2.length→b1.length+m*100002≤1000000000000 →
  Ok (qu6 b1.length l t12 t13 b2.length b2.length k b0 b01 b1 b2) fun x=>x.1.2.2.1=l∧x.1.2.2.2.1=t12∧x.1.2.2.2.2.1=t13∧x.2.1=(b0,b01)∧x.1.2.1=x.2.2.1.length∧x.1.2.1≤b1.length+m*100002:=by
 intro m
 induction m with
 |zero =>
  intro k b1 hk hs
  refine .via qu8 ?_
  unfold quc
  try simp only [gL,dL,lN,wI,p0,aL,dQ]
  simp only [EC.decL_encL,EC.isL_encL,EC.encL_length,all_5,q51]
  refine qv9 (fun h=>?_) (fun _=>qvb rfl (qvb rfl (qvb rfl (qvb rfl (qvb rfl (qvc ⟨rfl,rfl,rfl,rfl,rfl,by show b1.length≤_;omega⟩))))))
  have:=of_decide_eq_true h
  omega
 |succ m ih =>
  intro k b1 hk hs
  have hlt:k<b2.length:=by omega
  have e2:IntKind.i64.wrap ((k:Int)+1)=((k+1:Nat):Int):=by rw [q1m1 (by omega)];rfl
  refine .via qu8 ?_
  unfold quc
  try simp only [gL,dL,lN,wI,p0,aL,dQ]
  simp only [EC.decL_encL,EC.isL_encL,EC.encL_length,all_5,q51,Int.toNat_natCast,e2]
  refine qv9 (fun h=>?_) (fun h=>?_)
  ·refine qvb (by simp;omega) (qvb (by rw [qs3 b2 k hlt];simp [hlt]) (qvb (qqu b2 k hlt) ?_))
   rw [qn9 hlt]
   have hsz:=hz _ (List.getElem_mem hlt)
   have hil:=qqf b2[k]
   simp only [bmap,q9f,qbs,EC.decL_encL,EC.isL_encL,EC.encL_length,all_5,hil]
   refine qvb (by simp;omega) (qvb (by simp;omega) (qvb rfl (qvb rfl (qvb rfl (qvb rfl (qvb rfl ?_))))))
   have hl2:((b1++ints b2[k])++[13,10]).length=b1.length+b2[k].size+2:=by simp [hil];omega
   have:=ih (k+1) ((b1++ints b2[k])++[13,10]) (by omega) (by rw [hl2];omega)
   rw [hl2] at this
   refine this.mono fun x hx=>⟨hx.1,hx.2.1,hx.2.2.1,hx.2.2.2.1,hx.2.2.2.2.1,by have:=hx.2.2.2.2.2;omega⟩
  ·have:=of_decide_eq_false h
   omega
set_option maxRecDepth 100000 in
theorem qjt (l:List S55) (hl:l.length≤60) (b0:List S55) (b01:List Int):∀ (m k:Nat) (b1:List Int),k+m=l.length→b1.length+m*10001000000≤900000000000 →
  Ok (qtz b1.length l l.length k b0 b01 b1) fun x=>x.2.1=(b0,b01)∧x.1.2.1=x.2.2.length∧x.1.2.1≤900000000000:=by
 intro m
 induction m with
 |zero =>
  intro k b1 hk hs
  refine .via qu1 ?_
  unfold qu5
  try simp only [gL,dL,eC,wI,p0]
  simp only [EC.decL_encL,EC.isL_encL,EC.encL_length,isE_55,q4v,q4w]
  refine qv9 (fun h=>?_) (fun _=>qvb rfl (qvb rfl (qvb rfl (qvb rfl (qvc ⟨rfl,rfl,by show b1.length≤_;omega⟩)))))
  have:=of_decide_eq_true h
  omega
 |succ m ih =>
  intro k b1 hk hs
  have hlt:k<l.length:=by omega
  have e2:IntKind.i64.wrap ((k:Int)+1)=((k+1:Nat):Int):=by rw [q1m1 (by omega)];rfl
  refine .via qu1 ?_
  unfold qu5
  try simp only [gL,dL,eC,wI,p0]
  simp only [EC.decL_encL,EC.isL_encL,EC.encL_length,isE_55,q4v,q4w,Int.toNat_natCast]
  refine qv9 (fun h=>?_) (fun h=>?_)
  ·refine qvb (by simp) (qvb (by simp [hlt]) ?_)
   rw [qn9 hlt]
   refine qv8 (qlr _ _) fun r hr=>?_
   obtain ⟨h1,h2,h3,_⟩:=hr
   rw [h1]
   rw [h1] at h2
   refine qvb rfl (qvb rfl (qvb rfl (qvb rfl (qvb rfl ?_))))
   have hz0:0+r.2.length=r.2.length:=Nat.zero_add _
   have hbig:b1.length+r.2.length*100002≤1000000000000:=by
    have g1:r.2.length*100002≤10001000000:=Nat.le_trans (Nat.mul_le_mul_right 100002 h2) (by decide)
    have g2:10001000000≤(m+1)*10001000000:=Nat.le_mul_of_pos_left _ (Nat.succ_pos m)
    exact Nat.le_trans (Nat.add_le_add_left (Nat.le_trans g1 g2) _) (Nat.le_trans hs (by decide))
   refine qv8 (qs8 l l.length k b0 b01 r.2 h2 h3 r.2.length 0 b1 hz0 hbig) fun r1 hr1=>?_
   obtain ⟨q1,q2,q3,q4,q5,q6⟩:=hr1
   rw [q1,q2,q3,q4,q5,e2]
   refine qvb rfl (qvb rfl (qvb rfl (qvb rfl ?_)))
   exact ih (k+1) r1.2.2.1 (by omega) (by rw [←q5];omega)
  ·have:=of_decide_eq_false h
   omega
theorem q1m5 (l:List S55) (hl:l.length≤60) (b:List Int) (hb:b.length≤2000000):Ok (qud l b) fun r=>r.1=r.2.length:=.via qty (by
 unfold que
 try simp only [gL,dL,lN,aL,dQ]
 simp only [EC.decL_encL,EC.isL_encL,EC.encL_length,all_5,qg]
 refine qvb rfl (qvb rfl (qvb rfl ?_))
 refine qv8 (qjt l hl l b l.length 0 [] (by omega) (by simp;omega)) fun r hr=>?_
 obtain ⟨h1,h2,h3⟩:=hr
 rw [h1]
 simp only [q9f,qbs,EC.decL_encL,EC.isL_encL,EC.encL_length,all_5]
 refine qvb (by simp;omega) (qvb (by simp;omega) (qvb rfl (qvc ?_)))
 simp only [List.length_append,h2])
theorem q7p (b:List Int) (hb:b.length≤2000000):∀ (m k:Nat) (c:Int),b.length - k≤m→k≤b.length+2→0≤c→c≤998→Ok (q5h b c k) fun _=>True:=by
  intro m
  induction m with
  | zero =>
    intro k c hk hk2 h0 h1
    refine .via q5j ?_
    unfold q5o
    try simp only [gL,dL,lN,eC,wI,p0]
    simp only [EC.decL_encL,EC.isL_encL,EC.encL_length,isE_5,at_5_0]
    refine qv9 (fun h=>?_) (fun _=>qvb rfl (qvc trivial))
    have:=of_decide_eq_true h
    omega
  | succ m ih =>
    intro k c hk hk2 h0 h1
    refine .via q5j ?_
    unfold q5o
    try simp only [gL,dL,lN,eC,wI,p0]
    have e2:IntKind.i64.wrap ((k:Int)+1)=((k+1:Nat):Int):=by rw [q1m1 (by omega)];rfl
    have e3:IntKind.i64.wrap (((k+1:Nat):Int)+1)=((k+2:Nat):Int):=by rw [q1m1 (by omega)];omega
    have ec:IntKind.i64.wrap (c+1)=c+1:=q1m1 (by omega)
    simp only [EC.decL_encL,EC.isL_encL,EC.encL_length,isE_5,at_5_0,Int.toNat_natCast,e2,e3,ec]
    refine qv9 (fun h=>?_) (fun _=>qvb rfl (qvc trivial))
    have hlt:k<b.length:=by have:=of_decide_eq_true h;omega
    have step:Ok (brE (decide (c+1>998)) (some (.inl ((1:Int),()))) (gdE true<| q5h b (c+1) ((k+1:Nat):Int))) fun _=>True:=qv9 (fun _=>qvc trivial) (fun h=>qvb rfl (ih (k+1) (c+1) (by omega) (by omega) (by omega) (by have:=of_decide_eq_false h;omega)))
    refine qvb (by simp) (qvb (by simp [hlt]) ?_)
    repeat' (first
      | exact qvc trivial
      | exact step
      | exact qvb rfl (ih (k+2) 0 (by omega) (by omega) (by omega) (by omega))
      | (refine qvb ?_ ?_
         · first
             | (simp;done)
             | (simp;omega)
             | (simp_all;done)
             | (simp_all;omega))
      | (refine qv9 (fun _=>?_) (fun _=>?_)))
theorem q7n (b:List Int) (hb:b.length≤2000000):Ok (qtt b) fun _=>True:=.via qts (by
 unfold qtu
 try simp only [gL,dL]
 simp only [EC.decL_encL,EC.isL_encL]
 have hbd:Ok (q5p b) fun _=>True:=.via q5g (by
  unfold q5q
  try simp only [gL,dL]
  simp only [EC.decL_encL,EC.isL_encL]
  refine qvb rfl (qv8 (q7p b hb b.length 0 0 (by omega) (by omega) (by omega) (by omega)) ?_)
  rintro (r|r) _
  ·exact qvc trivial
  ·exact qvc trivial)
 refine qvb rfl (qv8 hbd fun r _=>qv9 (fun _=>qv8 (qjr _ _) fun _ _=>qvc trivial) (fun _=>qv9 (fun _=>qv8 (qjr _ _) fun _ _=>qvc trivial) (fun _=>qv8 qv0 fun _ _=>qvc trivial))))
theorem quh (l:List S55) (b:List Int) (hb:b.length≤2000000):Ok (qth l b) fun r=>r.1=0→HdrOk l:=.via qtg (by
 unfold qti
 try simp only [gL,dL]
 simp only [EC.decL_encL,EC.isL_encL]
 obtain ⟨r0,e0,p0⟩:=qpn l
 refine qvb rfl (qv8 (qva e0) fun r hr=>?_)
 subst hr
 refine qv8 (qva (qjo _ _)) fun r1 hr1=>?_
 subst hr1
 refine qv9 (fun hb=>qvc fun h=>?_) (fun hb0=>?_)
 ·rw [h] at hb;cases hb
 ·have h0:r.1=0:=by simpa using hb0
  obtain ⟨hl,ha⟩:=p0 h0
  have hok:HdrOk l:=⟨⟨r.2,by rw [e0,←h0]⟩,hl,ha⟩
  refine qvb rfl (qvb rfl (qv8 (q1m5 l hl b hb) fun r2 _=>qv9 (fun _=>qv8 (qjr _ _) fun _ _=>qvc fun _=>hok) (fun _=>qvb rfl (qv8 (q7n b hb) fun _ _=>qvc fun _=>hok)))))
theorem qui (l:List S55) (b:List Int) (hb:b.length≤2000000):Ok (qtn l b) fun r=>(r.1.2.1=0→HdrOk l)∧r.1.1=r.2.length:=.via qtm (by
 unfold qto
 try simp only [gL,dL]
 simp only [EC.decL_encL,EC.isL_encL,qg]
 refine qvb rfl (qvb rfl (qv8 (quh l b hb) fun r hr=>qv8 (qva (qjo _ _)) fun r1 hr1=>?_))
 subst hr1
 refine qv9 (fun hb=>qvc ⟨hr,rfl⟩) (fun hb0=>?_)
 have h0:r.1=0:=by simpa using hb0
 have hok:=hr h0
 exact qvb rfl (qvb rfl (qv8 (q1m5 l hok.len b hb) fun r2 h2=>qv8 qv0 fun r3 _=>qvb rfl (qvc ⟨fun _=>hok,h2⟩))))
end Go.Proofs.YtokahibbkdbndaaGreatDoor
namespace Go.Proofs.YtokahibbkdbndaaGreatDoor
open Go.RowKit
abbrev MM:=List (ByteArray×ByteArray)
def itB (n:Int):ByteArray:=⟨(Lib.itoa n).toArray⟩
def putP:List ByteArray→Nat→MM→MM
 |[],_,m=>m
 |v::vs,k,m=>putP vs (k+1) (putM m (itB ((k+1:Nat):Int)) v)
def noDig (m:MM):MM:=m.filter fun p=>!digP p.1
theorem decLen:∀ u:Nat,(Lib.decDigits u).length≤u+1:=by
 intro u
 induction u using Nat.strongRecOn with
 |_ u ih =>
  rw [Lib.decDigits]
  split
  ·simp
  ·have:=ih (u / 10) (by omega)
   simp only [List.length_append,List.length_singleton]
   omega
theorem qqw (k:Nat):(itB (k:Int)).size≤k+1:=by
 have:=decLen k
 show (Lib.itoa (k:Int)).toArray.size≤_
 rw [List.size_toArray,Lib.itoa,if_neg (by omega)]
 simpa using this
theorem dec_ne (u:Nat):∃ b l,Lib.decDigits u=b::l∧48≤b.toNat∧b.toNat≤57:=by
 induction u using Nat.strongRecOn with
 |_ u ih =>
  rw [Lib.decDigits]
  split
  ·rename_i h
   refine ⟨_,[],rfl,?_⟩
   rw [UInt8.toNat_ofNat']
   omega
  ·obtain ⟨b,l,e,h⟩:=ih (u / 10) (by omega)
   exact ⟨b,l++[UInt8.ofNat (48+u % 10)],by rw [e];rfl,h⟩
theorem qqv (k:Nat):digP (itB (k:Int))=true∧(itB (k:Int)).size≠0:=by
 obtain ⟨b,l,e,h1,h2⟩:=dec_ne k
 have hi:Lib.itoa (k:Int)=b::l:=by rw [Lib.itoa,if_neg (by omega)];simpa using e
 constructor
 ·unfold digP
  have:(itB (k:Int)).data.toList=b::l:=hi
  rw [this]
  simp [h1,h2]
 ·show (Lib.itoa (k:Int)).toArray.size≠0
  rw [List.size_toArray,hi]
  simp
theorem qqb (x q:ByteArray×ByteArray):∀ m:MM,q∈insM x m ↔ q=x∨q∈m
 |[]=>by simp [insM]
 |y::r=>by
  unfold insM
  cases befM x.1 y.1 with
  |true=>simp
  |false =>
   have:=qqb x q r
   simp only [cond_false,List.mem_cons,this]
   constructor
   ·rintro (h|h|h)
    ·exact .inr (.inl h)
    ·exact .inl h
    ·exact .inr (.inr h)
   ·rintro (h|h|h)
    ·exact .inr (.inl h)
    ·exact .inl h
    ·exact .inr (.inr h)
theorem q19t {m:MM} {k v:ByteArray} {q:ByteArray×ByteArray} (h:q∈putM m k v):q=(k,v)∨q∈m:=by
 unfold putM at h
 rcases (qqb _ _ _).1 h with h|h
 ·exact .inl h
 ·exact .inr (List.mem_filter.1 h).1
theorem q19r (m:MM) (k v:ByteArray):(putM m k v).length≤m.length+1:=by
 unfold putM
 rw [qq9]
 have:=List.length_filter_le (fun p:ByteArray×ByteArray=>!(p.1.data.toList==k.data.toList)) m
 omega
structure Inv (n:Nat) (m:MM):Prop where
 key:∀ p∈m,p.1.size≠0
 val:∀ p∈m,p.2.size≤2000000
 len:(noDig m).length≤n
 all:m.length≤n+1000
theorem qqc {k v:ByteArray} (h:digP k=true):∀ m:MM,(noDig (insM (k,v) m))=noDig m
 |[]=>by simp [insM,noDig,h]
 |y::r=>by
  unfold insM
  cases befM (k,v).1 y.1 with
  |true=>simp [noDig,h]
  |false =>
   have:=qqc (v:=v) h r
   simp only [noDig] at this
   simp only [cond_false,noDig,List.filter_cons,this]
theorem qux (m:MM) (k v:ByteArray) (h:digP k=true):(noDig (putM m k v)).length≤(noDig m).length:=by
 unfold putM
 rw [qqc h]
 unfold noDig
 exact (List.Sublist.filter _ List.filter_sublist).length_le
theorem quw (m:MM):(noDig m).length≤m.length:=List.length_filter_le _ _
theorem q19u:∀ (vs:List ByteArray) (k:Nat) (m:MM),(∀ v∈vs,v.size≤2000000)→(∀ p∈m,p.1.size≠0)→(∀ p∈m,p.2.size≤2000000)→(∀ p∈putP vs k m,p.1.size≠0)∧(∀ p∈putP vs k m,p.2.size≤2000000)∧(noDig (putP vs k m)).length≤(noDig m).length∧(putP vs k m).length≤m.length+vs.length
 |[],k,m,_,h1,h2=>⟨h1,h2,Nat.le_refl _,Nat.le_refl _⟩
 |v::vs,k,m,hv,h1,h2=>by
  have hd:=qqv (k+1)
  have:=q19u vs (k+1) (putM m (itB ((k+1:Nat):Int)) v) (fun x hx=>hv x (List.mem_cons_of_mem _ hx)) (fun p hp=>by
   rcases q19t hp with rfl|hp
   ·exact hd.2
   ·exact h1 p hp) (fun p hp=>by
   rcases q19t hp with rfl|hp
   ·exact hv v (List.mem_cons_self ..)
   ·exact h2 p hp)
  have e1:=qux m (itB ((k+1:Nat):Int)) v hd.1
  have e2:=q19r m (itB ((k+1:Nat):Int)) v
  rw [putP]
  refine ⟨this.1,this.2.1,Nat.le_trans this.2.2.1 e1,?_⟩
  have:=this.2.2.2
  simp only [List.length_cons]
  omega
theorem Inv.pieces {n:Nat} {m:MM} (h:Inv n m) {vs:List ByteArray} (hv:∀ v∈vs,v.size≤2000000) (hl:vs.length≤1000):Inv n (putP vs 0 (noDig m)):=by
 have hm:∀ p∈noDig m,p∈m:=fun p hp=>(List.mem_filter.1 hp).1
 have:=q19u vs 0 (noDig m) hv (fun p hp=>h.key p (hm p hp)) (fun p hp=>h.val p (hm p hp))
 have hidem:noDig (noDig m)=noDig m:=by unfold noDig;rw [List.filter_filter];congr 1;funext p;simp
 rw [hidem] at this
 exact ⟨this.1,this.2.1,Nat.le_trans this.2.2.1 h.len,by have:=this.2.2.2;have:=h.len;omega⟩
theorem Inv.set {n:Nat} {m:MM} (h:Inv n m) {k v:ByteArray} (hk:k.size≠0) (hv:v.size≤2000000):Inv (n+1) (putM m k v):=by
 refine ⟨fun p hp=>?_,fun p hp=>?_,?_,?_⟩
 ·rcases q19t hp with rfl|hp
  ·exact hk
  ·exact h.key p hp
 ·rcases q19t hp with rfl|hp
  ·exact hv
  ·exact h.val p hp
 ·have hn:∀ x:ByteArray×ByteArray,∀ m:MM,(noDig (insM x m)).length≤(noDig m).length+1:=by
   intro x m
   induction m with
   |nil=>unfold insM noDig;rw [List.filter_cons];split <;> simp
   |cons y r ih =>
    unfold insM
    cases befM x.1 y.1 with
    |true =>
     simp only [cond_true,noDig,List.filter_cons]
     split <;> simp
    |false =>
     simp only [noDig] at ih
     simp only [cond_false,noDig,List.filter_cons]
     split
     ·simp only [List.length_cons];omega
     ·omega
  have h1:=hn (k,v) (m.filter fun p=>!(p.1.data.toList==k.data.toList))
  have h2:(noDig (m.filter fun p=>!(p.1.data.toList==k.data.toList))).length≤(noDig m).length:=by
   unfold noDig
   exact (List.Sublist.filter _ List.filter_sublist).length_le
  have h3:=h.len
  unfold putM
  omega
 ·have:=q19r m k v
  have:=h.all
  omega
theorem Inv.mono {n k:Nat} {m:MM} (h:Inv n m) (hk:n≤k):Inv k m:=⟨h.key,h.val,Nat.le_trans h.len hk,Nat.le_trans h.all (by omega)⟩
theorem Inv.nil:Inv 0 []:=⟨(fun p hp=>by cases hp),(fun p hp=>by cases hp),Nat.le_refl _,Nat.zero_le _⟩
def matL (p:Int) (tx:ByteArray) (m:MM):List ByteArray→Bool×MM
 |[]=>(false,m)
 |s::l=>if (matchR p tx s).1.2.2.1=0∧(matchR p tx s).1.1=true then (true,if p=3 then putP (matchR p tx s).2 0 (noDig m) else m) else matL p tx m l
theorem qxm:∀ (l:List El) (T:List UInt8),∀ x∈pieces l T,x.length≤T.length
 |[],_=>by simp [pieces]
 |e::l,T=>by
  intro x hx
  rw [pieces] at hx
  split at hx
  ·rcases List.mem_cons.1 hx with rfl|hx
   ·simp;omega
   ·have:=qxm l _ x hx;simp at this;omega
  ·split at hx
   ·rcases List.mem_cons.1 hx with rfl|hx
    ·simp;omega
    ·have:=qxm l _ x hx;simp at this;omega
   ·have:=qxm l _ x hx;simp at this;omega
theorem qt9 (k:Int) (p t:ByteArray):(matchR k p t).1.2.1=(matchR k p t).2.length∧(matchR k p t).2.length≤1000∧∀ v∈(matchR k p t).2,v.size≤2000000:=by
 unfold matchR
 split
 ·exact ⟨rfl,by simp,fun v hv=>by cases hv⟩
 ·rename_i hf
  split
  ·exact ⟨rfl,by simp,fun v hv=>by cases hv⟩
  ·rename_i ht
   have hp:p.size≤200:=by
    have hf:faultP k p=(0,0):=by simpa using hf
    unfold faultP at hf
    split at hf
    ·cases hf
    ·split at hf
     ·cases hf
     ·omega
   unfold matchedR
   split
   ·exact ⟨rfl,by simp,fun v hv=>by cases hv⟩
   ·split
    ·exact ⟨rfl,by simp,fun v hv=>by cases hv⟩
    ·unfold wildR
     split
     ·refine ⟨rfl,?_,fun v hv=>?_⟩
      ·have h1:=qxl (elems2 (L p)) (L t)
       have h2:=qbb (L p)
       have h3:=ql p
       simp
       omega
      ·obtain ⟨x,hx,rfl⟩:=List.mem_map.1 hv
       have:=qxm _ _ x hx
       have h3:=ql t
       show x.toArray.size≤_
       rw [List.size_toArray]
       omega
     ·exact ⟨rfl,by simp,fun v hv=>by cases hv⟩
theorem qt8 {n:Nat} {m:MM} (h:Inv n m) (p:Int) (tx:ByteArray):∀ l:List ByteArray,Inv n (matL p tx m l).2
 |[]=>h
 |s::l=>by
  rw [matL]
  obtain ⟨_,h2,h3⟩:=qt9 p tx s
  split
  ·split
   ·exact h.pieces h3 h2
   ·exact h
  ·exact qt8 h p tx l
end Go.Proofs.YtokahibbkdbndaaGreatDoor
