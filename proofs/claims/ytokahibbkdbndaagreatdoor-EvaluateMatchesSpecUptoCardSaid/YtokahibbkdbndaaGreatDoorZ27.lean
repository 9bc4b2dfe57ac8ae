/- What patterns.Match and the reference's Matched answer; the law PatternsMatchSpec returns true. -/
import Derived.Test.YtokahibbkdbndaaGreatDoorP4
namespace Go.Proofs.YtokahibbkdbndaaGreatDoor
open Go.RowKit
def tr (l:List UInt8):Nat:=(l.reverse.takeWhile (fun b=>nb b==92)).length
theorem tr_le (l:List UInt8):tr l≤l.length:=by
 have:=(List.takeWhile_prefix (p:=fun b=>nb b==92) (l:=l.reverse)).length_le
 simpa [tr] using this
theorem q1ky (b:UInt8) (l:List UInt8):tr (b::l)=if tr l=l.length then (if nb b=92 then l.length+1 else l.length) else tr l:=by
 unfold tr
 rw [List.reverse_cons,List.takeWhile_append]
 by_cases h:(l.reverse.takeWhile (fun b=>nb b==92)).length=l.reverse.length
 ·rw [if_pos h,if_pos (by simpa using h)]
  by_cases hb:nb b=92
  ·simp [hb]
  ·simp [hb]
 ·rw [if_neg h,if_neg (by simpa using h)]
theorem q1kz (b:UInt8) (l:List UInt8):tr (l++[b])=if nb b=92 then tr l+1 else 0:=by
 unfold tr
 rw [List.reverse_append,List.reverse_singleton,List.singleton_append,List.takeWhile_cons]
 by_cases hb:nb b=92
 ·simp [hb]
 ·simp [hb]
theorem qbf:∀ (l:List UInt8),((elems l).isNone=true ↔ tr l % 2=1)
 |[]=>by simp [elems,tr]
 |[b]=>by
  rw [elems,q1ky]
  have:tr []=0:=rfl
  by_cases h:nb b=92
  ·simp [h,this]
  ·simp [h,this]
   by_cases h1:nb b=42
   ·simp [h1]
   ·by_cases h2:nb b=63
    ·simp [h2]
    ·simp [h1,h2]
 |b::c::l=>by
  have h1:=qbf (c::l)
  have h2:=qbf l
  have l1:=tr_le (c::l)
  have l2:=tr_le l
  rw [elems]
  by_cases h:nb b=92
  ·have e:tr (b::c::l) % 2=tr l % 2:=by
    rw [q1ky,q1ky]
    by_cases a:tr l=l.length
    ·by_cases hc:nb c=92
     ·simp [a,hc,h];omega
     ·simp [a,hc]
    ·have a':¬ tr l=l.length+1:=by omega
     simp [a,a']
   rw [e,←h2]
   simp [h]
  ·have e:tr (b::c::l)=tr (c::l):=by
    rw [q1ky]
    split
    ·rename_i a;simp [a]
    ·rfl
   rw [e,←h1]
   simp only [h,if_false]
   split
   ·simp
   ·split <;> simp
theorem qbe:∀ {l:List UInt8} {es:List El},elems l=some es→es=elems2 l
 |[],es,h=>by simp [elems] at h;subst h;rfl
 |[b],es,h=>by
  simp only [elems] at h
  simp only [elems2,el1]
  split at h
  ·rename_i h1;injection h with h;subst h;simp [h1]
  ·rename_i h1
   split at h
   ·rename_i h2;injection h with h;subst h;simp [h2]
   ·rename_i h2
    split at h
    ·cases h
    ·injection h with h;subst h;simp [h1,h2]
 |b::c::l,es,h=>by
  simp only [elems] at h
  by_cases h92:nb b=92
  ·rw [qbd h92]
   simp [h92] at h
   obtain ⟨a,ha,rfl⟩:=h
   rw [qbe ha]
  ·rw [qbc (.inl h92)]
   by_cases h42:nb b=42
   ·simp [h42] at h
    obtain ⟨a,ha,rfl⟩:=h
    rw [qbe ha];simp [el1,h42]
   ·by_cases h63:nb b=63
    ·simp [h63] at h
     obtain ⟨a,ha,rfl⟩:=h
     rw [qbe ha];simp [el1,h63]
    ·simp [h42,h63,h92] at h
     obtain ⟨a,ha,rfl⟩:=h
     rw [qbe ha];simp [el1,h42,h63]
theorem qba:∀ (l:List UInt8),∀ e∈elems2 l,0≤e.c∧e.c<256
 |[],e,h=>by simp [elems2] at h
 |[b],e,h=>by
  simp [elems2] at h;subst h
  have:=qul b
  unfold el1;split
  ·exact ⟨by decide,by decide⟩
  ·split
   ·exact ⟨by decide,by decide⟩
   ·exact this
 |b::c::l,e,h=>by
  have n1:=qul b
  have n2:=qul c
  rw [elems2] at h
  split at h
  ·rcases List.mem_cons.1 h with h|h
   ·subst h;exact n2
   ·exact qba l e h
  ·rcases List.mem_cons.1 h with h|h
   ·subst h
    unfold el1;split
    ·exact ⟨by decide,by decide⟩
    ·split
     ·exact ⟨by decide,by decide⟩
     ·exact n1
   ·exact qba (c::l) e h
def faultP (kind:Int) (p:ByteArray):Int×Int:=if kind<1∨3<kind then (4,-2) else if 200<p.size then (1,-3) else if kind=3∧tr (L p) % 2=1 then (11,(p.size:Int) - 1) else (0,0)
theorem qjq (kind:Int) (p:ByteArray) (hp:p.size≤1000):∀ (m s:Nat),m≤p.size→s+m≤2000→∃ i,q11n kind p s ((m:Int) - 1) 0 0=some ((kind,p,(),((s+tr ((L p).take m):Nat):Int),i,false),(0,0)):=by
 intro m
 have hL:=ql p
 induction m with
 |zero =>
  intro s _ _
  refine ⟨((0:Nat):Int) - 1,q11p ?_⟩
  simp only [q11t,wI,p0,q7r]
  simp [tr]
 |succ m ih =>
  intro s hm hs
  have hj:(((m+1:Nat):Int) - 1)=(m:Int):=by omega
  rw [hj]
  have hmL:m<(L p).length:=by omega
  have hat:=q52 p hmL
  rw [List.take_succ_eq_append_getElem hmL,q1kz]
  generalize (L p)[m]'hmL=b at hat ⊢
  have h0:(m:Int)≥0:=by omega
  have hmp:m<p.size:=by omega
  by_cases hb:nb b=92
  ·obtain ⟨i,h⟩:=ih (s+1) (by omega) (by omega)
   refine ⟨i,q11p ?_⟩
   have hw:=q1m3 (k:=s) (n:=5000) (by omega) (by omega)
   have hwm:=q1m4 m (by omega)
   have b1:(nb b==92)=true:=by simpa using hb
   simp only [q11t,wI,p0,q7r,qn6,Int.toNat_natCast,h0,hmp,hat,hw,hwm,h,hb,beq_self_eq_true,decide_true,if_true,Bool.and_self]
   rw [show s+1+tr (List.take m (L p))=s+(tr (List.take m (L p))+1) by omega]
  ·refine ⟨(m:Int),q11p ?_⟩
   have b1:(nb b==92)=false:=by simpa using hb
   simp only [q11t,wI,p0,q7r,qn6,Int.toNat_natCast,h0,hmp,hat,b1,hb,q7g,decide_true,if_true,Bool.and_self,Bool.false_eq_true,if_false,Nat.add_zero]
theorem qvx (kind:Int) (p:ByteArray) (hsz:p.size≤9223372036854775807):q11u kind p=some (faultP kind p):=q11m (by
 by_cases hk:kind<1∨3<kind
 ·have:(decide (1≤kind)&&decide (kind≤3))=false:=by
   rcases hk with h|h
   ·have:¬ 1≤kind:=by omega
    simp [this]
   ·have:¬ kind≤3:=by omega
    simp [this]
  simp only [q11v,q7r,qq6,this,at_s,Option.bind_some,Bool.not_false,if_true,faultP,hk]
 ·have:(decide (1≤kind)&&decide (kind≤3))=true:=by
   have h1:1≤kind:=by omega
   have h2:kind≤3:=by omega
   simp [h1,h2]
  by_cases h2:200<p.size
  ·have h2':(p.size:Int)>200:=by omega
   simp only [q11v,q7r,qq6,this,at_s,Option.bind_some,Bool.not_true,Bool.false_eq_true,if_false,if_true,faultP,hk,h2,h2',decide_true]
  ·have h2':¬ (p.size:Int)>200:=by omega
   have hw:IntKind.i64.wrap ((p.size:Int) - 1)=(p.size:Int) - 1:=IntWalk.i64_in _ (by omega)
   obtain ⟨i,h⟩:=qjq kind p (by omega) p.size 0 (Nat.le_refl _) (by omega)
   have h':q11n kind p (0:Int) ((p.size:Int) - 1) 0 0=some ((kind,p,(),((tr (L p):Nat):Int),i,false),(0,0)):=by
    have e:(L p).take p.size=L p:=List.take_of_length_le (by rw [ql];omega)
    rw [e,Nat.zero_add] at h;exact h
   simp only [q11v,q7r,qq6,this,at_s,hw,h',Option.bind_some,Bool.not_true,Bool.false_eq_true,if_false,faultP,hk,h2,h2',decide_false,q7g]
   have hmod:(Int.tmod ((tr (L p):Nat):Int) 2==1)=decide (tr (L p) % 2=1):=by
    rw [Int.tmod_eq_emod_of_nonneg (by omega)]
    by_cases e:tr (L p) % 2=1
    ·have:((tr (L p):Nat):Int) % 2=1:=by omega
     simp [e,this]
    ·have:¬ ((tr (L p):Nat):Int) % 2=1:=by omega
     simp only [e,decide_false,beq_eq_false_iff_ne,ne_eq,this,not_false_eq_true]
   rw [hmod]
   by_cases h3:kind=3
   ·by_cases e:tr (L p) % 2=1
    ·simp [h3,e]
    ·simp [h3,e]
   ·simp [h3])
def contR:List UInt8→List UInt8→Bool
 |[],sub=>sub.isEmpty
 |b::l,sub=>sub.isPrefixOf (b::l)||contR l sub
theorem q95:∀ (s sub:List UInt8),Lib.contains s sub=contR s sub
 |[],sub=>by
  simp only [Lib.contains,Lib.index,contR]
  by_cases h:sub.isEmpty=true
  ·simp [h]
  ·simp [h]
 |b::l,sub=>by
  have ih:=q95 l sub
  have hge:=Lib.index_ge l sub
  simp only [Lib.contains] at ih
  simp only [Lib.contains,Lib.index,contR]
  by_cases hp:sub.isPrefixOf (b::l)=true
  ·simp [hp]
  ·simp only [hp,Bool.false_eq_true,if_false,Bool.false_or]
   rw [←ih]
   by_cases h:Lib.index l sub=-1
   ·simp [h]
   ·have h1:0≤Lib.index l sub:=by omega
    have h2:0≤Lib.index l sub+1:=by omega
    simp [h,h1,h2]
theorem q96:∀ {s sub:List UInt8},s.length<sub.length→contR s sub=false
 |[],sub,h=>by cases sub with|nil=>simp at h|cons=>rfl
 |b::l,sub,h=>by
  rw [contR,q96 (by simp at h;omega),Bool.or_false]
  cases hp:sub.isPrefixOf (b::l) with
  |false=>rfl
  |true =>
   have:=(List.isPrefixOf_iff_prefix.1 hp).length_le
   omega
def matchedR (kind:Int) (p t:List UInt8):(Bool×Nat)×List ByteArray:=if kind=1 then ((lowL p==lowL t,0),[]) else if kind=2 then ((contR (lowL t) (lowL p),0),[]) else wildR (elems2 p) t
theorem qsu (l:List UInt8) (n:Nat):lowL (l.take n)=(lowL l).take n:=by simp [lowL,List.map_take]
theorem qss (l:List UInt8) (n:Nat):lowL (l.drop n)=(lowL l).drop n:=by simp [lowL,List.map_drop]
theorem qst (l:List UInt8):(lowL l).length=l.length:=by simp [lowL]
theorem q1kk (a sub:List UInt8) (h:sub.length≤a.length):(a.take sub.length==sub)=sub.isPrefixOf a:=by
 rw [Bool.eq_iff_iff,beq_iff_eq,List.isPrefixOf_iff_prefix,List.prefix_iff_eq_take]
 exact eq_comm
theorem q9b (p t:ByteArray) (hp:p.size≤1000) (ht:t.size≤10000):∀ (m i:Nat),i+m=t.size+1→i≤t.size →
  (q119 p t i).bind (Sum.elim (fun r=>some (((r.1).1,(r.1).2),r.2)) (fun _=>some ((false,0),[])))=some ((contR ((lowL (L t)).drop i) (lowL (L p)),0),[]):=by
 intro m
 have hLp:=ql p
 have hLt:=ql t
 induction m with
 |zero=>intro i h1 h2;omega
 |succ m ih =>
  intro i him hit
  have hw:IntKind.i64.wrap ((i:Int)+(p.size:Int))=((i+p.size:Nat):Int):=by rw [IntWalk.i64_in _ (by omega)];omega
  by_cases hlen:i+p.size≤t.size
  ·have h1:((i+p.size:Nat):Int)≤(t.size:Int):=by omega
   have h0:(0:Int)≤((i+p.size:Nat):Int):=by omega
   have h2:(i:Int)≤((i+p.size:Nat):Int):=by omega
   have hsz:(t.extract i (i+p.size)).size≤9223372036854775807:=by
    rw [←ql,L_ext,List.length_take];omega
   have hal:=q12 (t.extract i (i+p.size)) p hsz
   have hpre:(lowL (L (t.extract i (i+p.size)))==lowL (L p))=(lowL (L p)).isPrefixOf ((lowL (L t)).drop i):=by
    rw [L_ext,show i+p.size - i=p.size by omega,qsu,qss,←q1kk _ _ (by rw [qst,List.length_drop,qst];omega),qst,hLp]
   rw [hpre] at hal
   have hcr:contR ((lowL (L t)).drop i) (lowL (L p))=((lowL (L p)).isPrefixOf ((lowL (L t)).drop i)||(decide (i<t.size)&&contR ((lowL (L t)).drop (i+1)) (lowL (L p)))):=by
    rcases Nat.lt_or_ge i t.size with h|h
    ·have:i<(lowL (L t)).length:=by rw [qst];omega
     rw [qag this,contR];simp [h]
    ·have hd:(lowL (L t)).drop i=[]:=List.drop_eq_nil_of_le (by rw [qst];omega)
     rw [hd,contR]
     have:¬ i<t.size:=by omega
     simp [this]
     cases lowL (L p) <;> rfl
   cases hpr:(lowL (L p)).isPrefixOf ((lowL (L t)).drop i) with
   |true =>
    have e1:q119 p t i=some (.inl ((true,0),[])):=q11b (by
     simp only [q11g,wI,p0,q7r,qn6,hw,h0,h1,h2,Int.toNat_natCast,hal,hpr,Option.bind_some,qg,decide_true,if_true,Bool.and_self,Int.natCast_nonneg])
    rw [e1,hcr,hpr];rfl
   |false =>
    have hw1:=q1m3 (k:=i) (n:=20000) (by omega) (by omega)
    have step:∀ r,q119 p t ((i+1:Nat):Int)=some r→q119 p t i=some r:=fun r hr=>q11b (by
     simp only [q11g,wI,p0,q7r,qn6,hw,h0,h1,h2,Int.toNat_natCast,hal,hpr,Option.bind_some,hw1,hr,decide_true,if_true,Bool.and_self,Int.natCast_nonneg,Bool.false_eq_true,if_false])
    rw [hcr,hpr]
    rcases Nat.lt_or_ge i t.size with h|h
    ·have ih':=ih (i+1) (by omega) (by omega)
     cases hz:q119 p t ((i+1:Nat):Int) with
     |none=>rw [hz] at ih';cases ih'
     |some r =>
      rw [step r hz,←hz,ih']
      simp [h]
    ·have hw2:IntKind.i64.wrap (((i+1:Nat):Int)+(p.size:Int))=((i+1+p.size:Nat):Int):=by rw [IntWalk.i64_in _ (by omega)];omega
     have h3:¬ ((i+1+p.size:Nat):Int)≤(t.size:Int):=by omega
     have e2:q119 p t ((i+1:Nat):Int)=some (.inr ((p,t,((i+1:Nat):Int),false),())):=q11b (by
      simp only [q11g,wI,p0,q7r,hw2,h3,decide_false,Bool.false_eq_true,if_false])
     rw [step _ e2]
     have:¬ i<t.size:=by omega
     simp [this]
  ·have h3:¬ ((i+p.size:Nat):Int)≤(t.size:Int):=by omega
   have e2:q119 p t (i:Int)=some (.inr ((p,t,(i:Int),false),())):=q11b (by
    simp only [q11g,wI,p0,q7r,hw,h3,decide_false,Bool.false_eq_true,if_false])
   rw [e2,q96 (by rw [List.length_drop,qst,qst];omega)]
   rfl
theorem qtb (kind:Int) (p t:ByteArray) (hp:p.size≤1000) (ht:t.size≤10000):q11h kind p t=some (matchedR kind (L p) (L t)):=q118 (by
 by_cases h1:kind=1
 ·have b1:(kind==1)=true:=by simpa using h1
  simp only [q11i,gL,dL,q7r,b1,if_true,q12 p t (by omega),Option.bind_some,qg]
  rw [matchedR,if_pos h1]
 have b1:(kind==1)=false:=by simpa using h1
 by_cases h2:kind=2
 ·have b2:(kind==2)=true:=by simpa using h2
  have hl:=q9b p t hp ht (t.size+1) 0 (by omega) (by omega)
  have hl':(q119 p t (0:Int)).bind (Sum.elim (fun r=>some (((r.1).1,(r.1).2),r.2)) (fun _=>some ((false,0),[])))=some ((contR (lowL (L t)) (lowL (L p)),0),[]):=hl
  simp only [q11i,gL,dL,q7r,qn6,b1,b2,if_true,Bool.false_eq_true,if_false,EC.decL_encL,EC.isL_encL,qg]
  rw [hl',matchedR,if_neg h1,if_pos h2]
 ·have b2:(kind==2)=false:=by simpa using h2
  simp only [q11i,gL,dL,q7r,qn6,b1,b2,if_true,Bool.false_eq_true,if_false,EC.decL_encL,EC.isL_encL,qg,q1hl p t hp ht,q1fi p.size p t (Nat.le_refl _) hp ht,Option.bind_some,matchedR,h1,h2]
  cases hc:canM (elems2 (L p)) (L t) with
  |true=>simp
  |false=>simp [wildR,hc])
def matchR (kind:Int) (p t:ByteArray):(Bool×Nat×(Int×Int))×List ByteArray :=
 if faultP kind p≠(0,0) then ((false,0,faultP kind p),[]) else if 4000<t.size then ((false,0,(1,-1)),[]) else (((matchedR kind (L p) (L t)).1.1,(matchedR kind (L p) (L t)).1.2,(0,0)),(matchedR kind (L p) (L t)).2)
set_option maxHeartbeats 1000000 in
theorem qta (kind:Int) (p t:ByteArray) (hp:p.size≤9223372036854775807) (ht:t.size≤9223372036854775807):qw2 kind p t=some (matchR kind p t):=qw1 (by
 by_cases hk1:kind<1
 ·have f:faultP kind p=(4,-2):=by rw [faultP,if_pos (.inl hk1)]
  simp only [qw3,gL,dL,q7r,hk1,decide_true,q7f,Bool.not_true,Bool.false_eq_true,if_false,qjs,Option.bind_some,qg,matchR,f]
  rfl
 by_cases hk3:3<kind
 ·have f:faultP kind p=(4,-2):=by rw [faultP,if_pos (.inr hk3)]
  have hk3':kind>3:=hk3
  simp only [qw3,gL,dL,q7r,hk1,hk3',decide_true,decide_false,q7f,Bool.not_false,if_true,qjs,Option.bind_some,qg,matchR,f]
  rfl
 have hk3':¬ kind>3:=hk3
 have hk:¬ (kind<1∨3<kind):=by omega
 by_cases hp2:200<p.size
 ·have f:faultP kind p=(1,-3):=by rw [faultP,if_neg hk,if_pos hp2]
  have hp2':(p.size:Int)>200:=by omega
  simp only [qw3,gL,dL,q7r,hk1,hk3',hp2',decide_true,decide_false,q7f,Bool.not_false,if_true,Bool.false_eq_true,if_false,qjs,Option.bind_some,qg,matchR,f]
  rfl
 have hp2':¬ (p.size:Int)>200:=by omega
 have hw:IntKind.i64.wrap ((p.size:Int) - 1)=(p.size:Int) - 1:=IntWalk.i64_in _ (by omega)
 have hel:=qb9 p (by omega)
 have hpar:=qbf (L p)
 -- behind the faults of the pattern
 have rest:faultP kind p=(0,0)→∀ X:Option ((Bool×Nat×(Int×Int))×List ByteArray),(4000<t.size→X=some ((false,0,(1,-1)),[]))→(¬ 4000<t.size→X=some (((matchedR kind (L p) (L t)).1.1,(matchedR kind (L p) (L t)).1.2,(0,0)),(matchedR kind (L p) (L t)).2))→X=some (matchR kind p t):=by
  intro f X h1 h2
  rw [matchR,if_neg (by simp [f])]
  by_cases h:4000<t.size
  ·rw [if_pos h];exact h1 h
  ·rw [if_neg h];exact h2 h
 have wl:∀ es,elems (L p)=some es→t.size≤4000→qxe es t=some (wildR (elems2 (L p)) (L t)):=by
  intro es he h
  have e:=qbe he
  subst e
  have:=qbb (L p)
  rw [ql] at this
  exact wild_s _ t (by omega) (by omega) (qba (L p))
 by_cases hk0:kind=3
 ·have b3:(kind==3)=true:=by simpa using hk0
  have b1:(kind==1)=false:=by simp [hk0]
  have b2:(kind==2)=false:=by simp [hk0]
  cases he:elems (L p) with
  |none =>
   have:tr (L p) % 2=1:=hpar.1 (by rw [he];rfl)
   have f:faultP kind p=(11,(p.size:Int) - 1):=by rw [faultP,if_neg hk,if_neg hp2,if_pos ⟨hk0,this⟩]
   rw [he] at hel
   simp only [qw3,gL,dL,q7r,hk1,hk3',hp2',b3,hel,hw,decide_false,q7f,q7g,Bool.not_false,if_true,Bool.false_eq_true,if_false,qjs,Option.bind_some,qg,matchR,f]
   simp
  |some es =>
   have hnp:¬ tr (L p) % 2=1:=fun h=>by have:=hpar.2 h;rw [he] at this;cases this
   have f:faultP kind p=(0,0):=by rw [faultP,if_neg hk,if_neg hp2,if_neg (fun h=>hnp h.2)]
   rw [he] at hel
   refine rest f _ (fun h4=>?_) (fun h4=>?_)
   ·have h4':(t.size:Int)>4000:=by omega
    simp only [qw3,gL,dL,q7r,hk1,hk3',hp2',b3,hel,h4',decide_true,decide_false,q7f,q7g,Bool.not_false,Bool.not_true,if_true,Bool.false_eq_true,if_false,qjs,Option.bind_some,qg]
   ·have h4':¬ (t.size:Int)>4000:=by omega
    have hm:matchedR kind (L p) (L t)=wildR (elems2 (L p)) (L t):=by rw [matchedR,if_neg (by omega),if_neg (by omega)]
    simp only [qw3,gL,dL,q7r,qn6,EC.decL_encL,EC.isL_encL,hk1,hk3',hp2',b1,b2,b3,hel,h4',wl es he (by omega),none_s,hm,decide_false,q7f,q7g,Bool.not_false,Bool.not_true,if_true,Bool.false_eq_true,if_false,Option.bind_some,qg]
 ·have b3:(kind==3)=false:=by simpa using hk0
  have f:faultP kind p=(0,0):=by rw [faultP,if_neg hk,if_neg hp2,if_neg (fun h=>hk0 h.1)]
  refine rest f _ (fun h4=>?_) (fun h4=>?_)
  ·have h4':(t.size:Int)>4000:=by omega
   simp only [qw3,gL,dL,q7r,hk1,hk3',hp2',b3,hel,h4',decide_true,decide_false,q7f,q7g,Bool.not_false,if_true,Bool.false_eq_true,if_false,qjs,Option.bind_some,qg]
  ·have h4':¬ (t.size:Int)>4000:=by omega
   by_cases h1:kind=1
   ·have b1:(kind==1)=true:=by simpa using h1
    have hm:matchedR kind (L p) (L t)=((lowL (L p)==lowL (L t),0),[]):=by rw [matchedR,if_pos h1]
    simp only [qw3,gL,dL,q7r,hk1,hk3',hp2',b1,b3,hel,h4',same_s p t hp ht,none_s,hm,decide_false,q7f,q7g,Bool.not_false,if_true,Bool.false_eq_true,if_false,Option.bind_some,qg]
   ·have b1:(kind==1)=false:=by simpa using h1
    have h2:kind=2:=by omega
    have b2:(kind==2)=true:=by simpa using h2
    have hm:matchedR kind (L p) (L t)=((contR (lowL (L t)) (lowL (L p)),0),[]):=by rw [matchedR,if_neg h1,if_pos h2]
    have hcp:contP (lowS t) (lowS p)=some (contR (lowL (L t)) (lowL (L p))):=by
     rw [contP,if_pos (by rw [qsr];omega),q95]
     rfl
    simp only [qw3,gL,dL,q7r,hk1,hk3',hp2',b1,b2,b3,hel,h4',qsw t ht,qsw p hp,hcp,none_s,hm,decide_false,q7f,q7g,Bool.not_false,if_true,Bool.false_eq_true,if_false,Option.bind_some,qg])
end Go.Proofs.YtokahibbkdbndaaGreatDoor
namespace Go.Proofs.YtokahibbkdbndaaGreatDoor
open Go.RowKit
theorem q1m1 {n:Int} (h:-9223372036854775808≤n∧n≤9223372036854775807):IntKind.i64.wrap n=n:=IntWalk.i64_in n h
theorem q1ly (a b:Int):IntKind.i64.wrap (IntKind.i64.wrap a+b)=IntKind.i64.wrap (a+b):=by simp only [IntKind.wrap_i64];omega
theorem q1lz (a b:Int):IntKind.i64.wrap (a+IntKind.i64.wrap b)=IntKind.i64.wrap (a+b):=by simp only [IntKind.wrap_i64];omega
theorem q1m2 {k n:Nat} (h:k<n) (hn:n≤9223372036854775807):IntKind.i64.wrap ((k:Int)+1)=((k+1:Nat):Int):=by rw [q1m1 (by omega)];rfl
theorem qjo (a b:Int):q5v a b=some (a != 0):=by
 refine q5u ?_
 simp [q5w]
mutual
def szR:S50→Nat
 |⟨_,_,_,_,_,_,_,t,e,_,_,_,_⟩=>1+szL t+szL e
def szL:List S50→Nat
 |[]=>0
 |r::l=>szR r+szL l
end
theorem q1hr (r:S50):szR r=1+szL r.Then+szL r.Else:=by cases r;rfl
theorem q1ho (a b:List S50):szL (a++b)=szL a+szL b:=by
 induction a with
 |nil=>simp [szL]
 |cons r a ih=>simp only [List.cons_append,szL,ih];omega
theorem q1hp {l:List S50} {r:S50} (h:r∈l):szR r≤szL l:=by
 induction l with
 |nil=>cases h
 |cons x l ih =>
  rcases List.mem_cons.1 h with rfl|h
  ·simp only [szL];omega
  ·have:=ih h;simp only [szL];omega
theorem q1ht {l:List S50} {r:S50} (h:r∈l):szL r.Then<szL l:=by have:=q1hp h;rw [q1hr] at this;omega
theorem q1hs {l:List S50} {r:S50} (h:r∈l):szL r.Else<szL l:=by have:=q1hp h;rw [q1hr] at this;omega
theorem q1hq {l:List S50} {k:Nat} (h:k<l.length):szL (l.take (k+1))=szL (l.take k)+szR l[k]:=by
 rw [List.take_succ_eq_append_getElem h,q1ho];simp [szL]
abbrev big:Nat:=1000000000000000
mutual
def okT:S48→Prop
 |⟨_,ts,_,_,_,_⟩=>ts.length≤big∧okTL ts
def okTL:List S48→Prop
 |[]=>True
 |r::l=>okT r∧okTL l
end
mutual
def okR:S50→Prop
 |⟨_,_,ts,_,_,_,_,t,e,_,nm,_,_⟩=>(ts.length≤big∧okTL ts)∧(t.length≤big∧okL t)∧(e.length≤big∧okL e)∧nm.size≤big
def okL:List S50→Prop
 |[]=>True
 |r::l=>okR r∧okL l
end
theorem okT_eq (t:S48):okT t ↔ t.Tests.length≤big∧okTL t.Tests:=by cases t;rfl
theorem qv6 (r:S50):okR r ↔ (r.Test_Tests.length≤big∧okTL r.Test_Tests)∧(r.Then.length≤big∧okL r.Then)∧(r.Else.length≤big∧okL r.Else)∧r.Name.size≤big:=by cases r;rfl
theorem qv7 {l:List S48} (h:okTL l) {t:S48} (ht:t∈l):okT t:=by
 induction l with
 |nil=>cases ht
 |cons x l ih =>
  rcases List.mem_cons.1 ht with rfl|ht
  ·exact h.1
  ·exact ih h.2 ht
theorem qv5 {l:List S50} (h:okL l) {r:S50} (hr:r∈l):okR r:=by
 induction l with
 |nil=>cases hr
 |cons x l ih =>
  rcases List.mem_cons.1 hr with rfl|hr
  ·exact h.1
  ·exact ih h.2 hr
mutual
def tzT:S48→Nat
 |⟨_,ts,_,_,_,_⟩=>1+tzL ts
def tzL:List S48→Nat
 |[]=>0
 |r::l=>tzT r+tzL l
end
theorem tzT_eq (t:S48):tzT t=1+tzL t.Tests:=by cases t;rfl
theorem tz_mem {l:List S48} {t:S48} (h:t∈l):tzT t≤tzL l:=by
 induction l with
 |nil=>cases h
 |cons x l ih =>
  rcases List.mem_cons.1 h with rfl|h
  ·simp only [tzL];omega
  ·have:=ih h;simp only [tzL];omega
theorem q1fy (l:List S50) (hl:l.length≤big) (ih:∀ r∈l,q1bm r.Then=some (IntKind.i64.wrap (szL r.Then))∧q1bm r.Else=some (IntKind.i64.wrap (szL r.Else))) :
  ∀ m k,k+m=l.length→∃ x,q1bf (IntKind.i64.wrap (szL (l.take k))) l l.length k=some x∧x.1.1=IntKind.i64.wrap (szL l):=by
 intro m
 induction m with
 |zero =>
  intro k hk
  have hk:k=l.length:=by omega
  subst hk
  refine ⟨((IntKind.i64.wrap (szL (l.take l.length)),l,(l.length:Int),(l.length:Int),false),()),q1bh (by
   simp only [q1bl,gL,dL,eC,wI,p0,uL,q7r,qn6,EC.decL_encL,EC.isL_encL,EC.encL_length,qqq,q4s,q4t]
   simp),?_⟩
  simp
 |succ m ihm =>
  intro k hk
  have hlt:k<l.length:=by omega
  obtain ⟨x,h1,h2⟩:=ihm (k+1) (by omega)
  obtain ⟨i1,i2⟩:=ih l[k] (List.getElem_mem hlt)
  refine ⟨x,q1bh ?_,h2⟩
  simp only [q1bl,gL,dL,eC,wI,p0,uL,q7r,qn6,EC.decL_encL,EC.isL_encL,EC.encL_length,qqq,q4s,q4t]
  have e1:((k:Int)<(l.length:Int)):=by omega
  simp only [e1,decide_true,if_true,show (0:Int)≤(k:Int) by omega,Int.toNat_natCast,hlt,Bool.and_self,qn9 hlt,i1,i2,Option.bind_some]
  have e2:IntKind.i64.wrap ((k:Int)+1)=((k+1:Nat):Int):=q1m2 hlt (by unfold big at hl;omega)
  have e3:IntKind.i64.wrap (IntKind.i64.wrap (szL (l.take k))+IntKind.i64.wrap (IntKind.i64.wrap (1+IntKind.i64.wrap (szL l[k].Then))+IntKind.i64.wrap (szL l[k].Else)))=IntKind.i64.wrap (szL (l.take (k+1))):=by
   rw [q1hq hlt,q1hr]
   simp only [q1ly,q1lz]
   congr 1 <;> omega
  rw [e2,e3]
  exact h1
theorem size_s (l:List S50) (hl:l.length≤big) (ho:okL l):q1bm l=some (IntKind.i64.wrap (szL l)):=by
 generalize hn:szL l=n
 induction n using Nat.strongRecOn generalizing l with
 |_ n ih =>
  subst hn
  obtain ⟨x,h1,h2⟩:=q1fy l hl (fun r hr=>by
   have:=(qv6 r).1 (qv5 ho hr)
   exact ⟨ih _ (q1ht hr) _ this.2.1.1 this.2.1.2 rfl,ih _ (q1hs hr) _ this.2.2.1.1 this.2.2.1.2 rfl⟩) l.length 0 (by omega)
  refine q1be ?_
  simp only [q1bn,gL,dL,lN,qn6,EC.decL_encL,EC.isL_encL,EC.encL_length]
  have e:q1bf 0 l l.length 0=some x:=h1
  simp [e,h2]
theorem q9d (l:List S50) (hl:l.length≤big) (ih:∀ r∈l,q100 r.Then=some (IntKind.i64.wrap (szL r.Then))∧q100 r.Else=some (IntKind.i64.wrap (szL r.Else))) :
  ∀ m k,k+m=l.length→∃ x,qzt l (IntKind.i64.wrap (szL (l.take k)+(l.length - k:Int))) k=some x∧x.1.2.1=IntKind.i64.wrap (szL l):=by
 intro m
 induction m with
 |zero =>
  intro k hk
  have hk:k=l.length:=by omega
  subst hk
  refine ⟨((l,IntKind.i64.wrap (szL (l.take l.length)+(l.length - l.length:Int)),(l.length:Int),false),()),qzv (by
   simp only [qzz,gL,dL,lN,eC,wI,p0,uL,q7r,qn6,EC.decL_encL,EC.isL_encL,EC.encL_length,qqq,q4s,q4t]
   simp),?_⟩
  simp
 |succ m ihm =>
  intro k hk
  have hlt:k<l.length:=by omega
  obtain ⟨x,h1,h2⟩:=ihm (k+1) (by omega)
  obtain ⟨i1,i2⟩:=ih l[k] (List.getElem_mem hlt)
  refine ⟨x,qzv ?_,h2⟩
  simp only [qzz,gL,dL,lN,eC,wI,p0,uL,q7r,qn6,EC.decL_encL,EC.isL_encL,EC.encL_length,qqq,q4s,q4t]
  have e1:((k:Int)<(l.length:Int)):=by omega
  simp only [e1,decide_true,if_true,show (0:Int)≤(k:Int) by omega,Int.toNat_natCast,hlt,Bool.and_self,qn9 hlt,i1,i2,Option.bind_some]
  have e2:IntKind.i64.wrap ((k:Int)+1)=((k+1:Nat):Int):=q1m2 hlt (by unfold big at hl;omega)
  have e3:IntKind.i64.wrap (IntKind.i64.wrap (szL (l.take k)+(l.length - k:Int))+IntKind.i64.wrap (IntKind.i64.wrap (szL l[k].Then)+IntKind.i64.wrap (szL l[k].Else)))=IntKind.i64.wrap (szL (l.take (k+1))+(l.length - (k+1:Nat):Int)):=by
   rw [q1hq hlt,q1hr]
   simp only [q1ly,q1lz]
   congr 1 <;> omega
  rw [e2,e3]
  exact h1
theorem q9e (l:List S50) (hl:l.length≤big) (ho:okL l):q100 l=some (IntKind.i64.wrap (szL l)):=by
 generalize hn:szL l=n
 induction n using Nat.strongRecOn generalizing l with
 |_ n ih =>
  subst hn
  obtain ⟨x,h1,h2⟩:=q9d l hl (fun r hr=>by
   have:=(qv6 r).1 (qv5 ho hr)
   exact ⟨ih _ (q1ht hr) _ this.2.1.1 this.2.1.2 rfl,ih _ (q1hs hr) _ this.2.2.1.1 this.2.2.1.2 rfl⟩) l.length 0 (by omega)
  refine qzs ?_
  simp only [q101,gL,dL,lN,qn6,EC.decL_encL,EC.isL_encL,EC.encL_length]
  have e:qzt l l.length 0=some x:=by
   have e0:IntKind.i64.wrap (szL (l.take 0)+(l.length - (0:Nat):Int))=(l.length:Int):=by
    simp only [List.take_zero,szL]
    rw [q1m1 (by unfold big at hl;omega)]
    omega
   rw [e0] at h1
   exact h1
  simp [e,h2]
def em (s:ByteArray):Bool:=(ByteArray.toList s)==(ByteArray.toList (ByteArray.mk (List.toArray [])))
theorem qbg (s:ByteArray):((ByteArray.toList s)==(ByteArray.toList (ByteArray.mk (List.toArray []))))=em s:=rfl
theorem qbh (s:ByteArray):em s=decide (s.size=0):=by
 have e0:ByteArray.toList (ByteArray.mk (List.toArray []))=[]:=by rw [ByteArray.toList_eq]
 have hl:(ByteArray.toList s).length=s.size:=by rw [ByteArray.toList_eq,Array.length_toList];rfl
 unfold em
 rw [e0]
 cases h:ByteArray.toList s with
 |nil=>rw [h] at hl;simp at hl;simp [←hl]
 |cons x l =>
  rw [h] at hl
  simp only [List.length_cons] at hl
  have h0:s.size≠0:=by omega
  simp [h0]
theorem used_s (k:Int):q1e0 k=some (k==5||k==9,k==5||k==6||k==7,k==8):=by
 refine q1dz ?_
 simp only [q1e1,q7r]
 by_cases h5:k=5
 ·subst h5;rfl
 by_cases h6:k=6
 ·subst h6;rfl
 by_cases h7:k=7
 ·subst h7;rfl
 by_cases h8:k=8
 ·subst h8;rfl
 by_cases h9:k=9
 ·subst h9;rfl
 simp [h5,h6,h7,h8,h9]
def innerB (k:Int) (n:Nat):Bool:=if k=2 then n==1 else if k=3∨k=4 then decide (1≤n)&&decide (n≤60) else n==0
theorem qq8 (k:Int) (ts:List S48) (nm:ByteArray) (p:Int) (tx:ByteArray) (n:Int):q1cl k ts nm p tx n=some (innerB k ts.length):=by
 refine q1ck ?_
 simp only [q1cm,lN,q7r,EC.encL_length]
 unfold innerB
 by_cases h2:k=2
 ·subst h2;simp;rw [Bool.eq_iff_iff];simp;omega
 by_cases h3:k=3
 ·subst h3;by_cases h:1≤ts.length <;> simp [h,show ((1:Int)≤ts.length) ↔ 1≤ts.length by omega,show ((ts.length:Int)≤60) ↔ ts.length≤60 by omega]
 by_cases h4:k=4
 ·subst h4;by_cases h:1≤ts.length <;> simp [h,show ((1:Int)≤ts.length) ↔ 1≤ts.length by omega,show ((ts.length:Int)≤60) ↔ ts.length≤60 by omega]
 simp [h2,h3,h4]
 rw [Bool.eq_iff_iff];simp
def tHead (k:Int) (nt:Nat) (nm:ByteArray) (p:Int) (tx:ByteArray) (n d:Int):Int :=
 if decide (d>8)=true then 5
 else if (decide (k<1)||decide (k>9))=true then 4
 else if (!innerB k nt)=true then 5
 else if ((!(k==5||k==9)&&!em nm)||(!(k==5||k==6||k==7)&&(!(p==0)||!em tx))||(!(k==8)&&!(n==0)))=true then 5
 else if ((k==5||k==9)&&(em nm||decide ((nm.size:Int)>60)))=true then 10
 else if ((k==5||k==6||k==7)&&(decide (p<1)||decide (p>3)))=true then 4
 else if decide ((tx.size:Int)>200)=true then 1
 else if (decide (n<0)||decide (n>1000000))=true then 3
 else 0
mutual
def tfT:S48→Nat→Int
 |⟨k,ts,nm,p,tx,n⟩,d=>if tHead k ts.length nm p tx n d≠0 then tHead k ts.length nm p tx n d else tfL ts (d+1)
def tfL:List S48→Nat→Int
 |[],_=>0
 |t::ts,d=>if tfT t d≠0 then tfT t d else tfL ts d
end
theorem tfT_eq (t:S48) (d:Nat):tfT t d=if tHead t.Kind t.Tests.length t.Name t.Pattern t.Text t.N d≠0 then tHead t.Kind t.Tests.length t.Name t.Pattern t.Text t.N d else tfL t.Tests (d+1):=by cases t;rfl
theorem q1km (d:Nat) (hd:d≤8) (ts:List S48) (hl:ts.length≤big) (ih:∀ t∈ts,q1do t.Kind t.Tests t.Name t.Pattern t.Text t.N ((d+1:Nat):Int)=some (tfT t (d+1))) :
  ∀ m k,k+m=ts.length→∃ x,q1dg d ts ts.length k=some x∧Sum.elim (fun r=>r.1) (fun _=>0) x=tfL (ts.drop k) (d+1):=by
 intro m
 induction m with
 |zero =>
  intro k hk
  have hk:k=ts.length:=by omega
  subst hk
  refine ⟨.inr (((d:Int),ts,(ts.length:Int),(ts.length:Int),false),()),q1di (by
   simp only [q1dn,z1r,gL,dL,eC,wI,p0,uL,q7r,qn6,EC.decL_encL,EC.isL_encL,EC.encL_length,qqp,q4b,q4c,q4d,q4e,q4f,q4g]
   simp),?_⟩
  simp [tfL]
 |succ m ihm =>
  intro k hk
  have hlt:k<ts.length:=by omega
  have i1:=ih ts[k] (List.getElem_mem hlt)
  have e1:((k:Int)<(ts.length:Int)):=by omega
  have e2:IntKind.i64.wrap ((k:Int)+1)=((k+1:Nat):Int):=q1m2 hlt (by unfold big at hl;omega)
  have e3:IntKind.i64.wrap ((d:Int)+1)=((d+1:Nat):Int):=q1m2 (n:=100) (by omega) (by omega)
  rw [qag hlt,tfL]
  by_cases h0:tfT ts[k] (d+1)=0
  ·obtain ⟨x,h1,h2⟩:=ihm (k+1) (by omega)
   refine ⟨x,q1di ?_,?_⟩
   ·simp only [q1dn,z1r,gL,dL,eC,wI,p0,uL,q7r,qn6,EC.decL_encL,EC.isL_encL,EC.encL_length,qqp,q4b,q4c,q4d,q4e,q4f,q4g]
    simp only [e1,decide_true,if_true,show (0:Int)≤(k:Int) by omega,Int.toNat_natCast,hlt,Bool.and_self,qn9 hlt,e3,i1,Option.bind_some,h0,e2]
    exact h1
   ·rw [if_neg (by simpa using h0)];exact h2
  ·refine ⟨.inl (tfT ts[k] (d+1),()),q1di ?_,?_⟩
   ·simp only [q1dn,z1r,gL,dL,eC,wI,p0,uL,q7r,qn6,EC.decL_encL,EC.isL_encL,EC.encL_length,qqp,q4b,q4c,q4d,q4e,q4f,q4g]
    simp only [e1,decide_true,if_true,show (0:Int)≤(k:Int) by omega,Int.toNat_natCast,hlt,Bool.and_self,qn9 hlt,e3,i1,Option.bind_some]
    simp [h0]
   ·rw [if_pos h0];rfl
theorem q1kl (k:Int) (ts:List S48) (nm:ByteArray) (p:Int) (tx:ByteArray) (n:Int) (d:Nat) (e:Int) (hg:d≤8→q1d9 d k ts nm p tx n=some (e,())) :
  q1do k ts nm p tx n d=some (if (tHead k ts.length nm p tx n d != 0)=true then tHead k ts.length nm p tx n d else e):=by
 refine q1d8 ?_
 simp only [q1dp,z1s,z1t,z1u,z1v,z1w,z1x,z1y,z1z,gL,dL,q7r,qn6,EC.decL_encL,EC.isL_encL,used_s,qq8,Option.bind_some,qbg,if_true]
 unfold tHead
 cases hd:decide ((d:Int)>8) with
 |true=>rfl
 |false =>
 rw [hg (by have:=of_decide_eq_false hd;omega)]
 simp only [bne,Option.bind_some]
 generalize (k==5||k==9)=c1
 generalize (k==5||k==6||k==7)=c2
 generalize (k==8)=c3
 generalize decide (k<1)=a1
 generalize decide (k>9)=a2
 generalize innerB k ts.length=a3
 generalize em nm=b1
 generalize decide ((nm.size:Int)>60)=b2
 generalize (p==0)=b3
 generalize decide (p<1)=b4
 generalize decide (p>3)=b5
 generalize em tx=b6
 generalize decide ((tx.size:Int)>200)=b7
 generalize (n==0)=b8
 generalize decide (n<0)=b9
 generalize decide (n>1000000)=b10
 cases a1 <;> first|rfl|skip
 cases a2 <;> first|rfl|skip
 cases a3 <;> first|rfl|skip
 cases c1 <;> cases b1 <;> first|rfl|skip
 all_goals cases c2 <;> cases b3 <;> first|rfl|skip
 all_goals cases b6 <;> first|rfl|skip
 all_goals cases c3 <;> cases b8 <;> first|rfl|skip
 all_goals cases b2 <;> first|rfl|skip
 all_goals cases b4 <;> first|rfl|skip
 all_goals cases b5 <;> first|rfl|skip
 all_goals cases b7 <;> first|rfl|skip
 all_goals cases b9 <;> first|rfl|skip
 all_goals cases b10 <;> rfl
theorem test_s (t:S48) (ho:okT t) (d:Nat):q1do t.Kind t.Tests t.Name t.Pattern t.Text t.N d=some (tfT t d):=by
 generalize hn:tzT t=n
 induction n using Nat.strongRecOn generalizing t d with
 |_ n ih =>
  subst hn
  obtain ⟨hl,hol⟩:=(okT_eq t).1 ho
  rw [q1kl (e:=tfL t.Tests (d+1)),tfT_eq]
  ·congr 1
   by_cases h:tHead t.Kind t.Tests.length t.Name t.Pattern t.Text t.N d=0 <;> simp [h]
  ·intro hd
   obtain ⟨x,h1,h2⟩:=q1km d hd t.Tests hl (fun t' ht'=>ih (tzT t') (by have:=tz_mem ht';rw [tzT_eq t];omega) t' (qv7 hol ht') (d+1) rfl) t.Tests.length 0 (by omega)
   refine q1db ?_
   simp only [q1df,gL,dL,lN,qn6,EC.decL_encL,EC.isL_encL,EC.encL_length]
   have e:q1dg d t.Tests t.Tests.length 0=some x:=h1
   rw [List.drop_zero] at h2
   simp only [if_true,e,Option.bind_some]
   cases x <;> simp only [Sum.elim_inl,Sum.elim_inr] at h2 ⊢ <;> rw [←h2]
end Go.Proofs.YtokahibbkdbndaaGreatDoor
