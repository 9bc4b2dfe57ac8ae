/- The different simple tests of a script: what the program collects. -/
import Derived.Test.YtokahibbkdbndaaGreatDoorH9
import Derived.Test.YtokahibbkdbndaaGreatDoorZ33
import Derived.Test.YtokahibbkdbndaaGreatDoorZ25
namespace Go.Proofs.YtokahibbkdbndaaGreatDoor
open Go.RowKit
def sameB (a b:S48):Bool:=a.Kind==b.Kind&&(a.Name.toList==b.Name.toList&&(a.Pattern==b.Pattern&&(a.Text.toList==b.Text.toList&&a.N==b.N)))
theorem q1j9 (a b:S48):q1hu a.Kind a.Tests a.Name a.Pattern a.Text a.N b.Kind b.Tests b.Name b.Pattern b.Text b.N=some (sameB a b):=by
 refine q1ht ?_
 simp only [q1hv,q26i,sameB]
 cases (a.Kind==b.Kind) <;> cases (a.Name.toList==b.Name.toList) <;> cases (a.Pattern==b.Pattern) <;> cases (a.Text.toList==b.Text.toList) <;> cases (a.N==b.N) <;> rfl
theorem q1e4 (a b:S48):q1e5 a.Kind a.Tests a.Name a.Pattern a.Text a.N b.Kind b.Tests b.Name b.Pattern b.Text b.N=some (sameB a b):=by
 refine q1e3 ?_
 simp only [q1e6,q26z,EC.decL_encL,EC.isL_encL,q1j9,if_true,Option.bind_some]
def fnd:List S48→S48→Nat→Int
 |[],_,_=>-1
 |x::l,t,k=>if sameB x t=true then (k:Int) else fnd l t (k+1)
theorem q1e7 (l:List S48) (hl:l.length≤big) (t:S48):∀ m k,k+m=l.length→∃ x,q1c8 l l.length k t.Kind t.Tests t.Name t.Pattern t.Text t.N=some x∧Sum.elim (fun r=>r.1) (fun _=>-1) x=fnd (l.drop k) t k:=by
 intro m
 induction m with
 |zero =>
  intro k hk
  have hk:k=l.length:=by omega
  subst hk
  refine ⟨.inr ((l,(),(l.length:Int),(l.length:Int),false),(t.Kind,t.Tests,t.Name,t.Pattern,t.Text,t.N)),q1ca (by
   simp only [q1cf,q26i,q26z,EC.decL_encL,EC.isL_encL,EC.encL_length,q276,q3v,q3w,q3x,q3y,q3z,q40]
   simp),?_⟩
  rw [List.drop_length];rfl
 |succ m ihm =>
  intro k hk
  have hlt:k<l.length:=by omega
  have e1:decide ((k:Int)<(l.length:Int))=true:=by simp;omega
  have e0:decide ((0:Int)≤(k:Int))=true:=by simp
  have e2:IntKind.i64.wrap ((k:Int)+1)=((k+1:Nat):Int):=q27y hlt (by unfold big at hl;omega)
  have hd2:decide (k<l.length)=true:=by simp [hlt]
  rw [q97 hlt,fnd]
  cases hs:sameB l[k] t with
  |true =>
   refine ⟨.inl ((k:Int),(t.Kind,t.Tests,t.Name,t.Pattern,t.Text,t.N)),q1ca ?_,rfl⟩
   simp only [q1cf,q26i,q26z,EC.decL_encL,EC.isL_encL,EC.encL_length,q276,q3v,q3w,q3x,q3y,q3z,q40,e1,e0,if_true,Int.toNat_natCast,hd2,Bool.and_self,qik hlt,q1e4,Option.bind_some,hs]
  |false =>
   obtain ⟨x,h1,h2⟩:=ihm (k+1) (by omega)
   refine ⟨x,q1ca ?_,h2⟩
   simp only [q1cf,q26i,q26z,EC.decL_encL,EC.isL_encL,EC.encL_length,q276,q3v,q3w,q3x,q3y,q3z,q40,e1,e0,if_true,Int.toNat_natCast,hd2,Bool.and_self,qik hlt,q1e4,Option.bind_some,hs,Bool.false_eq_true,if_false,e2]
   exact h1
theorem find_s (l:List S48) (hl:l.length≤big) (t:S48):q1ho l t.Kind t.Tests t.Name t.Pattern t.Text t.N=some (fnd l t 0):=by
 obtain ⟨x,h1,h2⟩:=q1e7 l hl t l.length 0 (by omega)
 refine q1hn ?_
 have e:q1c8 l l.length 0 t.Kind t.Tests t.Name t.Pattern t.Text t.N=some x:=h1
 have e':∃ z,q1c5 l t.Kind t.Tests t.Name t.Pattern t.Text t.N=some z∧z.1=fnd l t 0:=by
  rw [List.drop_zero] at h2
  cases x with
  |inl r=>exact ⟨_,q1c7 (by simp only [q1cj,q26z,EC.decL_encL,EC.isL_encL,EC.encL_length,if_true,e,Option.bind_some,Sum.elim_inl];rfl),h2⟩
  |inr r=>exact ⟨_,q1c7 (by simp only [q1cj,q26z,EC.decL_encL,EC.isL_encL,EC.encL_length,if_true,e,Option.bind_some,Sum.elim_inr];rfl),h2⟩
 obtain ⟨z,e1,e2⟩:=e'
 simp only [q1hp,q26z,EC.decL_encL,EC.isL_encL,if_true,e1,Option.bind_some,e2]
def hasB (l:List S48) (t:S48):Bool:=l.any fun x=>sameB x t
theorem q1e9 (l:List S48) (t:S48):∀ k:Nat,decide (fnd l t k<0)=!hasB l t:=by
 induction l with
 |nil=>intro k;rfl
 |cons x l ih =>
  intro k
  unfold fnd hasB
  rw [List.any_cons]
  cases hs:sameB x t with
  |true=>simp
  |false=>simp only [Bool.false_eq_true,if_false,Bool.false_or];exact ih (k+1)
def addT (l:List S48) (t:S48):List S48:=if (decide (t.Kind > 4)&&!hasB l t)=true then l++[t] else l
mutual
def colT:List S48→S48→List S48
 |l,⟨k,ts,nm,p,tx,n⟩=>colL (addT l ⟨k,ts,nm,p,tx,n⟩) ts
def colL:List S48→List S48→List S48
 |l,[]=>l
 |l,t::ts=>colL (colT l t) ts
end
theorem q12z (l:List S48) (t:S48):colT l t=colL (addT l t) t.Tests:=by cases t;rfl
theorem q12o (l:List S48) (t:S48):(addT l t).length≤l.length+1:=by unfold addT;split <;> simp
mutual
theorem q132:∀ (t:S48) (l:List S48),(colT l t).length≤l.length+tzT t
 |⟨k,ts,nm,p,tx,n⟩,l=>by
  have h1:=q12x ts (addT l ⟨k,ts,nm,p,tx,n⟩)
  have h2:=q12o l ⟨k,ts,nm,p,tx,n⟩
  simp only [colT,tzT]
  omega
theorem q12x:∀ (ts:List S48) (l:List S48),(colL l ts).length≤l.length+tzL ts
 |[],l=>by simp [colL,tzL]
 |t::ts,l=>by
  have h1:=q12x ts (colT l t)
  have h2:=q132 t l
  simp only [colL,tzL]
  omega
end
theorem q1a5 {ts:List S48} {k:Nat} (h:k<ts.length):tzL (ts.drop k)=tzT ts[k]+tzL (ts.drop (k+1)):=by rw [q97 h];rfl
theorem q1je (t:S48):q1i0 t.Kind t.Tests t.Name t.Pattern t.Text t.N=some (decide (t.Kind > 4)):=q1hz rfl
abbrev many:Nat:=1000000000
theorem q1dv (ts:List S48) (hl:ts.length≤big) (ih:∀ t∈ts,∀ l:List S48,l.length+tzT t≤many→q1h6 l.length t.Kind t.Tests t.Name t.Pattern t.Text t.N l=some ((colT l t).length,(colT l t).length,colT l t)) :
  ∀ m k (l:List S48),k+m=ts.length→l.length+tzL (ts.drop k)≤many→∃ x,q1h9 l.length ts ts.length k l=some x∧x.1.1=(colL l (ts.drop k)).length∧x.2=colL l (ts.drop k):=by
 intro m
 induction m with
 |zero =>
  intro k l hk _
  have hk:k=ts.length:=by omega
  subst hk
  refine ⟨((l.length,ts,(ts.length:Int),(ts.length:Int),false),l),q1hb (by
   simp only [q1hf,q26i,q26z,EC.decL_encL,EC.isL_encL,EC.encL_length,q276,q3v,q3w,q3x,q3y,q3z,q40]
   simp),?_⟩
  rw [List.drop_length];exact ⟨rfl,rfl⟩
 |succ m ihm =>
  intro k l hk hb
  have hlt:k<ts.length:=by omega
  have e1:decide ((k:Int)<(ts.length:Int))=true:=by simp;omega
  have e0:decide ((0:Int)≤(k:Int))=true:=by simp
  have e2:IntKind.i64.wrap ((k:Int)+1)=((k+1:Nat):Int):=q27y hlt (by unfold big at hl;omega)
  have hd2:decide (k<ts.length)=true:=by simp [hlt]
  rw [q1a5 hlt] at hb
  have hi:=ih ts[k] (List.getElem_mem hlt) l (by omega)
  have hlen:=q132 ts[k] l
  obtain ⟨x,h1,h2,h3⟩:=ihm (k+1) (colT l ts[k]) (by omega) (by omega)
  refine ⟨x,q1hb ?_,?_,?_⟩
  ·simp only [q1hf,q26i,q26z,EC.decL_encL,EC.isL_encL,EC.encL_length,q276,q3v,q3w,q3x,q3y,q3z,q40,e1,e0,if_true,Int.toNat_natCast,hd2,Bool.and_self,qik hlt,hi,Option.bind_some,e2]
   exact h1
  ·rw [q97 hlt,colL];exact h2
  ·rw [q97 hlt,colL];exact h3
theorem q1dw:∀ (q:Nat) (t:S48),tzT t=q→okT t→∀ l:List S48,l.length+tzT t≤many→q1h6 l.length t.Kind t.Tests t.Name t.Pattern t.Text t.N l=some ((colT l t).length,(colT l t).length,colT l t):=by
 intro q
 induction q using Nat.strongRecOn with
 |_ q ih =>
  intro t hq ho l hb
  obtain ⟨hl,hol⟩:=(okT_eq t).1 ho
  have hz:=tzT_eq t
  have hlb:l.length≤big:=by unfold many at hb;unfold big;omega
  have ha:=q12o l t
  obtain ⟨x,h1,h2,h3⟩:=q1dv t.Tests hl (fun t' ht' l' hb'=>ih (tzT t') (by have:=tz_mem ht';omega) t' rfl (qpb hol ht') l' hb') t.Tests.length 0 (addT l t) (by omega) (by rw [List.drop_zero];omega)
  have h1:q1h9 (addT l t).length t.Tests t.Tests.length 0 (addT l t)=some x:=h1
  rw [List.drop_zero] at h2 h3
  rw [q12z]
  refine q1h8 ?_
  simp only [q1hj,q26i,q26z,EC.decL_encL,EC.isL_encL,EC.encL_length,all_48,apd_48,q1je,find_s l hlb,Option.bind_some,if_true,q1e9]
  unfold addT at h1 h2 h3
  cases hk:decide (t.Kind > 4) with
  |false =>
   rw [hk] at h1 h2 h3
   simp only [Bool.false_and,Bool.false_eq_true,if_false] at h1 h2 h3
   simp [addT,hk,h1,h2,h3]
  |true =>
   cases hh:hasB l t with
   |true =>
    rw [hk,hh] at h1 h2 h3
    simp only [Bool.not_true,Bool.and_false,Bool.false_eq_true,if_false] at h1 h2 h3
    simp [addT,hk,hh,h1,h2,h3]
   |false =>
    rw [hk,hh] at h1 h2 h3
    simp only [Bool.not_false,Bool.and_self,if_true,List.length_append,List.length_cons,List.length_nil,Nat.zero_add] at h1 h2 h3
    have g1:(l.length+1+(l.length+1) / 4+192)*80≤281474976710656:=by unfold many at hb;omega
    have g2:l.length+1≤9223372036854775807:=by unfold many at hb;omega
    simp [addT,hk,hh,g1,g2]
    rw [eta_T t,h1]
    simp [h2,h3]
end Go.Proofs.YtokahibbkdbndaaGreatDoor
namespace Go.Proofs.YtokahibbkdbndaaGreatDoor
open Go.RowKit
mutual
def tsR:List S48→S50→List S48
 |l,⟨kd,k,ts,nm,p,tx,n,t,e,_,_,_,_⟩=>tsL (tsL (if (kd==1)=true then colT l ⟨k,ts,nm,p,tx,n⟩ else l) t) e
def tsL:List S48→List S50→List S48
 |l,[]=>l
 |l,r::rs=>tsL (tsR l r) rs
end
theorem tsR_eq (l:List S48) (r:S50):tsR l r=tsL (tsL (if (r.Kind==1)=true then colT l (tOf r) else l) r.Then) r.Else:=by cases r;rfl
mutual
theorem q1a2:∀ (r:S50) (l:List S48),(tsR l r).length≤l.length+tsz r
 |⟨kd,k,ts,nm,p,tx,n,t,e,a1,a2,a3,a4⟩,l=>by
  have h1:=q19z e (tsL (if (kd==1)=true then colT l ⟨k,ts,nm,p,tx,n⟩ else l) t)
  have h2:=q19z t (if (kd==1)=true then colT l ⟨k,ts,nm,p,tx,n⟩ else l)
  have h3:(if (kd==1)=true then colT l ⟨k,ts,nm,p,tx,n⟩ else l).length≤l.length+tzT ⟨k,ts,nm,p,tx,n⟩:=by
   split
   ·exact q132 _ _
   ·omega
  simp only [tsR,tsz]
  omega
theorem q19z:∀ (rs:List S50) (l:List S48),(tsL l rs).length≤l.length+tszL rs
 |[],l=>by simp [tsL,tszL]
 |r::rs,l=>by
  have h1:=q19z rs (tsR l r)
  have h2:=q1a2 r l
  simp only [tsL,tszL]
  omega
end
theorem q1a4 {l:List S50} {k:Nat} (h:k<l.length):tszL (l.drop k)=tsz l[k]+tszL (l.drop (k+1)):=by rw [q97 h];rfl
theorem q1jp (s:List S50) (hl:s.length≤big) (ho:okL s) (ih:∀ r∈s,(∀ l:List S48,l.length+tszL r.Then≤many→q1i2 l.length r.Then l=some ((tsL l r.Then).length,(tsL l r.Then).length,tsL l r.Then))∧(∀ l:List S48,l.length+tszL r.Else≤many→q1i2 l.length r.Else l=some ((tsL l r.Else).length,(tsL l r.Else).length,tsL l r.Else))) :
  ∀ m k (l:List S48),k+m=s.length→l.length+tszL (s.drop k)≤many→∃ x,q1i5 l.length s s.length k l=some x∧x.1.1=(tsL l (s.drop k)).length∧x.2=tsL l (s.drop k):=by
 intro m
 induction m with
 |zero =>
  intro k l hk _
  have hk:k=s.length:=by omega
  subst hk
  refine ⟨((l.length,s,(s.length:Int),(s.length:Int),false),l),q1i7 (by
   simp only [q1ib,q26i,q26z,EC.decL_encL,EC.isL_encL,EC.encL_length,q277,q41,q42,q46,q47,q48,q49,q4a,q4b,q4c]
   simp),?_⟩
  rw [List.drop_length];exact ⟨rfl,rfl⟩
 |succ m ihm =>
  intro k l hk hb
  have hlt:k<s.length:=by omega
  have e1:decide ((k:Int)<(s.length:Int))=true:=by simp;omega
  have e0:decide ((0:Int)≤(k:Int))=true:=by simp
  have e2:IntKind.i64.wrap ((k:Int)+1)=((k+1:Nat):Int):=q27y hlt (by unfold big at hl;omega)
  have hd2:decide (k<s.length)=true:=by simp [hlt]
  rw [q1a4 hlt,tsz_eq] at hb
  obtain ⟨⟨o1,o2⟩,_⟩:=(q27h s[k]).1 (qpa ho (List.getElem_mem hlt))
  obtain ⟨i1,i2⟩:=ih s[k] (List.getElem_mem hlt)
  have hc:=q1dw _ (tOf s[k]) rfl ⟨o1,o2⟩ l (by omega)
  have hc:q1h6 l.length s[k].Test_Kind s[k].Test_Tests s[k].Test_Name s[k].Test_Pattern s[k].Test_Text s[k].Test_N l=_:=hc
  have hcl:=q132 (tOf s[k]) l
  have hrl:=q1a2 s[k] l
  rw [tsz_eq] at hrl
  obtain ⟨x,h1,h2,h3⟩:=ihm (k+1) (tsR l s[k]) (by omega) (by omega)
  refine ⟨x,q1i7 ?_,?_,?_⟩
  ·rw [tsR_eq] at h1
   simp only [q1ib,q26i,q26z,EC.decL_encL,EC.isL_encL,EC.encL_length,q277,q41,q42,q46,q47,q48,q49,q4a,q4b,q4c,e1,e0,if_true,Int.toNat_natCast,hd2,Bool.and_self,qik hlt,e2]
   cases hk1:(s[k].Kind==1) with
   |true =>
    rw [hk1,if_pos rfl] at h1
    have hl1:=q19z s[k].Then (colT l (tOf s[k]))
    simp only [if_true,hc,Option.bind_some,i1 (colT l (tOf s[k])) (by omega),i2 (tsL (colT l (tOf s[k])) s[k].Then) (by omega)]
    exact h1
   |false =>
    rw [hk1,if_neg (by decide)] at h1
    have hl1:=q19z s[k].Then l
    simp only [Bool.false_eq_true,if_false,Option.bind_some,i1 l (by omega),i2 (tsL l s[k].Then) (by omega)]
    exact h1
  ·rw [q97 hlt,tsL];exact h2
  ·rw [q97 hlt,tsL];exact h3
theorem q1jq:∀ (q:Nat) (s:List S50),szL s=q→s.length≤big→okL s→∀ l:List S48,l.length+tszL s≤many→q1i2 l.length s l=some ((tsL l s).length,(tsL l s).length,tsL l s):=by
 intro q
 induction q using Nat.strongRecOn with
 |_ q ih =>
  intro s hq hl ho l hb
  obtain ⟨x,h1,h2,h3⟩:=q1jp s hl ho (fun r hr=>by
   have:=(q27h r).1 (qpa ho hr)
   exact ⟨fun l hb=>ih _ (hq ▸ qz5 hr) r.Then rfl this.2.1.1 this.2.1.2 l hb,fun l hb=>ih _ (hq ▸ qz4 hr) r.Else rfl this.2.2.1.1 this.2.2.1.2 l hb⟩) s.length 0 l (by omega) (by rw [List.drop_zero];exact hb)
  have e:q1i5 l.length s s.length 0 l=some x:=h1
  rw [List.drop_zero] at h2 h3
  refine q1i4 ?_
  simp only [q1if,q26z,EC.decL_encL,EC.isL_encL,EC.encL_length,if_true,e,Option.bind_some,h2,h3]
theorem room {n:Nat} (h:n≤many):(n+n / 4+192)*80≤281474976710656:=by unfold many at h;omega
def bitB (o i:Int):Bool:=(o / (2 ^ i.toNat)) % 2==1
theorem bit_p (o:Int) (ho:0≤o) (i:Nat) (hi:i≤60):(IntKind.i64.wrap (((BitVec.ofInt (IntKind.bits IntKind.i64) (Int.fdiv o ((2:Int) ^ (Min.min (Int.toNat (i:Int)) (IntKind.bits IntKind.i64)))) &&& BitVec.ofInt (IntKind.bits IntKind.i64) 1).toNat:Nat):Int)==1)=bitB o i:=by
 have hm:Min.min (Int.toNat (i:Int)) (IntKind.bits IntKind.i64)=i:=by
  show Nat.min _ 64=i
  rw [Int.toNat_natCast];exact Nat.min_eq_left (by omega)
 have hp:(0:Int)<2 ^ i:=Int.pow_pos (by decide)
 rw [hm,Int.fdiv_eq_ediv_of_nonneg _ (Int.le_of_lt hp)]
 have hx:0≤o / 2 ^ i:=Int.ediv_nonneg ho (Int.le_of_lt hp)
 unfold bitB
 rw [Int.toNat_natCast]
 generalize o / 2 ^ i=x at hx
 change (IntKind.i64.wrap (((BitVec.ofInt 64 x &&& BitVec.ofInt 64 1).toNat:Nat):Int)==1)=_
 have e:(BitVec.ofInt 64 x &&& BitVec.ofInt 64 1).toNat=(x % 18446744073709551616).toNat % 2:=by
  rw [BitVec.toNat_and,show (BitVec.ofInt 64 1).toNat=1 from rfl,Nat.and_one_is_mod,BitVec.toNat_ofInt]
  rfl
 rw [e]
 have h2:(x % 18446744073709551616).toNat % 2=(x % 2).toNat:=by omega
 rw [h2]
 rcases (by omega:x % 2=0∨x % 2=1) with h|h <;> rw [h] <;> decide
mutual
def hT (o:Int) (c:List S48):S48→Bool
 |⟨k,l,nm,p,tx,n⟩=>if (k==1)=true then true else if (k==2)=true then !hHd o c l else if (k==3)=true then hAll o c l else if (k==4)=true then hAny o c l else bitB o (fnd c ⟨k,l,nm,p,tx,n⟩ 0)
def hHd (o:Int) (c:List S48):List S48→Bool
 |[]=>true
 |t::_=>hT o c t
def hAll (o:Int) (c:List S48):List S48→Bool
 |[]=>true
 |t::l=>hT o c t&&hAll o c l
def hAny (o:Int) (c:List S48):List S48→Bool
 |[]=>false
 |t::l=>hT o c t||hAny o c l
end
theorem hT_eq (o:Int) (c:List S48) (t:S48):hT o c t=if (t.Kind==1)=true then true else if (t.Kind==2)=true then !hHd o c t.Tests else if (t.Kind==3)=true then hAll o c t.Tests else if (t.Kind==4)=true then hAny o c t.Tests else bitB o (fnd c t 0):=by cases t;rw [hT]
theorem q1ee (o:Int) (c:List S48):∀ (l:List S48) (h:0<l.length),hHd o c l=hT o c l[0]
 |[],h=>by cases h
 |_::_,_=>rfl
mutual
def inT (c:List S48):S48→Prop
 |⟨k,l,nm,p,tx,n⟩=>(k > 4→hasB c ⟨k,l,nm,p,tx,n⟩=true)∧inL c l
def inL (c:List S48):List S48→Prop
 |[]=>True
 |t::l=>inT c t∧inL c l
end
theorem inT_eq (c:List S48) (t:S48):inT c t ↔ (t.Kind > 4→hasB c t=true)∧inL c t.Tests:=by cases t;rw [inT]
theorem q167 {c:List S48}:∀ {l:List S48},inL c l→∀ {t},t∈l→inT c t
 |[],_,t,h=>by cases h
 |x::l,h0,t,h=>by
  rw [inL] at h0
  rcases List.mem_cons.1 h with rfl|h
  ·exact h0.1
  ·exact q167 h0.2 h
theorem fnd_at (c:List S48) (t:S48):∀ k:Nat,hasB c t=true→∃ i:Nat,fnd c t k=((k+i:Nat):Int)∧i<c.length:=by
 induction c with
 |nil=>intro k h;cases h
 |cons x c ih =>
  intro k h
  unfold hasB at h
  rw [List.any_cons] at h
  unfold fnd
  cases hs:sameB x t with
  |true=>exact ⟨0,by simp,by simp⟩
  |false =>
   rw [hs,Bool.false_or] at h
   obtain ⟨i,e,hi⟩:=ih (k+1) h
   refine ⟨i+1,?_,by simp;omega⟩
   rw [if_neg (by decide),e]
   congr 1;omega
section
variable (o:Int) (ho:0≤o) (c:List S48) (hc:c.length≤10) (n0 n2 n3:Nat) (rs:List Bool) (ac:List S45)
def holdsAt (t:S48):Prop:=q1j2 t.Kind t.Tests t.Name t.Pattern t.Text t.N n0 o n2 n3 c rs ac=some (hT o c t,(hT o c t,((n0,(o,(n2,n3))),(c,(rs,ac)))))
theorem h10_s (t:S48) (h:holdsAt o c n0 n2 n3 rs ac t):q1iv t.Kind t.Tests t.Name t.Pattern t.Text t.N n0 o n2 n3 c rs ac=some (!hT o c t,(!hT o c t,((),((n0,(o,(n2,n3))),(c,(rs,ac)))))):=by
 unfold holdsAt at h
 refine q1ix ?_
 simp only [q1j1,q26z,EC.decL_encL,EC.isL_encL,if_true,h,Option.bind_some]
theorem q1eb (l:List S48) (hl:l.length≤big) (ih:∀ t∈l,holdsAt o c n0 n2 n3 rs ac t):∀ m k,k+m=l.length→∃ x,q1cu l l.length k n0 o n2 n3 c rs ac=some x∧Sum.elim (fun r=>(decide (r.1 ≥ 0),r.2)) (fun r=>(false,r.2)) x=(!hAll o c (l.drop k),((),((n0,(o,(n2,n3))),(c,(rs,ac))))):=by
 intro m
 induction m with
 |zero =>
  intro k hk
  have hk:k=l.length:=by omega
  subst hk
  refine ⟨.inr ((l,((),((l.length:Int),((l.length:Int),false)))),((),((n0,(o,(n2,n3))),(c,(rs,ac))))),q1cw (by
   simp only [q1d1,q26i,q26z,EC.decL_encL,EC.isL_encL,EC.encL_length,q276,q3v,q3w,q3x,q3y,q3z,q40]
   simp),?_⟩
  rw [List.drop_length];rfl
 |succ m ihm =>
  intro k hk
  have hlt:k<l.length:=by omega
  have e1:decide ((k:Int)<(l.length:Int))=true:=by simp;omega
  have e0:decide ((0:Int)≤(k:Int))=true:=by simp
  have e2:IntKind.i64.wrap ((k:Int)+1)=((k+1:Nat):Int):=q27y hlt (by unfold big at hl;omega)
  have hd2:decide (k<l.length)=true:=by simp [hlt]
  have hh:=h10_s o c n0 n2 n3 rs ac l[k] (ih _ (List.getElem_mem hlt))
  rw [q97 hlt,hAll]
  cases hs:hT o c l[k] with
  |false =>
   rw [hs] at hh
   refine ⟨.inl ((k:Int),((),((n0,(o,(n2,n3))),(c,(rs,ac))))),q1cw ?_,by simp⟩
   simp only [q1d1,q26i,q26z,EC.decL_encL,EC.isL_encL,EC.encL_length,q276,q3v,q3w,q3x,q3y,q3z,q40,e1,e0,if_true,Int.toNat_natCast,hd2,Bool.and_self,qik hlt,hh,Option.bind_some,Bool.not_false]
  |true =>
   rw [hs] at hh
   obtain ⟨x,h1,h2⟩:=ihm (k+1) (by omega)
   refine ⟨x,q1cw ?_,by rw [Bool.true_and];exact h2⟩
   simp only [q1d1,q26i,q26z,EC.decL_encL,EC.isL_encL,EC.encL_length,q276,q3v,q3w,q3x,q3y,q3z,q40,e1,e0,if_true,Int.toNat_natCast,hd2,Bool.and_self,qik hlt,hh,Option.bind_some,Bool.not_true,Bool.false_eq_true,if_false,e2]
   exact h1
theorem h8_s (l:List S48) (hl:l.length≤big) (ih:∀ t∈l,holdsAt o c n0 n2 n3 rs ac t):q1ck l n0 o n2 n3 c rs ac=some (!hAll o c l,(!hAll o c l,((),((n0,(o,(n2,n3))),(c,(rs,ac)))))):=by
 obtain ⟨x,h1,h2⟩:=q1eb o c n0 n2 n3 rs ac l hl ih l.length 0 (by omega)
 have e:q1cu l l.length 0 n0 o n2 n3 c rs ac=some x:=h1
 rw [List.drop_zero] at h2
 have h9:∃ i:Int,q1cr l n0 o n2 n3 c rs ac=some (i,(i,((),((n0,(o,(n2,n3))),(c,(rs,ac))))))∧decide (i ≥ 0)=!hAll o c l:=by
  rcases x with ⟨i,u⟩|⟨i,u⟩
  ·obtain ⟨g1,rfl⟩:=Prod.mk.inj h2
   exact ⟨i,q1ct (by simp only [q1d5,q26z,EC.decL_encL,EC.isL_encL,EC.encL_length,if_true,e,Option.bind_some,Sum.elim_inl]),g1⟩
  ·obtain ⟨g1,rfl⟩:=Prod.mk.inj h2
   exact ⟨-1,q1ct (by simp only [q1d5,q26z,EC.decL_encL,EC.isL_encL,EC.encL_length,if_true,e,Option.bind_some,Sum.elim_inr]),by rw [←g1];decide⟩
 obtain ⟨i,h3,h4⟩:=h9
 refine q1cm ?_
 simp only [q1cq,q26z,EC.decL_encL,EC.isL_encL,if_true,h3,Option.bind_some,h4]
theorem q1ea (l:List S48) (hl:l.length≤big) (ih:∀ t∈l,holdsAt o c n0 n2 n3 rs ac t):∀ m k,k+m=l.length→∃ x,q1dg l l.length k n0 o n2 n3 c rs ac=some x∧Sum.elim (fun r=>(decide (r.1 ≥ 0),r.2)) (fun r=>(false,r.2)) x=(hAny o c (l.drop k),((n0,(o,(n2,n3))),(c,(rs,ac)))):=by
 intro m
 induction m with
 |zero =>
  intro k hk
  have hk:k=l.length:=by omega
  subst hk
  refine ⟨.inr ((l,((),((l.length:Int),((l.length:Int),false)))),((n0,(o,(n2,n3))),(c,(rs,ac)))),q1di (by
   simp only [q1dn,q26i,q26z,EC.decL_encL,EC.isL_encL,EC.encL_length,q276,q3v,q3w,q3x,q3y,q3z,q40]
   simp),?_⟩
  rw [List.drop_length];rfl
 |succ m ihm =>
  intro k hk
  have hlt:k<l.length:=by omega
  have e1:decide ((k:Int)<(l.length:Int))=true:=by simp;omega
  have e0:decide ((0:Int)≤(k:Int))=true:=by simp
  have e2:IntKind.i64.wrap ((k:Int)+1)=((k+1:Nat):Int):=q27y hlt (by unfold big at hl;omega)
  have hd2:decide (k<l.length)=true:=by simp [hlt]
  have hh:=ih _ (List.getElem_mem hlt)
  unfold holdsAt at hh
  rw [q97 hlt,hAny]
  cases hs:hT o c l[k] with
  |true =>
   rw [hs] at hh
   refine ⟨.inl ((k:Int),((n0,(o,(n2,n3))),(c,(rs,ac)))),q1di ?_,by simp⟩
   simp only [q1dn,q26i,q26z,EC.decL_encL,EC.isL_encL,EC.encL_length,q276,q3v,q3w,q3x,q3y,q3z,q40,e1,e0,if_true,Int.toNat_natCast,hd2,Bool.and_self,qik hlt,hh,Option.bind_some]
  |false =>
   rw [hs] at hh
   obtain ⟨x,h1,h2⟩:=ihm (k+1) (by omega)
   refine ⟨x,q1di ?_,by rw [Bool.false_or];exact h2⟩
   simp only [q1dn,q26i,q26z,EC.decL_encL,EC.isL_encL,EC.encL_length,q276,q3v,q3w,q3x,q3y,q3z,q40,e1,e0,if_true,Int.toNat_natCast,hd2,Bool.and_self,qik hlt,hh,Option.bind_some,Bool.false_eq_true,if_false,e2]
   exact h1
theorem h11_s (l:List S48) (hl:l.length≤big) (ih:∀ t∈l,holdsAt o c n0 n2 n3 rs ac t):q1d6 l n0 o n2 n3 c rs ac=some (hAny o c l,(hAny o c l,((n0,(o,(n2,n3))),(c,(rs,ac))))):=by
 obtain ⟨x,h1,h2⟩:=q1ea o c n0 n2 n3 rs ac l hl ih l.length 0 (by omega)
 have e:q1dg l l.length 0 n0 o n2 n3 c rs ac=some x:=h1
 rw [List.drop_zero] at h2
 have h9:∃ i:Int,q1dd l n0 o n2 n3 c rs ac=some (i,(i,((n0,(o,(n2,n3))),(c,(rs,ac)))))∧decide (i ≥ 0)=hAny o c l:=by
  rcases x with ⟨i,u⟩|⟨i,u⟩
  ·obtain ⟨g1,rfl⟩:=Prod.mk.inj h2
   exact ⟨i,q1df (by simp only [q1dr,q26z,EC.decL_encL,EC.isL_encL,EC.encL_length,if_true,e,Option.bind_some,Sum.elim_inl]),g1⟩
  ·obtain ⟨g1,rfl⟩:=Prod.mk.inj h2
   exact ⟨-1,q1df (by simp only [q1dr,q26z,EC.decL_encL,EC.isL_encL,EC.encL_length,if_true,e,Option.bind_some,Sum.elim_inr]),by rw [←g1];decide⟩
 obtain ⟨i,h3,h4⟩:=h9
 refine q1d8 ?_
 simp only [q1dc,q26z,EC.decL_encL,EC.isL_encL,if_true,h3,Option.bind_some,h4]
include ho hc in
theorem q1em:∀ (q:Nat) (t:S48),tzT t=q→okT t→okvT t→inT c t→holdsAt o c n0 n2 n3 rs ac t:=by
 intro q
 induction q using Nat.strongRecOn with
 |_ q ih =>
  intro t hq hok hv hin
  obtain ⟨hl,hol⟩:=(okT_eq t).1 hok
  have hz:=tzT_eq t
  obtain ⟨hi1,hi2⟩:=(inT_eq c t).1 hin
  obtain ⟨⟨k1,k9⟩,hinn⟩:=qpg hv
  have ihc:∀ t'∈t.Tests,holdsAt o c n0 n2 n3 rs ac t':=fun t' ht'=>ih (tzT t') (by have:=tz_mem ht';omega) t' rfl (qpb hol ht') (qpf hv ht') (q167 hi2 ht')
  unfold holdsAt
  rw [hT_eq]
  refine q1j4 ?_
  cases h1:(t.Kind==1) with
  |true=>simp only [q1j8,q26i,q26z,EC.decL_encL,EC.isL_encL,EC.encL_length,q276,q3v,q3w,q3x,q3y,q3z,q40,h1,if_true]
  |false =>
  cases h2:(t.Kind==2) with
  |true =>
   have hk2:t.Kind=2:=by simpa using h2
   have hlt:0<t.Tests.length:=by
    unfold innerB at hinn
    rw [hk2] at hinn
    simp at hinn
    omega
   have hd2:decide (0<t.Tests.length)=true:=by simp [hlt]
   have hh:=ihc _ (List.getElem_mem hlt)
   unfold holdsAt at hh
   have hhd:=q1ee o c t.Tests hlt
   simp only [q1j8,q26i,q26z,EC.decL_encL,EC.isL_encL,EC.encL_length,q276,q3v,q3w,q3x,q3y,q3z,q40,h1,h2,if_true,Bool.false_eq_true,if_false,Int.toNat_zero,hd2,Bool.and_self,qik hlt,hh,Option.bind_some,hhd]
  |false =>
  cases h3:(t.Kind==3) with
  |true =>
   have hh:=h8_s o c n0 n2 n3 rs ac t.Tests hl ihc
   simp only [q1j8,q26i,q26z,EC.decL_encL,EC.isL_encL,EC.encL_length,q276,q3v,q3w,q3x,q3y,q3z,q40,h1,h2,h3,if_true,Bool.false_eq_true,if_false,hh,Option.bind_some,Bool.not_not]
  |false =>
  cases h4:(t.Kind==4) with
  |true =>
   have hh:=h11_s o c n0 n2 n3 rs ac t.Tests hl ihc
   simp only [q1j8,q26i,q26z,EC.decL_encL,EC.isL_encL,EC.encL_length,q276,q3v,q3w,q3x,q3y,q3z,q40,h1,h2,h3,h4,if_true,Bool.false_eq_true,if_false,hh,Option.bind_some]
  |false =>
   have n1:t.Kind≠1:=by simpa using h1
   have n2':t.Kind≠2:=by simpa using h2
   have n3':t.Kind≠3:=by simpa using h3
   have n4:t.Kind≠4:=by simpa using h4
   have hhas:=hi1 (by omega)
   obtain ⟨i,hf,hi⟩:=fnd_at c t 0 hhas
   rw [Nat.zero_add] at hf
   have hfs:=find_s c (by unfold big;omega) t
   rw [hf] at hfs
   have hneg:decide ((i:Int)<0)=false:=decide_eq_false (by omega)
   simp only [q1j8,q26i,q26z,EC.decL_encL,EC.isL_encL,EC.encL_length,q276,q3v,q3w,q3x,q3y,q3z,q40,h1,h2,h3,h4,if_true,Bool.false_eq_true,if_false,hfs,Option.bind_some,hneg,hf,bit_p o ho i (by omega)]
end
mutual
def runR (o:Int) (c:List S48):S50→Int→List Int × List Int × Bool
 |⟨kd,k,ts,nm,p,tx,n,t,e,ak,_,_,_⟩,i =>
  if (kd==4)=true then ([i],[],true) else
  if (kd==2)=true then ([i],[ak],false) else
  if (kd==1)=true then (if hT o c ⟨k,ts,nm,p,tx,n⟩=true then (i::(runL o c t (i+1)).1,(runL o c t (i+1)).2) else (i::(runL o c e (i+1+szL t)).1,(runL o c e (i+1+szL t)).2)) else ([i],[],false)
def runL (o:Int) (c:List S48):List S50→Int→List Int × List Int × Bool
 |[],_=>([],[],false)
 |r::l,i=>if (runR o c r i).2.2=true then runR o c r i else ((runR o c r i).1++(runL o c l (i+szR r)).1,(runR o c r i).2.1++(runL o c l (i+szR r)).2.1,(runL o c l (i+szR r)).2.2)
end
theorem q1jc (o:Int) (c:List S48) (r:S50) (i:Int):runR o c r i=if (r.Kind==4)=true then ([i],[],true) else if (r.Kind==2)=true then ([i],[r.Act],false) else if (r.Kind==1)=true then (if hT o c (tOf r)=true then (i::(runL o c r.Then (i+1)).1,(runL o c r.Then (i+1)).2) else (i::(runL o c r.Else (i+1+szL r.Then)).1,(runL o c r.Else (i+1+szL r.Then)).2)) else ([i],[],false):=by cases r;rw [runR];rfl
mutual
theorem q1jd (o:Int) (c:List S48):∀ (r:S50) (i:Int),(runR o c r i).1.length≤szR r∧(runR o c r i).2.1.length≤szR r
 |⟨kd,k,ts,nm,p,tx,n,t,e,ak,a1,a2,a3⟩,i=>by
  have h1:=q1jb o c t (i+1)
  have h2:=q1jb o c e (i+1+szL t)
  rw [runR,szR]
  split
  ·simp;omega
  ·split
   ·simp;omega
   ·split
    ·split
     ·simp;omega
     ·simp;omega
    ·simp;omega
theorem q1jb (o:Int) (c:List S48):∀ (l:List S50) (i:Int),(runL o c l i).1.length≤szL l∧(runL o c l i).2.1.length≤szL l
 |[],i=>by rw [runL,szL];simp
 |r::l,i=>by
  have h1:=q1jd o c r i
  have h2:=q1jb o c l (i+szR r)
  rw [runL,szL]
  split
  ·omega
  ·simp;omega
end
mutual
def inR (c:List S48):S50→Prop
 |⟨kd,k,ts,nm,p,tx,n,t,e,_,_,_,_⟩=>((kd==1)=true→inT c ⟨k,ts,nm,p,tx,n⟩)∧inRL c t∧inRL c e
def inRL (c:List S48):List S50→Prop
 |[]=>True
 |r::l=>inR c r∧inRL c l
end
theorem inR_eq (c:List S48) (r:S50):inR c r ↔ ((r.Kind==1)=true→inT c (tOf r))∧inRL c r.Then∧inRL c r.Else:=by cases r;rw [inR];rfl
theorem q1fe {c:List S48}:∀ {l:List S50},inRL c l→∀ {r},r∈l→inR c r
 |[],_,t,h=>by cases h
 |x::l,h0,t,h=>by
  rw [inRL] at h0
  rcases List.mem_cons.1 h with rfl|h
  ·exact h0.1
  ·exact q1fe h0.2 h
theorem q1jf {l:List S50} {k:Nat} (h:k<l.length):szL (l.drop k)=szR l[k]+szL (l.drop (k+1)):=by rw [q97 h];rfl
end Go.Proofs.YtokahibbkdbndaaGreatDoor
