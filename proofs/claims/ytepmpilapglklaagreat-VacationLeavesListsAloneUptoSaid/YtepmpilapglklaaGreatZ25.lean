/- Mails of programs and lists; the first value of a field. -/
import Derived.Test.YtepmpilapglklaaGreatZ24
namespace Go.Proofs.YtepmpilapglklaaGreat
open Go.RowKit
theorem L_app (a b:ByteArray):L (a++b)=L a++L b:=by simp [L]
theorem q1u7 (l:List UInt8):L (ByteArray.mk (List.toArray l))=l:=by simp [L]
theorem q1k1 (l:List ByteArray) (hl:l.length≤2000000) (v:ByteArray):∀ (m k:Nat),k+m=l.length→Ok (q1oo l v l.length k) fun x=>Sum.elim (fun r=>0≤r.1∧(l.drop k).any (fun y=>L v==L y)=true) (fun _=>(l.drop k).any (fun y=>L v==L y)=false) x:=by
 intro m
 induction m with
 |zero =>
  intro k hk
  refine .via q1oq ?_
  unfold q1ov
  simp only [EC.decL_encL,EC.isL_encL,EC.encL_length,isE_9,q1ue]
  refine q1ml (fun h=>absurd (of_decide_eq_true h) (by omega)) (fun _=>q1mn rfl (q1mo ?_))
  rw [List.drop_eq_nil_of_le (by omega)];rfl
 |succ m ih =>
  intro k hk
  have hlt:k<l.length:=by omega
  have e2:IntKind.i64.wrap ((k:Int)+1)=((k+1:Nat):Int):=by rw [qvs (by omega)];rfl
  refine .via q1oq ?_
  unfold q1ov
  simp only [EC.decL_encL,EC.isL_encL,EC.encL_length,isE_9,q1ue,Int.toNat_natCast,e2,q1rq]
  refine q1ml (fun _=>?_) (fun h=>absurd (of_decide_eq_false h) (by omega))
  refine q1mn (by simp) (q1mn (by simp [hlt]) ?_)
  rw [q8k hlt,q5h hlt,List.any_cons]
  refine q1ml (fun h=>q1mo ⟨by show (0:Int)≤(k:Int);omega,by rw [h];rfl⟩) (fun h=>q1mn rfl ((ih (k+1) (by omega)).mono ?_))
  rw [h,Bool.false_or]
  exact fun x hx=>hx
theorem q1cw (l:List ByteArray) (hl:l.length≤2000000) (v:ByteArray):q1oi l v=some (l.any fun y=>L v==L y):=q1oh (by
 unfold q1oj
 simp only [EC.decL_encL,EC.isL_encL]
 obtain ⟨x,h1,h2⟩:=q1k1 l hl v l.length 0 (by omega)
 have h1:q1oo l v l.length 0=some x:=h1
 rw [List.drop_zero] at h2
 rcases x with x|x
 ·obtain ⟨h3,h4⟩:=h2
  have h5:q1ow l v=some x.1:=q1on (by
   unfold q1ox
   simp only [EC.decL_encL,EC.isL_encL,EC.encL_length,h1]
   rfl)
  rw [h5,h4]
  show some (decide (x.1≥0))=_
  rw [decide_eq_true h3]
 ·have h5:q1ow l v=some (-1):=q1on (by
   unfold q1ox
   simp only [EC.decL_encL,EC.isL_encL,EC.encL_length,h1]
   rfl)
  have h4:(l.any fun y=>L v==L y)=false:=h2
  rw [h5,h4];rfl)
def lidL:List UInt8:=[108,105,115,116,45,105,100]
def autL:List UInt8:=[97,117,116,111,45,115,117,98,109,105,116,116,101,100]
def preL:List UInt8:=[112,114,101,99,101,100,101,110,99,101]
def noL:List UInt8:=[110,111]
def bulkL:List UInt8:=[98,117,108,107]
def listL:List UInt8:=[108,105,115,116]
def junkL:List UInt8:=[106,117,110,107]
def restB (x:S57):Bool:=((lowL (L x.Name)==autL)&&!(lowL (L x.Value)==noL))||((lowL (L x.Name)==preL)&&(lowL (L x.Value)==bulkL||(lowL (L x.Value)==listL||lowL (L x.Value)==junkL)))
def lidB (x:S57):Bool:=lowL (L x.Name)==lidL
def automB (l:List S57):Bool:=l.any fun x=>lidB x||restB x
theorem any_or {α:Type} (p q:α→Bool):∀ l:List α,l.any (fun x=>p x||q x)=(l.any p||l.any q)
 |[]=>rfl
 |x::l=>by
  rw [List.any_cons,List.any_cons,List.any_cons,any_or p q l]
  cases p x <;> cases q x <;> cases l.any p <;> cases l.any q <;> rfl
theorem q1l7 (l m:List UInt8) (h:lowL l=m):lowL (L (ByteArray.mk (List.toArray l)))=m:=by rw [q1u7];exact h
theorem q19y (l:List S57) (hl:l.length≤60) (hs:∀ x∈l,x.Name.size≤2000000∧x.Value.size≤2000000):∀ (m k:Nat),k+m=l.length→Ok (q1sg l l.length k) fun x=>Sum.elim (fun r=>r.1=true∧(l.drop k).any restB=true) (fun _=>(l.drop k).any restB=false) x:=by
 intro m
 induction m with
 |zero =>
  intro k hk
  refine .via q1si ?_
  unfold q1sn
  simp only [EC.decL_encL,EC.isL_encL,EC.encL_length,qwf,q21,q22]
  refine q1ml (fun h=>absurd (of_decide_eq_true h) (by omega)) (fun _=>q1mn rfl (q1mo ?_))
  rw [List.drop_eq_nil_of_le (by omega)];rfl
 |succ m ih =>
  intro k hk
  have hlt:k<l.length:=by omega
  have e2:IntKind.i64.wrap ((k:Int)+1)=((k+1:Nat):Int):=by rw [qvs (by omega)];rfl
  have hz:=hs _ (List.getElem_mem hlt)
  refine .via q1si ?_
  unfold q1sn
  simp only [EC.decL_encL,EC.isL_encL,EC.encL_length,qwf,q21,q22,Int.toNat_natCast,e2,q1rq]
  refine q1ml (fun _=>?_) (fun h=>absurd (of_decide_eq_false h) (by omega))
  refine q1mn (by simp) (q1mn (by simp [hlt]) ?_)
  rw [q8k hlt,q5h hlt,List.any_cons]
  refine q1mk (q1mm (q1l9 _ (by omega))) fun r0 hr0=>?_
  subst hr0
  have hno:restB l[k]=false→Ok (gdE true (q1sg l l.length ((k+1:Nat):Int))) fun x=>Sum.elim (fun r=>r.1=true∧(restB l[k]||(l.drop (k+1)).any restB)=true) (fun _=>(restB l[k]||(l.drop (k+1)).any restB)=false) x:=by
   intro h
   rw [h,Bool.false_or]
   exact q1mn rfl (ih (k+1) (by omega))
  have hyes:restB l[k]=true→Ok (some ((.inl (true,())):(Bool×Unit)⊕((List S57×Int×Int×Bool)×Unit))) fun x=>Sum.elim (fun r=>r.1=true∧(restB l[k]||(l.drop (k+1)).any restB)=true) (fun _=>(restB l[k]||(l.drop (k+1)).any restB)=false) x:=by
   intro h
   rw [h,Bool.true_or]
   exact q1mo ⟨rfl,rfl⟩
  have hp:∀ q:Bool,((lowL (L l[k].Name)==autL)&&!(lowL (L l[k].Value)==noL))=false→∀ v:ByteArray,L v=lowL (L l[k].Value)→q=(lowL (L l[k].Name)==preL) →
    Ok (brE (q==true) (Option.bind (q1oi [ByteArray.mk (List.toArray [98,117,108,107]),ByteArray.mk (List.toArray [108,105,115,116]),ByteArray.mk (List.toArray [106,117,110,107])] v) fun r3=>brE r3 (some (.inl (true,()))) (gdE true (q1sg l l.length ((k+1:Nat):Int)))) (gdE true (q1sg l l.length ((k+1:Nat):Int))))
     fun x=>Sum.elim (fun r=>r.1=true∧(restB l[k]||(l.drop (k+1)).any restB)=true) (fun _=>(restB l[k]||(l.drop (k+1)).any restB)=false) x:=by
   intro q h1 v hv hq
   refine q1ml (fun h2=>?_) (fun h2=>hno ?_)
   ·have h2:q=true:=by simpa using h2
    refine q1mk (q1mm (q1cw _ (by decide) v)) fun r3 hr3=>?_
    have h3:r3=(lowL (L l[k].Value)==bulkL||(lowL (L l[k].Value)==listL||lowL (L l[k].Value)==junkL)):=by
     rw [hr3,List.any_cons,List.any_cons,List.any_cons,List.any_nil,q1u7 [98,117,108,107],q1u7 [108,105,115,116],q1u7 [106,117,110,107],hv,Bool.or_false];rfl
    have h4:restB l[k]=r3:=by unfold restB;rw [h1,←hq,h2,h3];rfl
    exact q1ml (fun h=>hyes (by rw [h4,h])) (fun h=>hno (by rw [h4,h]))
   ·have h2:q=false:=by simpa using h2
    unfold restB
    rw [h1,←hq,h2];rfl
  refine q1mk (q1mm (same_s _ _ (by omega) (by decide))) fun r1 hr1=>?_
  rw [q1l7 [65,117,116,111,45,83,117,98,109,105,116,116,101,100] autL (by decide +kernel)] at hr1
  refine q1ml (fun h=>?_) (fun h=>?_)
  ·have h:r1=true:=by simpa using h
   rw [h] at hr1
   rw [L_low,q1u7 [110,111]]
   refine q1ml (fun h2=>hyes ?_) (fun h2=>?_)
   ·have h2:(!(lowL (L l[k].Value)==noL))=true:=h2
    unfold restB
    rw [←hr1,h2];rfl
   ·have h2:(!(lowL (L l[k].Value)==noL))=false:=h2
    refine q1mk (q1mm (same_s _ _ (by omega) (by decide))) fun r2 hr2=>?_
    rw [q1l7 [80,114,101,99,101,100,101,110,99,101] preL (by decide +kernel)] at hr2
    exact hp r2 (by rw [h2,Bool.and_false]) _ (L_low _) hr2
  ·have h:r1=false:=by simpa using h
   rw [h] at hr1
   refine q1mk (q1mm (same_s _ _ (by omega) (by decide))) fun r2 hr2=>?_
   rw [q1l7 [80,114,101,99,101,100,101,110,99,101] preL (by decide +kernel)] at hr2
   exact hp r2 (by rw [←hr1,Bool.false_and]) _ (L_low _) hr2
theorem hdr_sz {l:List S57} (h:HdrOk l):∀ x∈l,x.Name.size≤2000000∧x.Value.size≤2000000:=by
 intro x hx
 have h1:=q1fn (h.all x hx).1
 have h2:=(h.all x hx).2.1
 omega
theorem q1tt (l:List S57) (n:ByteArray):decide (((valsL l n).length:Int)>0)=l.any (sm n):=by
 induction l with
 |nil=>rfl
 |cons x l ih =>
  rw [q1ts,List.any_cons,←ih]
  cases h:sm n x with
  |true=>rw [if_pos rfl,List.length_cons,Bool.true_or];exact decide_eq_true (by omega)
  |false=>rw [if_neg (by decide),Bool.false_or]
theorem q19z {l:List S57} (h:HdrOk l):q1so l=some (automB l):=q1sf (by
 unfold q1sp
 simp only [EC.decL_encL,EC.isL_encL,EC.encL_length]
 obtain ⟨r,h1,h2,h3⟩:=get_s h (ByteArray.mk (List.toArray [76,105,115,116,45,73,100])) (by decide)
 rw [h1]
 have e1:sm (ByteArray.mk (List.toArray [76,105,115,116,45,73,100]))=lidB:=by
  funext x
  unfold sm lidB
  rw [q1l7 [76,105,115,116,45,73,100] lidL (by decide +kernel)]
 have e2:decide ((r.1.1:Int)>0)=l.any lidB:=by rw [h3,h2,q1tt,e1]
 obtain ⟨x,h4,h5⟩:=q19y l h.len (hdr_sz h) l.length 0 (by omega)
 have h4:q1sg l l.length 0=some x:=h4
 rw [List.drop_zero] at h5
 simp only [q8h,q3l,if_true,Option.bind_some,e2,h4]
 unfold automB
 rw [any_or]
 cases l.any lidB with
 |true=>rfl
 |false =>
  rw [if_neg (by decide),Bool.false_or]
  rcases x with x|x
  ·rw [h5.2]
   show some x.1=_
   rw [h5.1]
  ·have h5:l.any restB=false:=h5
   rw [h5];rfl)
end Go.Proofs.YtepmpilapglklaaGreat
namespace Go.Proofs.YtepmpilapglklaaGreat
open Go.RowKit
def firstV (l:List S57) (n:ByteArray):ByteArray:=(valsL l n).getD 0 (ByteArray.mk (List.toArray []))
theorem q1fl {l:List S57} (h:HdrOk l) (n:ByteArray) (hn:n.size≤2000000):q1t6 l n=some (firstV l n):=q1t5 (by
 unfold q1t7
 simp only [EC.decL_encL,EC.isL_encL,EC.encL_length,q1ue]
 obtain ⟨r,h1,h2,h3⟩:=get_s h n hn
 rw [h1]
 simp only [q8h,q3l,if_true,Option.bind_some,h3,h2]
 unfold firstV
 cases hv:valsL l n with
 |nil=>rfl
 |cons x t =>
  have hp:(0:Int)<((x::t).length:Int):=by rw [List.length_cons];omega
  have e1:decide (((x::t).length:Int)>0)=true:=decide_eq_true hp
  have e2:(decide ((0:Int)≤0)&&decide ((0:Int)<((x::t).length:Int)))=true:=by rw [decide_eq_true hp];rfl
  have e3:decide (Int.toNat 0<(x::t).length)=true:=decide_eq_true (by rw [List.length_cons];exact Nat.succ_pos _)
  have e4:(((q5m.encL (x::t)).getD (Int.toNat 0) []).length==1)=true:=rfl
  have e5:isP [K1.str] 0 ((q5m.encL (x::t)).getD (Int.toNat 0) [])=true:=rfl
  have e6:(((x::t).length:Int)==0)=false:=by rw [beq_eq_false_iff_ne];omega
  simp only [e1,e3,e4,e5,if_true,Bool.and_self]
  rfl)
theorem q1fk {l:List S57} (h:HdrOk l) (n:ByteArray):(firstV l n).size≤4000∧noSp (L (firstV l n)):=by
 unfold firstV
 cases hv:valsL l n with
 |nil=>exact ⟨by decide,fun a ha=>by have:=congrArg List.length ha;simp [L] at this⟩
 |cons x t =>
  have hx:x∈valsL l n:=by rw [hv];simp
  unfold valsL at hx
  obtain ⟨y,hy,rfl⟩:=List.mem_map.1 hx
  have:=h.all y (List.mem_filter.1 hy).1
  exact ⟨this.2.1,this.2.2⟩
theorem gnl_lf (r:List UInt8):genL (10::r)=13::10::genL r:=by
 cases r with
 |nil=>rfl
 |cons d r=>rfl
theorem q1hz (r:List UInt8):genL (13::10::r)=13::10::genL r:=rfl
theorem q1ht:genL [13]=[13,10]:=rfl
theorem gnl_cr {d:UInt8} (r:List UInt8) (h:d≠10):genL (13::d::r)=13::10::genL (d::r):=by
 rw [genL,if_pos rfl,if_neg h]
theorem q1hw {c:UInt8} (r:List UInt8) (h1:c≠13) (h2:c≠10):genL (c::r)=c::genL r:=by
 cases r with
 |nil =>
  have:¬ (c=13∨c=10):=by rintro (h|h) <;> contradiction
  show (if c=13∨c=10 then [13,10] else [c])=[c]
  rw [if_neg this]
 |cons d r=>rw [genL,if_neg h1,if_neg h2]
theorem q1i0:∀ (n:Nat) (l:List UInt8),l.length≤n→(genL l).length≤2*l.length
 |_,[],_=>by simp [genL]
 |0,x::l,h=>by simp at h
 |n+1,x::l,h=>by
  have h:l.length≤n:=by simpa using h
  have ih:=q1i0 n l h
  by_cases h1:x=13
  ·subst h1
   cases l with
   |nil=>rw [q1ht];simp
   |cons d r =>
    by_cases h2:d=10
    ·subst h2
     rw [q1hz]
     have:=q1i0 n r (by simp at h;omega)
     simp only [List.length_cons] at *;omega
    ·rw [gnl_cr r h2]
     simp only [List.length_cons] at *;omega
  ·by_cases h2:x=10
   ·subst h2
    rw [gnl_lf]
    simp only [List.length_cons] at *;omega
   ·rw [q1hw l h1 h2]
    simp only [List.length_cons] at *;omega
theorem q1oc (s p:ByteArray) (hs:s.size≤2000000):q1pt s p=some (sufB (L s) (L p)):=q1ps (by
 unfold q1pu sufB
 simp only [q3l,q8h,q1rq,L_ext,q17d]
 by_cases h:p.size≤s.size
 ·have h1:((s.size:Int)≥(p.size:Int)):=by omega
  have h2:IntKind.i64.wrap ((s.size:Int) - (p.size:Int))=((s.size - p.size:Nat):Int):=by rw [qvs (by omega)];omega
  have h3:(L s).drop (s.size - p.size)=((L s).drop (s.size - p.size)).take (s.size - (s.size - p.size)):=by
   rw [List.take_of_length_le];rw [List.length_drop,q17d];omega
  rw [h2]
  simp only [Int.toNat_natCast,←h3]
  simp [h1,h]
 ·have h1:¬ ((s.size:Int)≥(p.size:Int)):=by omega
  rw [if_neg (by simpa using h1)]
  simp [h])
def cRe:ByteArray:=ByteArray.mk (List.toArray [82,101,58])
def cReS:ByteArray:=ByteArray.mk (List.toArray [82,101,58,32])
def cSp:ByteArray:=ByteArray.mk (List.toArray [32])
theorem trim_s (v:ByteArray) (hv:v.size≤4000) (hn:noSp (L v)):q1ph (cReS++v) cSp=some (if em v=true then cRe else cReS++v):=q1pg (by
 unfold q1pi
 have hsz:(cReS++v).size=4+v.size:=by rw [ByteArray.size_append];rfl
 have hp:cSp.size=1:=rfl
 have:q1pz (cReS++v) cSp=some (if em v=true then cRe else cReS++v):=q1py (by
  unfold q1q0
  rw [q1oc _ _ (by rw [hsz];omega),Option.bind_some]
  have hw:IntKind.i64.wrap (((cReS++v).size:Int) - (cSp.size:Int))=((3+v.size:Nat):Int):=by rw [hsz,hp,qvs (by omega)];omega
  rw [hw]
  have e1:L (cReS++v)=[82,101,58,32]++L v:=by rw [L_app];rfl
  cases hv0:em v with
  |true =>
   have h0:L v=[]:=by rw [em_L] at hv0;simpa using hv0
   have hs0:v.size=0:=by rw [←q17d,h0];rfl
   have h2:sufB (L (cReS++v)) (L cSp)=true:=by rw [e1,h0];decide +kernel
   rw [h2,hs0,hsz,hs0,if_pos rfl]
   show some _=some _
   congr 1
  |false =>
   have h2:sufB (L (cReS++v)) (L cSp)=false:=by
    unfold sufB
    rw [Bool.and_eq_false_iff]
    right
    rw [beq_eq_false_iff_ne]
    intro h3
    have h4:L cSp=[32]:=rfl
    rw [h4] at h3
    have h5:L (cReS++v)=(L (cReS++v)).take ((L (cReS++v)).length - 1)++[32]:=by
     conv=>lhs;rw [←List.take_append_drop ((L (cReS++v)).length - 1) (L (cReS++v))]
     rw [show ((L (cReS++v)).drop ((L (cReS++v)).length - 1))=[32] from h3]
    have h0:L v≠[]:=by rw [em_L] at hv0;intro h9;rw [h9] at hv0;cases hv0
    have h6:L v=(L v).dropLast++[(L v).getLast h0]:=(List.dropLast_concat_getLast h0).symm
    have h7:(L v).getLast h0=32:=by
     rw [e1,h6,←List.append_assoc] at h5
     have:=List.append_inj_right' h5 rfl
     simpa using this
    rw [h7] at h6
    exact hn _ h6
   rw [h2];rfl)
 rw [this];rfl)
def cSub:ByteArray:=ByteArray.mk (List.toArray [83,117,98,106,101,99,116])
def cMid:ByteArray:=ByteArray.mk (List.toArray [77,101,115,115,97,103,101,45,73,100])
def cRep:ByteArray:=ByteArray.mk (List.toArray [114,101,112,108,121,46])
def cLt:ByteArray:=ByteArray.mk (List.toArray [60])
def cGt:ByteArray:=ByteArray.mk (List.toArray [62])
def autF:S57:=⟨ByteArray.mk (List.toArray [65,117,116,111,45,83,117,98,109,105,116,116,101,100]),ByteArray.mk (List.toArray [97,117,116,111,45,114,101,112,108,105,101,100])⟩
def repF (f:List S57) (fr me:ByteArray):List S57 :=
 [⟨ByteArray.mk (List.toArray [70,114,111,109]),(cLt++me)++cGt⟩,⟨ByteArray.mk (List.toArray [84,111]),(cLt++fr)++cGt⟩,⟨cSub,if em (firstV f cSub)=true then cRe else cReS++firstV f cSub⟩] ++
 (if em (firstV f cMid)=true then [] else [⟨ByteArray.mk (List.toArray [73,110,45,82,101,112,108,121,45,84,111]),firstV f cMid⟩])++[autF]
def bodyF (t:ByteArray):List Int:=(linL (L t)).map nb
theorem q1ky (l:List UInt8):(linL l).length≤2*l.length+2:=by
 have:=q1i0 _ l (Nat.le_refl _)
 unfold linL
 split
 ·omega
 ·rw [List.length_append];simp only [List.length_cons,List.length_nil];omega
theorem q1nx (fr:ByteArray) (rc:List S81) (i:ByteArray) {f:List S57} (hf:HdrOk f) (b:List Int) (me t:ByteArray) (h1:fr.size≤2000000) (h2:i.size≤2000000) (h3:me.size≤2000000) (h4:t.size≤1000000) :
  q1ti fr rc i f b me t=some (ByteArray.mk (List.toArray []),[⟨fr,0⟩],cRep++i,repF f fr me,bodyF t):=q1th (by
 unfold q1tj
 have key:∀ {α:Type} (o:Option α) (T:α),Ok o (fun r=>r=T)→o=some T:=by rintro α o T ⟨r,h,rfl⟩;exact h
 refine key _ _ ?_
 obtain ⟨s1,s2⟩:=q1fk hf cSub
 obtain ⟨m1,_⟩:=q1fk hf cMid
 have z1:(ByteArray.mk (List.toArray [(60:UInt8)])).size=1:=rfl
 have z2:(ByteArray.mk (List.toArray [(62:UInt8)])).size=1:=rfl
 have z3:(ByteArray.mk (List.toArray [(82:UInt8),101,58,32])).size=4:=rfl
 have z4:(ByteArray.mk (List.toArray [(114:UInt8),101,112,108,121,46])).size=6:=rfl
 simp only [EC.decL_encL,EC.isL_encL,maxI,ByteArray.size_append,z1,z2,z3,z4,qwb]
 refine q1ml (fun h=>absurd (of_decide_eq_true h) (by omega)) (fun _=>q1ml (fun h=>absurd (of_decide_eq_true h) (by omega)) (fun _=>q1ml (fun h=>absurd (of_decide_eq_true h) (by omega)) (fun _=>q1ml (fun h=>absurd (of_decide_eq_true h) (by omega)) (fun _=>q1mn rfl ?_))))
 refine q1mk (q1mm (q1fl hf cSub (by decide))) fun r0 hr0=>?_
 subst hr0
 refine q1ml (fun h=>absurd (of_decide_eq_true h) (by omega)) (fun _=>?_)
 refine q1mk (q1mm (trim_s _ s1 s2)) fun r1 hr1=>q1mn rfl ?_
 refine q1mk (q1mm (q1fl hf cMid (by decide))) fun r2 hr2=>?_
 subst hr2
 have hl:linP t=some (mkB1 (linL (L t))):=by unfold linP;rw [if_pos h4];rfl
 have hll:=q1ky (L t)
 rw [q17d] at hll
 have hz:(mkB1 (linL (L t))).size≤9223372036854775807:=by rw [q1ma];omega
 have hbd:bodyF t=ints (mkB1 (linL (L t))):=by unfold bodyF ints;rw [show (mkB1 (linL (L t))).data.toList=linL (L t) from L_mkB _]
 have hemp:(mkB1 (linL (L t))).size=0→bodyF t=[]:=by
  intro h
  rw [q1ma] at h
  unfold bodyF
  rw [List.eq_nil_of_length_eq_zero h];rfl
 have hF:∀ x,x=repF f fr me→repF f fr me=x:=fun x h=>h.symm
 refine q1ml (fun h=>?_) (fun h=>?_)
 ·have h:em (firstV f cMid)=false:=by simpa using h
  refine q1ml (fun h=>absurd (of_decide_eq_true h) (by omega)) (fun _=>q1mk (q1mm hl) fun r3 hr3=>?_)
  subst hr3
  refine q1mn (decide_eq_true hz) (q1ml (fun h9=>q1mo ?_) (fun h9=>?_))
  ·rw [hemp (by simpa using h9)]
   unfold repF
   rw [h,hr1];rfl
  ·rw [q1c8,EC.isL_encL,EC.decL_encL,←hbd]
   refine q1mn rfl (q1mo ?_)
   unfold repF
   rw [h,hr1];rfl
 ·have h:em (firstV f cMid)=true:=by simpa using h
  refine q1ml (fun h=>absurd (of_decide_eq_true h) (by omega)) (fun _=>q1mk (q1mm hl) fun r3 hr3=>?_)
  subst hr3
  refine q1mn (decide_eq_true hz) (q1ml (fun h9=>q1mo ?_) (fun h9=>?_))
  ·rw [hemp (by simpa using h9)]
   unfold repF
   rw [h,hr1];rfl
  ·rw [q1c8,EC.isL_encL,EC.decL_encL,←hbd]
   refine q1mn rfl (q1mo ?_)
   unfold repF
   rw [h,hr1];rfl)
noncomputable def MV (f:List S57) (b:List Int):Int×Int:=(q1lg f b).getD (0,0)
noncomputable def EV (f:ByteArray) (l:List S81) (i:ByteArray):Int×Int:=(q1f8 f l i).getD (0,0)
theorem mv_s (f:List S57) (b:List Int) (hb:b.length≤2000000):q1lg f b=some (MV f b)∧((MV f b).1=0→HdrOk f):=by
 obtain ⟨r,h,p⟩:=q1mb f b hb
 unfold MV
 rw [h]
 exact ⟨rfl,p⟩
theorem ev_s (f:ByteArray) (l:List S81) (i:ByteArray) (hf:f.size≤2000000) (hl:l.length≤2000000) (ha:∀ x∈l,x.Address.size≤2000000):q1f8 f l i=some (EV f l i):=by
 obtain ⟨r,h,p⟩:=env_ok f l i hf hl ha
 unfold EV
 rw [h];rfl
structure VArg (r:List S44) (fr:ByteArray) (rc:List S81) (i:ByteArray) (b:List Int) (me:ByteArray):Prop where
 hr:szR r
 hfr:fr.size≤2000000
 hrc:rc.length≤2000000
 had:∀ x∈rc,x.Address.size≤2000000
 hi:i.size≤1999000
 hb:b.length≤2000000
 hme:me.size≤2000000
def atR (r:List S44) (fr:ByteArray):S44:=r.getD (lb r fr) (q1dj.dec [])
noncomputable def vld (r:List S44) (fr:ByteArray) (rc:List S81) (i:ByteArray) (f:List S57) (b:List Int) (me t:ByteArray) (now:Int):Int×Int :=
 if (rfL r).1≠0 then rfL r else if (MV f b).1≠0 then ((MV f b).1,-2) else if (EV fr rc i).1≠0 then ((EV fr rc i).1,-3) else if addrB me=false then (10,-4) else
 if (4000:Int)<t.size then (1,-5) else if tim now=false then (3,-6) else if atB r fr=true∧now<(atR r fr).At then (19,(lb r fr:Int)) else (0,0)
theorem keyO {α:Type} (o:Option α) (T:α):Ok o (fun r=>r=T)→o=some T:=by rintro ⟨r,h,rfl⟩;exact h
theorem q1ff (a b:Int):Ok (Option.bind (q32 a b) fun r=>some (r.1,r.2)) fun r=>r=(a,b):=q1mk (q1fg _ _) fun r hr=>q1mo (by subst hr;rfl)
theorem none_e:Ok (Option.bind q38 fun r=>some (r.1,r.2)) fun r=>r=(0,0):=q1mk q1mh fun r hr=>q1mo (by subst hr;rfl)
theorem q1tr {r:List S44} {fr:ByteArray} {rc:List S81} {i:ByteArray} {b:List Int} {me:ByteArray} (h:VArg r fr rc i b me) (f:List S57) (t:ByteArray) (now:Int) :
  q1to r fr rc i f b me t now=some (vld r fr rc i f b me t now):=q1tn (by
 unfold q1tp
 refine keyO _ _ ?_
 simp only [EC.decL_encL,EC.isL_encL,EC.encL_length,q1ka,q19u]
 refine q1mn rfl (q1mk (q1mm (qvf r h.hr)) fun r0 hr0=>q1mk (q1mm (q71 _ _)) fun r1 hr1=>?_)
 subst hr0
 subst hr1
 unfold vld
 refine q1ml (fun g=>q1mo ?_) (fun g=>?_)
 ·rw [if_pos (by simpa using g)]
 have g0:(rfL r).1=0:=by simpa using g
 rw [if_neg (by simpa using g0)]
 obtain ⟨q1,q2,q3⟩:=rfL_ok g0
 refine q1mn rfl (q1mn rfl (q1mk (q1mm (mv_s f b h.hb).1) fun r0 hr0=>q1mk (q1mm (q71 _ _)) fun r1 hr1=>?_))
 subst hr0
 subst hr1
 refine q1ml (fun g=>?_) (fun g=>?_)
 ·rw [if_pos (by simpa using g)]
  exact q1ff _ _
 rw [if_neg (by simpa using g)]
 refine q1mn rfl (q1mk (q1mm (ev_s fr rc i h.hfr h.hrc h.had)) fun r0 hr0=>q1mk (q1mm (q71 _ _)) fun r1 hr1=>?_)
 subst hr0
 subst hr1
 refine q1ml (fun g=>?_) (fun g=>?_)
 ·rw [if_pos (by simpa using g)]
  exact q1ff _ _
 rw [if_neg (by simpa using g)]
 refine q1mn rfl (q1mk (q1mm (find_s q2 (by omega) fr)) fun r6 hr6=>q1mk (q1mm (addr_x me h.hme)) fun r7 hr7=>?_)
 subst hr6
 subst hr7
 refine q1ml (fun g=>?_) (fun g=>?_)
 ·rw [if_pos (by simpa using g)]
  exact q1ff _ _
 rw [if_neg (by simpa using g)]
 refine q1ml (fun g=>?_) (fun g=>?_)
 ·rw [if_pos (of_decide_eq_true g)]
  exact q1ff _ _
 rw [if_neg (of_decide_eq_false g)]
 refine q1mk (q1mm (time_s now)) fun r8 hr8=>?_
 subst hr8
 refine q1ml (fun g=>?_) (fun g=>?_)
 ·rw [if_pos (by simpa using g)]
  exact q1ff _ _
 rw [if_neg (by simpa using g)]
 refine q1ml (fun g=>?_) (fun g=>?_)
 ·have g:atB r fr=true:=by simpa using g
  obtain ⟨g1,g2⟩:=q19s g
  simp only [Int.toNat_natCast]
  refine q1mn (by simp) (q1mn (by simp [g1]) (q1ml (fun g3=>?_) (fun g3=>?_)))
  ·rw [if_pos ⟨g,of_decide_eq_true g3⟩]
   exact q1ff _ _
  ·rw [if_neg (fun g4=>(of_decide_eq_false g3) g4.2)]
   exact none_e
 ·have g:atB r fr=false:=by simpa using g
  rw [if_neg (fun g4=>by rw [g] at g4;cases g4.1)]
  exact none_e)
structure VOk (r:List S44) (fr:ByteArray) (rc:List S81) (i:ByteArray) (f:List S57) (b:List Int) (me t:ByteArray) (now:Int):Prop where
 len:r.length≤300
 hsrt:srt r
 hall:∀ x∈r,addrB x.Sender=true∧tim x.At=true
 hdr:HdrOk f
 txt:t.size≤4000
 tnow:tim now=true
 le:atB r fr=true→(atR r fr).At≤now
theorem vld_ok {r:List S44} {fr:ByteArray} {rc:List S81} {i:ByteArray} {b:List Int} {me:ByteArray} (h:VArg r fr rc i b me) {f:List S57} {t:ByteArray} {now:Int} (h0:(vld r fr rc i f b me t now).1=0):VOk r fr rc i f b me t now∧vld r fr rc i f b me t now=(0,0):=by
 unfold vld at h0 ⊢
 by_cases g1:(rfL r).1≠0
 ·rw [if_pos g1] at h0;exact absurd h0 g1
 rw [if_neg g1] at h0 ⊢
 by_cases g2:(MV f b).1≠0
 ·rw [if_pos g2] at h0;exact absurd h0 g2
 rw [if_neg g2] at h0 ⊢
 by_cases g3:(EV fr rc i).1≠0
 ·rw [if_pos g3] at h0;exact absurd h0 g3
 rw [if_neg g3] at h0 ⊢
 by_cases g4:addrB me=false
 ·rw [if_pos g4] at h0;cases h0
 rw [if_neg g4] at h0 ⊢
 by_cases g5:(4000:Int)<t.size
 ·rw [if_pos g5] at h0;cases h0
 rw [if_neg g5] at h0 ⊢
 by_cases g6:tim now=false
 ·rw [if_pos g6] at h0;cases h0
 rw [if_neg g6] at h0 ⊢
 by_cases g7:atB r fr=true∧now<(atR r fr).At
 ·rw [if_pos g7] at h0;cases h0
 rw [if_neg g7]
 obtain ⟨q1,q2,q3⟩:=rfL_ok (by simpa using g1)
 exact ⟨⟨q1,q2,q3,(mv_s f b h.hb).2 (by simpa using g2),by omega,by simpa using g6,fun g8=>by
  have:¬ now<(atR r fr).At:=fun g9=>g7 ⟨g8,g9⟩
  omega⟩,rfl⟩
theorem q1cl (l:List S44) (hl:l.length≤300):q19p l=some (l.length,l):=by
 cases l with
 |nil=>exact q19o
 |cons x t =>
  refine q19n ?_
  unfold q19q
  refine keyO _ _ ?_
  simp only [EC.decL_encL,EC.isL_encL,EC.encL_length,all_44]
  exact q1mn rfl (q1mn (by simp only [List.length_cons] at *;simp;omega) (q1mn rfl (q1mo rfl)))
theorem len_rp (l:List S44) {k:Nat} (h:k<l.length):((q1dj.encL l).getD k []).length=2:=by rw [EC.getD_lt _ _ h];rfl
def oldR (now:Int) (x:S44):Bool:=decide (604800≤IntKind.i64.wrap (now - x.At))
def newR (now:Int) (x:S44):Bool:=!oldR now x
theorem old_s (x:S44) (now:Int):q1tc x.Sender x.At now=some (oldR now x):=q1tb rfl
theorem q19j (l:List S44):(q1dj.encL l).all repB=true:=by
 induction l with
 |nil=>rfl
 |cons x l ih =>
  have e:q1dj.encL (x::l)=q1dj.enc x::q1dj.encL l:=rfl
  rw [e,List.all_cons,ih];rfl
theorem q1u6 (l:List S44):((q1dj.encL l).map zeroR).all repB=true:=by
 induction l with
 |nil=>rfl
 |cons x l ih =>
  have e:q1dj.encL (x::l)=q1dj.enc x::q1dj.encL l:=rfl
  rw [e,List.map_cons,List.all_cons,ih];rfl
theorem q1fi (now:Int) (l:List S44):(q1dj.encL l).filter (newB now)=q1dj.encL (l.filter (newR now)):=by
 induction l with
 |nil=>rfl
 |cons x l ih =>
  have e1:q1dj.encL (x::l)=q1dj.enc x::q1dj.encL l:=rfl
  have e2:newB now (q1dj.enc x)=newR now x:=rfl
  rw [e1,List.filter_cons,List.filter_cons,e2,ih]
  split <;> rfl
theorem q1dm (l:List S44):(q1dj.encL l).isEmpty=l.isEmpty:=by cases l <;> rfl
theorem q1u5 (l:List S44):((q1dj.encL l).map zeroR).isEmpty=l.isEmpty:=by cases l <;> rfl
theorem q1mq (a:ByteArray) (n:Int):([[C.str a,C.int .i64 n]]:List (List C))=q1dj.encL [⟨a,n⟩]:=rfl
abbrev MailT:=ByteArray×List S81×ByteArray×List S57×List Int
def eB:ByteArray:=ByteArray.mk (List.toArray [])
def nulM:MailT:=(eB,[],eB,[],[])
def repM (f:List S57) (fr i me t:ByteArray):MailT:=(eB,[⟨fr,0⟩],cRep++i,repF f fr me,bodyF t)
def dueB (r:List S44) (fr:ByteArray) (f:List S57) (me:ByteArray) (now:Int):Bool:=!em fr&&(!(lowL (L fr)==lowL (L me))&&(!automB f&&!(atB r fr&&!oldR now (atR r fr))))
def keepR (r:List S44) (now:Int):List S44:=r.filter (newR now)
def insR (q:List S44) (fr:ByteArray) (now:Int):List S44:=q.take (lb q fr)++([⟨fr,now⟩]++q.drop (lb q fr))
def setR (r:List S44) (fr:ByteArray) (now:Int):List S44:=r.set (lb r fr) { atR r fr with At:=now }
abbrev OutT:=List S44×MailT×Bool×(Int×Int)
noncomputable def ansT (r:List S44) (fr i:ByteArray) (f:List S57) (me t:ByteArray) (now:Int):OutT :=
 if (EV eB [⟨fr,0⟩] (cRep++i)).1≠0 then ([],nulM,false,((EV eB [⟨fr,0⟩] (cRep++i)).1,-7)) else if (MV (repF f fr me) (bodyF t)).1≠0 then ([],nulM,false,((MV (repF f fr me) (bodyF t)).1,-7)) else
 if atB r fr=true then (setR r fr now,repM f fr i me t,true,(0,0)) else if (keepR r now).length=300 then ([],nulM,false,(2,-1)) else (insR (keepR r now) fr now,repM f fr i me t,true,(0,0))
noncomputable def ans (r:List S44) (fr:ByteArray) (rc:List S81) (i:ByteArray) (f:List S57) (b:List Int) (me t:ByteArray) (now:Int):OutT :=
 if (vld r fr rc i f b me t now).1≠0 then ([],nulM,false,vld r fr rc i f b me t now) else if dueB r fr f me now=false then (r,nulM,false,(0,0)) else ansT r fr i f me t now
theorem q1bw (t:ByteArray) (ht:t.size≤4000):(bodyF t).length≤2000000:=by
 unfold bodyF
 rw [List.length_map]
 have:=q1ky (L t)
 rw [q17d] at this
 omega
theorem q1p0 {r:List S44} (h:srt r) (now:Int):srt (keepR r now):=List.Pairwise.filter _ h
theorem q1kh (r:List S44) (now:Int):(keepR r now).length≤r.length:=List.length_filter_le _ _
theorem ans_s {r : List S44} {fr : ByteArray} {rc : List S81} {i : ByteArray} {b : List Int} {me : ByteArray} (h : VArg r fr rc i b me) (f : List S57) (t : ByteArray) (now : Int) :
    q1rw r fr rc i f b me t now = some (ans r fr rc i f b me t now) := q1rv (by
  unfold q1rx
  refine keyO _ _ ?_
  simp only [EC.decL_encL, EC.isL_encL, EC.encL_length, q1ka, q19t, q19u, q1o9, qwb]
  refine q1mn rfl (q1mn rfl (q1mn rfl (q1mn rfl (q1mk (q1mm (q1tr h f t now)) fun r0 hr0 => q1mk (q1mm (q71 _ _)) fun r1 hr1 => ?_))))
  subst hr0
  subst hr1
  unfold ans
  refine q1ml (fun g => q1mo ?_) (fun g => ?_)
  · rw [if_pos (by simpa using g)]; rfl
  have g0 : (vld r fr rc i f b me t now).1 = 0 := by simpa using g
  obtain ⟨v, _⟩ := vld_ok h g0
  rw [if_neg (by simpa using g0)]
  refine q1mn rfl (q1mk (q1mm (find_s v.hsrt (by have := v.len; omega) fr)) fun r2 hr2 => q1mn rfl (q1mk (q1mm (q1cl r v.len)) fun r3 hr3 => ?_))
  subst hr2
  subst hr3
  have hn : ∀ {p : OutT → Prop}, p (r, nulM, false, (0, 0)) → Ok (Option.bind q38 fun x => gdE true (some (r, ((ByteArray.mk (List.toArray [])), ([] : List S81), (ByteArray.mk (List.toArray [])), ([] : List S57), ([] : List Int)), false, (x.1, x.2)))) p := by
    intro p hp
    exact q1mk q1mh fun x hx => q1mn rfl (q1mo (by subst hx; exact hp))
  have nd : dueB r fr f me now = false → (r, nulM, false, ((0 : Int), (0 : Int))) = (if dueB r fr f me now = false then (r, nulM, false, (0, 0)) else ansT r fr i f me t now) := by
    intro hd; rw [if_pos hd]
  refine q1ml (fun g1 => ?_) (fun g1 => hn (nd ?_))
  · have g1 : em fr = false := by simpa using g1
    refine q1mk (q1mm (same_s fr me (by have := h.hfr; omega) (by have := h.hme; omega))) fun r4 hr4 => q1ml (fun g2 => ?_) (fun g2 => hn (nd ?_))
    · have g2 : (lowL (L fr) == lowL (L me)) = false := by rw [← hr4]; simpa using g2
      refine q1mn rfl (q1mk (q1mm (q19z v.hdr)) fun r5 hr5 => q1ml (fun g3 => ?_) (fun g3 => hn (nd ?_)))
      · have g3 : automB f = false := by rw [← hr5]; simpa using g3
        have hrep := q1nx fr rc i v.hdr b me t h.hfr (by have := h.hi; omega) h.hme (by have := v.txt; omega)
        have hi6 : (cRep ++ i).size ≤ 2000000 := by rw [ByteArray.size_append]; have : cRep.size = 6 := rfl; have := h.hi; omega
        have hev := ev_s eB [⟨fr, 0⟩] (cRep ++ i) (by decide) (by simp) (fun x hx => by
          have : x = ⟨fr, 0⟩ := by simpa using hx
          rw [this]; exact h.hfr)
        have hmv := (mv_s (repF f fr me) (bodyF t) (q1bw t v.txt)).1
        have hf2 : q1t0 r fr = some ((lb r fr : Int), atB r fr) := find_s v.hsrt (by have := v.len; omega) fr
        refine q1ml (fun g4 => ?_) (fun g4 => ?_)
        · have g4 : atB r fr = true := by simpa using g4
          obtain ⟨a1, a2⟩ := q19s g4
          simp only [Int.toNat_natCast]
          refine q1mn (by simp) (q1mn (by simp [a1]) (q1mk (q1mm (old_s _ now)) fun r6 hr6 => q1ml (fun g5 => hn (nd ?_)) (fun g5 => ?_)))
          · have g5 : oldR now (atR r fr) = false := by rw [show oldR now (atR r fr) = r6 from hr6.symm]; simpa using g5
            unfold dueB
            rw [g4, g5]; simp
          · have g5 : oldR now (atR r fr) = true := by rw [show oldR now (atR r fr) = r6 from hr6.symm]; simpa using g5
            have hd : dueB r fr f me now = true := by unfold dueB; rw [g1, g2, g3, g4, g5]; rfl
            rw [hd, if_neg (by decide)]
            refine q1mn rfl (q1mn rfl (q1mn rfl (q1mk (q1mm hrep) fun r7 hr7 => ?_)))
            subst hr7
            refine q1mn rfl ?_
            refine q1mk (q1mm hev) fun r8 hr8 => q1mk (q1mm (q71 _ _)) fun r9 hr9 => ?_
            subst hr8
            subst hr9
            unfold ansT
            refine q1ml (fun g6 => ?_) (fun g6 => ?_)
            · have g6 : (EV eB [⟨fr, 0⟩] (cRep ++ i)).1 = 0 := by simpa using g6
              rw [if_neg (by simpa using g6)]
              refine q1mn rfl (q1mn rfl (q1mk (q1mm hmv) fun r10 hr10 => q1mk (q1mm (q71 _ _)) fun r11 hr11 => ?_))
              subst hr10
              subst hr11
              refine q1ml (fun g7 => ?_) (fun g7 => ?_)
              · rw [if_pos (by simpa using g7)]
                exact q1mk (q1fg _ _) fun x hx => q1mo (by subst hx; rfl)
              rw [if_neg (by simpa using g7)]
              refine q1ml (fun g8 => ?_) (fun g8 => ?_)
              · rw [if_pos g4]
                refine q1mn (by simp; omega) (q1mn (by rw [len_rp r a1]; simp [a1]) (q1mk q1mh fun x hx => q1mn rfl (q1mn rfl (q1mn rfl (q1mn rfl (q1mo ?_))))))
                subst hx
                rfl
              · exact absurd g8 (by rw [g4]; intro h9; cases h9)
            · have g6 : (EV eB [⟨fr, 0⟩] (cRep ++ i)).1 ≠ 0 := by simpa using g6
              rw [if_pos g6]
              refine q1mk (q1mm (q71 _ _)) fun r10 hr10 => ?_
              subst hr10
              refine q1ml (fun g7 => q1mk (q1fg _ _) fun x hx => q1mo (by subst hx; rfl)) (fun g7 => absurd g7 (by simpa using g6))
        · have g4 : atB r fr = false := by simpa using g4
          have hd : dueB r fr f me now = true := by unfold dueB; rw [g1, g2, g3, g4]; rfl
          rw [hd, if_neg (by decide)]
          refine q1mn rfl (q1mn rfl (q1mn rfl (q1mk (q1mm hrep) fun r7 hr7 => ?_)))
          subst hr7
          refine q1mn rfl ?_
          refine q1mk (q1mm hev) fun r8 hr8 => q1mk (q1mm (q71 _ _)) fun r9 hr9 => ?_
          subst hr8
          subst hr9
          unfold ansT
          refine q1ml (fun g6 => ?_) (fun g6 => ?_)
          · have g6 : (EV eB [⟨fr, 0⟩] (cRep ++ i)).1 = 0 := by simpa using g6
            rw [if_neg (by simpa using g6)]
            refine q1mn rfl (q1mn rfl (q1mk (q1mm hmv) fun r10 hr10 => q1mk (q1mm (q71 _ _)) fun r11 hr11 => ?_))
            subst hr10
            subst hr11
            refine q1ml (fun g7 => ?_) (fun g7 => ?_)
            · rw [if_pos (by simpa using g7)]
              exact q1mk (q1fg _ _) fun x hx => q1mo (by subst hx; rfl)
            rw [if_neg (by simpa using g7)]
            refine q1ml (fun g8 => ?_) (fun g8 => ?_)
            · exact absurd g8 (by rw [g4]; intro h9; cases h9)
            · rw [if_neg (by rw [g4]; decide)]
              rw [q19j]
              simp only [q1fi, q1dm, q1u5, q1u6, EC.encL_length, EC.isL_encL, EC.decL_encL]
              have hk : r.filter (newR now) = keepR r now := rfl
              rw [hk]
              have hkl := q1kh r now
              have hl3 := v.len
              refine q1mn rfl (q1ml (fun g9 => ?_) (fun g9 => ?_))
              · have g9 : (keepR r now).isEmpty = true ∧ r.isEmpty = false := by simpa using g9
                have g10 : keepR r now = [] := by simpa using g9.1
                have hfe := find_s (l := ([] : List S44)) .nil (by simp) fr
                refine q1mk (q1mm hfe) fun x hx => ?_
                subst hx
                refine q1mn (by rw [g9.2]; rfl) (q1mk q1mh fun x hx => q1mn rfl (q1mn rfl (q1mn rfl (q1mo ?_))))
                subst hx
                rw [g10, if_neg (by decide)]; rfl
              · refine q1ml (fun g10 => ?_) (fun g10 => ?_)
                · have g10 : (keepR r now).length = 300 := by have : ((keepR r now).length : Int) = 300 := by simpa using g10
                                                              omega
                  rw [if_pos g10]
                  exact q1mk (q1fg _ _) fun x hx => q1mo (by subst hx; rfl)
                · have g10 : (keepR r now).length ≠ 300 := by intro h9; rw [h9] at g10; cases g10
                  rw [if_neg g10]
                  refine q1mn rfl (q1mk (q1mm (find_s (q1p0 v.hsrt now) (by omega) fr)) fun x hx => ?_)
                  subst hx
                  have hlb := lb_le (keepR r now) fr
                  refine q1mn (by rw [q19j]; simp; refine ⟨⟨?_, hlb⟩, by omega⟩; rfl) (q1mk q1mh fun x hx => ?_)
                  subst hx
                  simp only [Int.toNat_natCast, q1mq, q17c, q17a, q1dl, EC.isL_encL, EC.decL_encL]
                  exact q1mn rfl (q1mn rfl (q1mn rfl (q1mn rfl (q1mo rfl))))
          · have g6 : (EV eB [⟨fr, 0⟩] (cRep ++ i)).1 ≠ 0 := by simpa using g6
            rw [if_pos g6]
            refine q1mk (q1mm (q71 _ _)) fun r10 hr10 => ?_
            subst hr10
            refine q1ml (fun g7 => q1mk (q1fg _ _) fun x hx => q1mo (by subst hx; rfl)) (fun g7 => absurd g7 (by simpa using g6))
      · have g3 : automB f = true := by rw [← hr5]; simpa using g3
        unfold dueB
        rw [g3]; simp
    · have g2 : (lowL (L fr) == lowL (L me)) = true := by rw [← hr4]; simpa using g2
      unfold dueB
      rw [g2]; simp
  · have g1 : em fr = true := by simpa using g1
    unfold dueB
    rw [g1]; simp)
end Go.Proofs.YtepmpilapglklaaGreat
