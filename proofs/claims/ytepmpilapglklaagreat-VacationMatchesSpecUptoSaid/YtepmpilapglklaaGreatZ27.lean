/- The reference's view of mails of programs; the first value of a field. -/
import Derived.Test.YtepmpilapglklaaGreatZ26
namespace Go.Proofs.YtepmpilapglklaaGreat
open Go.RowKit
theorem q15n (l:List S57) (b:List Int) (hl:l.length≤60) (hs:∀ x∈l,x.Name.size≤2000000∧x.Value.size≤2000000):∀ (m k:Nat),k+m=l.length→Ok (q128 k l b) fun x=>Sum.elim (fun r=>r.1=true∧automB (l.drop k)=true) (fun _=>automB (l.drop k)=false) x:=by
 intro m
 induction m with
 |zero =>
  intro k hk
  refine .via q12a ?_
  unfold q12f
  simp only [EC.decL_encL,EC.isL_encL,EC.encL_length,qy8,q3p,q3q]
  refine qmz (fun h=>absurd (of_decide_eq_true h) (by omega)) (fun _=>qn1 rfl (qn1 rfl (qn2 ?_)))
  rw [List.drop_eq_nil_of_le (by omega)];rfl
 |succ m ih =>
  intro k hk
  have hlt:k<l.length:=by omega
  have e2:IntKind.i64.wrap ((k:Int)+1)=((k+1:Nat):Int):=by rw [qxb (by omega)];rfl
  have hz:=hs _ (List.getElem_mem hlt)
  refine .via q12a ?_
  unfold q12f
  simp only [EC.decL_encL,EC.isL_encL,EC.encL_length,qy8,q3p,q3q,Int.toNat_natCast,e2,quh]
  refine qmz (fun _=>?_) (fun h=>absurd (of_decide_eq_false h) (by omega))
  refine qn1 (by simp) (qn1 (by simp [hlt]) ?_)
  rw [qg7 hlt,q9e hlt]
  have hcons:automB (l[k]::l.drop (k+1))=((lidB l[k]||restB l[k])||automB (l.drop (k+1))):=by unfold automB;rw [List.any_cons]
  rw [hcons]
  refine qmy (qn0 (q161 _ (by omega))) fun r0 hr0=>?_
  subst hr0
  rw [L_low,qxl [110,111],qxl [98,117,108,107],qxl [108,105,115,116],qxl [106,117,110,107]]
  have hno:(lidB l[k]||restB l[k])=false→Ok (gdE true (gdE true (q128 ((k+1:Nat):Int) l b))) fun x=>Sum.elim (fun r=>r.1=true∧((lidB l[k]||restB l[k])||automB (l.drop (k+1)))=true) (fun _=>((lidB l[k]||restB l[k])||automB (l.drop (k+1)))=false) x:=by
   intro h
   rw [h,Bool.false_or]
   exact qn1 rfl (qn1 rfl (ih (k+1) (by omega)))
  have hyes:(lidB l[k]||restB l[k])=true→Ok (some ((.inl (true,())):(Bool×Unit)⊕((Unit×Int×Bool)×(List S57×List Int)))) fun x=>Sum.elim (fun r=>r.1=true∧((lidB l[k]||restB l[k])||automB (l.drop (k+1)))=true) (fun _=>((lidB l[k]||restB l[k])||automB (l.drop (k+1)))=false) x:=by
   intro h
   rw [h,Bool.true_or]
   exact qn2 ⟨rfl,rfl⟩
  refine qn1 (by simp) (qn1 (by simp [hlt]) (qmy (qn0 (qxn _ _ (by omega))) fun r1 hr1=>?_))
  rw [ql1 [108,105,115,116,45,105,100] lidL (by decide +kernel)] at hr1
  have hr1:r1=lidB l[k]:=hr1
  refine qmz (fun h=>?_) (fun h=>hyes ?_)
  ·have h:lidB l[k]=false:=by rw [←hr1];simpa using h
   rw [h,Bool.false_or] at hno hyes ⊢
   refine qn1 (by simp) (qn1 (by simp [hlt]) (qmy (qn0 (qxn _ _ (by omega))) fun r2 hr2=>?_))
   rw [ql1 [97,117,116,111,45,115,117,98,109,105,116,116,101,100] autL (by decide +kernel)] at hr2
   have hpre:∀ q:Bool,((lowL (L l[k].Name)==autL)&&!(lowL (L l[k].Value)==noL))=false→q=(lowL (L l[k].Name)==preL) →
    Ok (brE (q==true) (brE ((lowL (L l[k].Value)==[98,117,108,107])==false) (brE ((lowL (L l[k].Value)==[108,105,115,116])==false) (brE (lowL (L l[k].Value)==[106,117,110,107]) (some (.inl (true,()))) (gdE true (gdE true (q128 ((k+1:Nat):Int) l b)))) (some (.inl (true,())))) (some (.inl (true,())))) (gdE true (gdE true (q128 ((k+1:Nat):Int) l b))))
     fun x=>Sum.elim (fun r=>r.1=true∧(restB l[k]||automB (l.drop (k+1)))=true) (fun _=>(restB l[k]||automB (l.drop (k+1)))=false) x:=by
    intro q h1 hq
    have e:restB l[k]=(q&&(lowL (L l[k].Value)==[98,117,108,107]||(lowL (L l[k].Value)==[108,105,115,116]||lowL (L l[k].Value)==[106,117,110,107]))):=by
     unfold restB
     rw [h1,←hq];rfl
    refine qmz (fun h2=>qmz (fun h3=>qmz (fun h4=>qmz (fun h5=>hyes ?_) (fun h5=>hno ?_)) (fun h4=>hyes ?_)) (fun h3=>hyes ?_)) (fun h2=>hno ?_)
    ·have h2:q=true:=by simpa using h2
     rw [e,h2,h5];simp
    ·have h3:(lowL (L l[k].Value)==[98,117,108,107])=false:=by simpa using h3
     have h4:(lowL (L l[k].Value)==[108,105,115,116])=false:=by simpa using h4
     rw [e,h3,h4,h5];simp
    ·have h2:q=true:=by simpa using h2
     have h4:(lowL (L l[k].Value)==[108,105,115,116])=true:=by simpa using h4
     rw [e,h2,h4];simp
    ·have h2:q=true:=by simpa using h2
     have h3:(lowL (L l[k].Value)==[98,117,108,107])=true:=by simpa using h3
     rw [e,h2,h3];simp
    ·have h2:q=false:=by simpa using h2
     rw [e,h2];rfl
   refine qmz (fun h=>?_) (fun h=>?_)
   ·have h:r2=true:=by simpa using h
    rw [h] at hr2
    refine qmz (fun h2=>hyes ?_) (fun h2=>?_)
    ·have h2:(!(lowL (L l[k].Value)==noL))=true:=h2
     unfold restB
     rw [←hr2,h2];rfl
    ·have h2:(!(lowL (L l[k].Value)==noL))=false:=h2
     refine qn1 (by simp) (qn1 (by simp [hlt]) (qmy (qn0 (qxn _ _ (by omega))) fun r3 hr3=>?_))
     rw [ql1 [112,114,101,99,101,100,101,110,99,101] preL (by decide +kernel)] at hr3
     exact hpre r3 (by rw [h2,Bool.and_false]) hr3
   ·have h:r2=false:=by simpa using h
    rw [h] at hr2
    refine qn1 (by simp) (qn1 (by simp [hlt]) (qmy (qn0 (qxn _ _ (by omega))) fun r3 hr3=>?_))
    rw [ql1 [112,114,101,99,101,100,101,110,99,101] preL (by decide +kernel)] at hr3
    exact hpre r3 (by rw [←hr2,Bool.false_and]) hr3
  ·have h:lidB l[k]=true:=by rw [←hr1];simpa using h
   rw [h];rfl
theorem q15o {l:List S57} (h:HdrOk l) (b:List Int):q12g l b=some (automB l):=q127 (by
 unfold q12h
 simp only [EC.decL_encL,EC.isL_encL]
 obtain ⟨x,h4,h5⟩:=q15n l b h.len (hdr_sz h) l.length 0 (by omega)
 have h4:q128 0 l b=some x:=h4
 rw [List.drop_zero] at h5
 simp only [qfz,if_true,h4,Option.bind_some]
 rcases x with x|x
 ·rw [h5.2]
  show some x.1=_
  rw [h5.1]
 ·have h5:automB l=false:=h5
  rw [h5];rfl)
def firstV (l:List S57) (n:ByteArray):ByteArray:=(valsL l n).getD 0 (ByteArray.mk (List.toArray []))
theorem q16p (l:List S57) {a b:ByteArray} (h:lowL (L a)=lowL (L b)):valsL l a=valsL l b:=by
 unfold valsL
 have:sm a=sm b:=by funext x;unfold sm;rw [h]
 rw [this]
theorem qcn {l:List S57} (h:HdrOk l) (n:ByteArray) (hn:n.size≤2000000):qw8 l n=some (firstV l n):=qw7 (by
 unfold qw9
 simp only [EC.decL_encL,EC.isL_encL,EC.encL_length,qxs]
 obtain ⟨r,h1,h2,h3⟩:=get_s h n hn
 rw [h1]
 simp only [qfz,q6m,if_true,Option.bind_some,h3,h2]
 unfold firstV
 cases hv:valsL l n with
 |nil=>rfl
 |cons x t =>
  have hp:(0:Int)<((x::t).length:Int):=by rw [List.length_cons];omega
  have e1:decide (((x::t).length:Int)>0)=true:=decide_eq_true hp
  have e2:(decide ((0:Int)≤0)&&decide ((0:Int)<((x::t).length:Int)))=true:=by rw [decide_eq_true hp];rfl
  have e3:decide (Int.toNat 0<(x::t).length)=true:=decide_eq_true (by rw [List.length_cons];exact Nat.succ_pos _)
  have e4:(((q9l.encL (x::t)).getD (Int.toNat 0) []).length==1)=true:=rfl
  have e5:isP [K1.str] 0 ((q9l.encL (x::t)).getD (Int.toNat 0) [])=true:=rfl
  have e6:(((x::t).length:Int)==0)=false:=by rw [beq_eq_false_iff_ne];omega
  simp only [e1,e3,e4,e5,if_true,Bool.and_self]
  rfl)
theorem q15s {l:List S57} (h:HdrOk l) (b:List Int) (n:ByteArray):q158 l b n=some (firstV l n):=q157 (by
 unfold q159
 simp only [EC.decL_encL,EC.isL_encL,EC.encL_length,qxs]
 rw [vals_s h b n]
 simp only [qfz,q6m,if_true,Option.bind_some]
 unfold firstV
 cases hv:valsL l n with
 |nil=>rfl
 |cons x t =>
  have hp:(0:Int)<((x::t).length:Int):=by rw [List.length_cons];omega
  have e1:decide (((x::t).length:Int)>0)=true:=decide_eq_true hp
  have e2:(decide ((0:Int)≤0)&&decide ((0:Int)<((x::t).length:Int)))=true:=by rw [decide_eq_true hp];rfl
  have e3:decide (Int.toNat 0<(x::t).length)=true:=decide_eq_true (by rw [List.length_cons];exact Nat.succ_pos _)
  have e4:(((q9l.encL (x::t)).getD (Int.toNat 0) []).length==1)=true:=rfl
  have e5:isP [K1.str] 0 ((q9l.encL (x::t)).getD (Int.toNat 0) [])=true:=rfl
  have e6:(((x::t).length:Int)==0)=false:=by rw [beq_eq_false_iff_ne];omega
  simp only [e1,e3,e4,e5,e6,if_true,Bool.and_self,Bool.false_eq_true,if_false]
  rfl)
theorem qcm {l:List S57} (h:HdrOk l) (n:ByteArray):(firstV l n).size≤4000∧noSp (L (firstV l n)):=by
 unfold firstV
 cases hv:valsL l n with
 |nil=>exact ⟨by decide,fun a ha=>by have:=congrArg List.length ha;simp [L] at this⟩
 |cons x t =>
  have hx:x∈valsL l n:=by rw [hv];simp
  unfold valsL at hx
  obtain ⟨y,hy,rfl⟩:=List.mem_map.1 hx
  have:=h.all y (List.mem_filter.1 hy).1
  exact ⟨this.2.1,this.2.2⟩
end Go.Proofs.YtepmpilapglklaaGreat
namespace Go.Proofs.YtepmpilapglklaaGreat
open Go.RowKit
theorem gnl_lf (r:List UInt8):genL (10::r)=13::10::genL r:=by
 cases r with
 |nil=>rfl
 |cons d r=>rfl
theorem qgb (r:List UInt8):genL (13::10::r)=13::10::genL r:=rfl
theorem qg2:genL [13]=[13,10]:=rfl
theorem gnl_cr {d:UInt8} (r:List UInt8) (h:d≠10):genL (13::d::r)=13::10::genL (d::r):=by
 rw [genL,if_pos rfl,if_neg h]
theorem qg5 {c:UInt8} (r:List UInt8) (h1:c≠13) (h2:c≠10):genL (c::r)=c::genL r:=by
 cases r with
 |nil =>
  have:¬ (c=13∨c=10):=by rintro (h|h) <;> contradiction
  show (if c=13∨c=10 then [13,10] else [c])=[c]
  rw [if_neg this]
 |cons d r=>rw [genL,if_neg h1,if_neg h2]
theorem qgc:∀ (n:Nat) (l:List UInt8),l.length≤n→(genL l).length≤2*l.length
 |_,[],_=>by simp [genL]
 |0,x::l,h=>by simp at h
 |n+1,x::l,h=>by
  have h:l.length≤n:=by simpa using h
  have ih:=qgc n l h
  by_cases h1:x=13
  ·subst h1
   cases l with
   |nil=>rw [qg2];simp
   |cons d r =>
    by_cases h2:d=10
    ·subst h2
     rw [qgb]
     have:=qgc n r (by simp at h;omega)
     simp only [List.length_cons] at *;omega
    ·rw [gnl_cr r h2]
     simp only [List.length_cons] at *;omega
  ·by_cases h2:x=10
   ·subst h2
    rw [gnl_lf]
    simp only [List.length_cons] at *;omega
   ·rw [qg5 l h1 h2]
    simp only [List.length_cons] at *;omega
def endQ (l:List UInt8):Prop:=∀ a,l=a++[10]→∃ b,a=b++[13]
theorem endQ_2 {l:List UInt8} (h:endQ l):endQ (13::10::l):=by
 intro a ha
 match a,ha with
 |[],ha=>cases ha
 |[x],ha =>
  injection ha with h1 _
  exact ⟨[],by rw [←h1];rfl⟩
 |x::y::a,ha =>
  injection ha with h1 ha
  injection ha with h2 ha
  obtain ⟨b,hb⟩:=h a ha
  exact ⟨x::y::b,by rw [hb];rfl⟩
theorem endQ_1 {c:UInt8} {l:List UInt8} (hc:c≠10) (h:endQ l):endQ (c::l):=by
 intro a ha
 match a,ha with
 |[],ha=>injection ha with h1 _;exact absurd h1 hc
 |x::a,ha =>
  injection ha with h1 ha
  obtain ⟨b,hb⟩:=h a ha
  exact ⟨x::b,by rw [hb];rfl⟩
theorem qxy:endQ []:=by
 intro a ha
 have:=congrArg List.length ha
 simp at this
theorem qy1:∀ (n:Nat) (l:List UInt8),l.length≤n→endQ (genL l)
 |_,[],_=>qxy
 |0,x::l,h=>by simp at h
 |n+1,x::l,h=>by
  have h:l.length≤n:=by simpa using h
  have ih:=qy1 n l h
  by_cases h1:x=13
  ·subst h1
   cases l with
   |nil=>exact endQ_2 qxy
   |cons d r =>
    by_cases h2:d=10
    ·subst h2
     rw [qgb]
     exact endQ_2 (qy1 n r (by simp at h;omega))
    ·rw [gnl_cr r h2]
     exact endQ_2 ih
  ·by_cases h2:x=10
   ·subst h2
    rw [gnl_lf]
    exact endQ_2 ih
   ·rw [qg5 l h1 h2]
    exact endQ_1 h2 ih
theorem qyi (l:List UInt8):linL l=if h:genL l=[] then [] else if (genL l).getLast h=10 then genL l else genL l++[13,10]:=by
 unfold linL
 by_cases h:genL l=[]
 ·rw [dif_pos h,if_pos (.inl h),h]
 ·rw [dif_neg h]
  by_cases h1:(genL l).getLast h=10
  ·rw [if_pos h1]
   have ha:genL l=(genL l).dropLast++[10]:=by rw [←h1];exact (List.dropLast_concat_getLast h).symm
   obtain ⟨b,hb⟩:=qy1 _ l (Nat.le_refl _) _ ha
   rw [if_pos]
   right
   rw [hb] at ha
   rw [ha]
   have:(b++[13]++[10]).length - 2=b.length:=by simp
   rw [this,List.append_assoc,List.drop_left];rfl
  ·rw [if_neg h1,if_neg]
   rintro (h2|h2)
   ·exact h h2
   ·apply h1
    have h3:(genL l).drop ((genL l).length - 2)≠[]:=by rw [h2];simp
    have:=List.getLast_drop (l:=genL l) (i:=(genL l).length - 2) h3
    rw [←this]
    simp only [h2]
    rfl
theorem qyj (s:ByteArray) (hs:s.size≤1000000):∀ (m k:Nat) (acc:List Int),s.size - k≤m→k≤s.size→acc.length≤2*k →
  Ok (q12s s acc.length k acc) fun r=>r.2=acc++(genL ((L s).drop k)).map nb∧r.1.2.1=r.2.length:=by
 have hL:=qj s
 intro m
 induction m with
 |zero =>
  intro k acc hm hk ha
  refine .via q12u ?_
  unfold q12y
  simp only [EC.decL_encL,EC.isL_encL,qxo,apd_5]
  refine qmz (fun h=>absurd (of_decide_eq_true h) (by omega)) (fun _=>qn1 rfl (qn2 ⟨?_,rfl⟩))
  rw [List.drop_eq_nil_of_le (by omega)]
  exact (List.append_nil _).symm
 |succ m ih =>
  intro k acc hm hk ha
  refine .via q12u ?_
  unfold q12y
  by_cases hlt':¬ k<s.size
  ·simp only [EC.decL_encL,EC.isL_encL,qxo,apd_5]
   refine qmz (fun h=>absurd (of_decide_eq_true h) (by omega)) (fun _=>qn1 rfl (qn2 ⟨?_,rfl⟩))
   rw [List.drop_eq_nil_of_le (by omega)]
   exact (List.append_nil _).symm
  have hlt:k<(L s).length:=by omega
  have e2:IntKind.i64.wrap ((k:Int)+1)=((k+1:Nat):Int):=by rw [qxb (by omega)];rfl
  have e3:IntKind.i64.wrap (((k+1:Nat):Int)+1)=((k+2:Nat):Int):=by rw [qxb (by omega)];rfl
  simp only [EC.decL_encL,EC.isL_encL,EC.encL_length,qxo,apd_5,e2,e3,Int.toNat_natCast,q3t s hlt,q8k,q9o,EC.decL_encL,EC.isL_encL,EC.encL_length,qxo]
  have hn:∀ v:Int,(v=nb (L s)[k])=(v=nb (L s)[k]):=fun _=>rfl
  have h13:(nb (L s)[k]=13) ↔ (L s)[k]=13:=⟨fun h=>by have:=nb_eq (L s)[k] 13;rw [Bool.eq_iff_iff,beq_iff_eq,beq_iff_eq] at this;exact this.1 h,fun h=>by rw [h];rfl⟩
  have h10:(nb (L s)[k]=10) ↔ (L s)[k]=10:=⟨fun h=>by have:=nb_eq (L s)[k] 10;rw [Bool.eq_iff_iff,beq_iff_eq,beq_iff_eq] at this;exact this.1 h,fun h=>by rw [h];rfl⟩
  have hK:∀ j:Nat,k<j→j≤s.size→genL ((L s).drop k)=13::10::genL ((L s).drop j)→Ok (q12s s (acc.length+2) (j:Int) (acc++[13,10])) fun r=>r.2=acc++(genL ((L s).drop k)).map nb∧r.1.2.1=r.2.length:=by
   intro j h1 h2 h3
   have:=ih j (acc++[13,10]) (by omega) h2 (by simp;omega)
   rw [List.length_append] at this
   refine this.mono fun r hr=>⟨?_,hr.2⟩
   rw [hr.1,h3,List.append_assoc];rfl
  have hg:∀ {o:Option ((ByteArray×Nat×Int×Bool)×List Int)},Ok o (fun r=>r.2=acc++(genL ((L s).drop k)).map nb∧r.1.2.1=r.2.length)→Ok (gdE (((true&&true)&&decide (((((acc.length+2)+((acc.length+2) / 4))+192)*1)≤281474976710656))&&decide ((acc.length+2)≤9223372036854775807)) (gdE true o)) (fun r=>r.2=acc++(genL ((L s).drop k)).map nb∧r.1.2.1=r.2.length):=by
   intro o h
   exact qn1 (by simp;omega) (qn1 rfl h)
  have hd:=q9e hlt
  refine qmz (fun _=>qn1 (by simp;omega) ?_) (fun h=>absurd (of_decide_eq_false h) (by omega))
  refine qmz (fun h1=>qn1 (by simp;omega) (qmz (fun h2=>qn1 (by simp;omega) ?_) (fun h2=>qn1 (by simp;omega) (qmz (fun h3=>?_) (fun h3=>hg (hK _ (by omega) (by omega) ?_)))))) (fun h1=>qn1 (by simp;omega) (qmz (fun h3=>qmz (fun h4=>qn1 (by simp at h4 ⊢;omega) (qmz (fun h5=>hg (hK _ (by omega) (by simp at h4;omega) ?_)) (fun h5=>hg (hK _ (by omega) (by omega) ?_)))) (fun h4=>hg (hK _ (by omega) (by omega) ?_))) (fun h3=>?_)))
  ·have a1:(L s)[k]≠13:=fun h=>by rw [h13.2 h] at h1;cases h1
   have a2:(L s)[k]≠10:=fun h=>by rw [h10.2 h] at h2;cases h2
   refine qn1 (by simp;omega) (qn1 rfl ?_)
   have:=ih (k+1) (acc++[nb (L s)[k]]) (by omega) (by omega) (by simp;omega)
   rw [List.length_append] at this
   refine this.mono fun r hr=>⟨?_,hr.2⟩
   rw [hr.1,hd,qg5 _ a1 a2,List.append_assoc];rfl
  ·have:(nb (L s)[k]==13)=true:=by simpa using h3
   have a1:nb (L s)[k]=13:=by simpa using this
   rw [a1] at h1;cases h1
  ·have a2:(L s)[k]=10:=h10.1 (by simpa using h2)
   rw [hd,a2,gnl_lf]
  ·have a1:(L s)[k]=13:=h13.1 (by simpa using h3)
   have h4:k+1<(L s).length:=by simp at h4;omega
   rw [q3t s h4] at h5
   have a2:(L s)[k+1]=10:=by
    have:=nb_eq (L s)[k+1] 10
    have h5:(nb (L s)[k+1]==nb 10)=true:=h5
    rw [h5] at this
    simpa using this.symm
   rw [hd,a1,q9e h4,a2,qgb]
  ·have a1:(L s)[k]=13:=h13.1 (by simpa using h3)
   have h4:k+1<(L s).length:=by simp at h4;omega
   rw [q3t s h4] at h5
   have a2:(L s)[k+1]≠10:=by
    intro h
    rw [h] at h5;cases h5
   rw [hd,a1,q9e h4,gnl_cr _ a2]
  ·have a1:(L s)[k]=13:=h13.1 (by simpa using h3)
   have h4:(L s).length≤k+1:=by simp at h4;omega
   rw [hd,a1,List.drop_eq_nil_of_le h4];rfl
  ·exfalso
   have a1:nb (L s)[k]=13:=by simpa using h1
   rw [a1] at h3;cases h3
theorem qyk (s:ByteArray) (hs:s.size≤1000000):q12z s=some ((linL (L s)).length,(linL (L s)).map nb):=q12r (by
 unfold q130
 simp only [EC.decL_encL,EC.isL_encL,EC.encL_length,at_5_0,qxo,qe]
 obtain ⟨r,h,h1,h2⟩:=qyj s hs s.size 0 [] (by omega) (by omega) (by simp)
 have h:q12s s 0 0 []=some r:=h
 rw [List.nil_append,List.drop_zero] at h1
 have hlen:=qgc _ (L s) (Nat.le_refl _)
 rw [qj] at hlen
 rw [h,Option.bind_some,h2,h1,qyi]
 by_cases hG:genL (L s)=[]
 ·rw [dif_pos hG,hG];rfl
 rw [dif_neg hG]
 have hay:genL (L s)=(genL (L s)).dropLast++[(genL (L s)).getLast hG]:=(List.dropLast_concat_getLast hG).symm
 have key:∀ (o:Option (Nat×List Int)) (T:Nat×List Int),Ok o (fun r=>r=T)→o=some T:=by rintro o T ⟨r,h,rfl⟩;exact h
 refine key _ _ ?_
 generalize hy:(genL (L s)).getLast hG=y at hay
 generalize ha:(genL (L s)).dropLast=a at hay
 rw [hay]
 have hlen2:a.length+1≤2*s.size:=by rw [hay] at hlen;simpa using hlen
 have e1:(List.map nb (a++[y])).length=a.length+1:=by simp
 have e2:IntKind.i64.wrap (((a.length+1:Nat):Int) - 1)=((a.length:Nat):Int):=by rw [qxb (by omega)];omega
 have e3:∀ d:Int,(List.map nb (a++[y])).getD a.length d=nb y:=by
  intro d
  rw [qg7 (by rw [e1];omega)]
  simp
 have e4:(q9i.encL (List.map nb (a++[y]))).getD a.length []=q9i.enc (List.map nb (a++[y]))[a.length]!:=by
  rw [EC.getD_lt _ _ (by rw [e1];omega)]
  rw [getElem!_pos _ _ (by rw [e1];omega)]
 simp only [e1,e2,Int.toNat_natCast,e3,e4,q8k,q9o,EC.decL_encL,EC.isL_encL,EC.encL_length,qxo]
 refine qmz (fun _=>qn1 (by simp;omega) (qn1 (by simp;rfl) (qn1 rfl (qmz (fun h=>qn1 (by simp;omega) (qn1 rfl (qn2 ?_))) (fun h=>qn1 rfl (qn2 ?_)))))) (fun h=>absurd h (by simp <;> omega))
 ·have:y≠10:=by intro h9;rw [h9] at h;cases h
  rw [if_neg this,List.map_append]
  simp
  exact ⟨rfl,rfl⟩
 ·have:y=10:=by
   have h9:=nb_eq y 10
   have h:(nb y==10)=true:=by simpa [bne] using h
   have h:(nb y==nb 10)=true:=h
   rw [h] at h9
   simpa using h9.symm
  rw [if_pos this]
  simp)
theorem qq4 (s p:ByteArray) (hs:s.size≤2000000):qse s p=some (sufB (L s) (L p)):=qsd (by
 unfold qsf sufB
 simp only [q6m,qfz,quh,L_ext,qj]
 by_cases h:p.size≤s.size
 ·have h1:((s.size:Int)≥(p.size:Int)):=by omega
  have h2:IntKind.i64.wrap ((s.size:Int) - (p.size:Int))=((s.size - p.size:Nat):Int):=by rw [qxb (by omega)];omega
  have h3:(L s).drop (s.size - p.size)=((L s).drop (s.size - p.size)).take (s.size - (s.size - p.size)):=by
   rw [List.take_of_length_le];rw [List.length_drop,qj];omega
  rw [h2]
  simp only [Int.toNat_natCast,←h3]
  simp [h1,h]
 ·have h1:¬ ((s.size:Int)≥(p.size:Int)):=by omega
  rw [if_neg (by simpa using h1)]
  simp [h])
def cRe:ByteArray:=ByteArray.mk (List.toArray [82,101,58])
def cReS:ByteArray:=ByteArray.mk (List.toArray [82,101,58,32])
def cSp:ByteArray:=ByteArray.mk (List.toArray [32])
theorem trim_s (v:ByteArray) (hv:v.size≤4000) (hn:noSp (L v)):qs2 (cReS++v) cSp=some (if em v=true then cRe else cReS++v):=qs1 (by
 unfold qs3
 have hsz:(cReS++v).size=4+v.size:=by rw [ByteArray.size_append];rfl
 have hp:cSp.size=1:=rfl
 have:qsk (cReS++v) cSp=some (if em v=true then cRe else cReS++v):=qsj (by
  unfold qsl
  rw [qq4 _ _ (by rw [hsz];omega),Option.bind_some]
  have hw:IntKind.i64.wrap (((cReS++v).size:Int) - (cSp.size:Int))=((3+v.size:Nat):Int):=by rw [hsz,hp,qxb (by omega)];omega
  rw [hw]
  have e1:L (cReS++v)=[82,101,58,32]++L v:=by rw [L_app];rfl
  cases hv0:em v with
  |true =>
   have h0:L v=[]:=by rw [em_L] at hv0;simpa using hv0
   have hs0:v.size=0:=by rw [←qj,h0];rfl
   have h2:sufB (L (cReS++v)) (L cSp)=true:=by rw [e1,h0];decide +kernel
   rw [h2,hs0,hsz,hs0,if_pos rfl]
   show some _=some _
   congr 1
  |false =>
   have h2:sufB (L (cReS++v)) (L cSp)=false:=by
    unfold sufB
    rw [Bool.and_eq_false_iff]
    right
    rw [beq_eq_false_iff_ne]
    intro h3
    have h4:L cSp=[32]:=rfl
    rw [h4] at h3
    have h5:L (cReS++v)=(L (cReS++v)).take ((L (cReS++v)).length - 1)++[32]:=by
     conv=>lhs;rw [←List.take_append_drop ((L (cReS++v)).length - 1) (L (cReS++v))]
     rw [show ((L (cReS++v)).drop ((L (cReS++v)).length - 1))=[32] from h3]
    have h0:L v≠[]:=by rw [em_L] at hv0;intro h9;rw [h9] at hv0;cases hv0
    have h6:L v=(L v).dropLast++[(L v).getLast h0]:=(List.dropLast_concat_getLast h0).symm
    have h7:(L v).getLast h0=32:=by
     rw [e1,h6,←List.append_assoc] at h5
     have:=List.append_inj_right' h5 rfl
     simpa using this
    rw [h7] at h6
    exact hn _ h6
   rw [h2];rfl)
 rw [this];rfl)
def cSub:ByteArray:=ByteArray.mk (List.toArray [83,117,98,106,101,99,116])
def cMid:ByteArray:=ByteArray.mk (List.toArray [77,101,115,115,97,103,101,45,73,100])
def cRep:ByteArray:=ByteArray.mk (List.toArray [114,101,112,108,121,46])
def cLt:ByteArray:=ByteArray.mk (List.toArray [60])
def cGt:ByteArray:=ByteArray.mk (List.toArray [62])
def autF:S57:=⟨ByteArray.mk (List.toArray [65,117,116,111,45,83,117,98,109,105,116,116,101,100]),ByteArray.mk (List.toArray [97,117,116,111,45,114,101,112,108,105,101,100])⟩
def repF (f:List S57) (fr me:ByteArray):List S57 :=
 [⟨ByteArray.mk (List.toArray [70,114,111,109]),(cLt++me)++cGt⟩,⟨ByteArray.mk (List.toArray [84,111]),(cLt++fr)++cGt⟩,⟨cSub,if em (firstV f cSub)=true then cRe else cReS++firstV f cSub⟩] ++
 (if em (firstV f cMid)=true then [] else [⟨ByteArray.mk (List.toArray [73,110,45,82,101,112,108,121,45,84,111]),firstV f cMid⟩])++[autF]
def bodyF (t:ByteArray):List Int:=(linL (L t)).map nb
theorem qke (l:List UInt8):(linL l).length≤2*l.length+2:=by
 have:=qgc _ l (Nat.le_refl _)
 unfold linL
 split
 ·omega
 ·rw [List.length_append];simp only [List.length_cons,List.length_nil];omega
theorem qon (fr:ByteArray) (rc:List S81) (i:ByteArray) {f:List S57} (hf:HdrOk f) (b:List Int) (me t:ByteArray) (h1:fr.size≤2000000) (h2:i.size≤2000000) (h3:me.size≤2000000) (h4:t.size≤1000000) :
  qwk fr rc i f b me t=some (ByteArray.mk (List.toArray []),[⟨fr,0⟩],cRep++i,repF f fr me,bodyF t):=qwj (by
 unfold qwl
 have key:∀ {α:Type} (o:Option α) (T:α),Ok o (fun r=>r=T)→o=some T:=by rintro α o T ⟨r,h,rfl⟩;exact h
 refine key _ _ ?_
 obtain ⟨s1,s2⟩:=qcm hf cSub
 obtain ⟨m1,_⟩:=qcm hf cMid
 have z1:(ByteArray.mk (List.toArray [(60:UInt8)])).size=1:=rfl
 have z2:(ByteArray.mk (List.toArray [(62:UInt8)])).size=1:=rfl
 have z3:(ByteArray.mk (List.toArray [(82:UInt8),101,58,32])).size=4:=rfl
 have z4:(ByteArray.mk (List.toArray [(114:UInt8),101,112,108,121,46])).size=6:=rfl
 simp only [EC.decL_encL,EC.isL_encL,maxI,ByteArray.size_append,z1,z2,z3,z4,qxx]
 refine qmz (fun h=>absurd (of_decide_eq_true h) (by omega)) (fun _=>qmz (fun h=>absurd (of_decide_eq_true h) (by omega)) (fun _=>qmz (fun h=>absurd (of_decide_eq_true h) (by omega)) (fun _=>qmz (fun h=>absurd (of_decide_eq_true h) (by omega)) (fun _=>qn1 rfl ?_))))
 refine qmy (qn0 (qcn hf cSub (by decide))) fun r0 hr0=>?_
 subst hr0
 refine qmz (fun h=>absurd (of_decide_eq_true h) (by omega)) (fun _=>?_)
 refine qmy (qn0 (trim_s _ s1 s2)) fun r1 hr1=>qn1 rfl ?_
 refine qmy (qn0 (qcn hf cMid (by decide))) fun r2 hr2=>?_
 subst hr2
 have hl:linP t=some (mkB1 (linL (L t))):=by unfold linP;rw [if_pos h4];rfl
 have hll:=qke (L t)
 rw [qj] at hll
 have hz:(mkB1 (linL (L t))).size≤9223372036854775807:=by rw [qma];omega
 have hbd:bodyF t=ints (mkB1 (linL (L t))):=by unfold bodyF ints;rw [show (mkB1 (linL (L t))).data.toList=linL (L t) from L_mkB _]
 have hemp:(mkB1 (linL (L t))).size=0→bodyF t=[]:=by
  intro h
  rw [qma] at h
  unfold bodyF
  rw [List.eq_nil_of_length_eq_zero h];rfl
 have hF:∀ x,x=repF f fr me→repF f fr me=x:=fun x h=>h.symm
 refine qmz (fun h=>?_) (fun h=>?_)
 ·have h:em (firstV f cMid)=false:=by simpa using h
  refine qmz (fun h=>absurd (of_decide_eq_true h) (by omega)) (fun _=>qmy (qn0 hl) fun r3 hr3=>?_)
  subst hr3
  refine qn1 (decide_eq_true hz) (qmz (fun h9=>qn2 ?_) (fun h9=>?_))
  ·rw [hemp (by simpa using h9)]
   unfold repF
   rw [h,hr1];rfl
  ·rw [q76,EC.isL_encL,EC.decL_encL,←hbd]
   refine qn1 rfl (qn2 ?_)
   unfold repF
   rw [h,hr1];rfl
 ·have h:em (firstV f cMid)=true:=by simpa using h
  refine qmz (fun h=>absurd (of_decide_eq_true h) (by omega)) (fun _=>qmy (qn0 hl) fun r3 hr3=>?_)
  subst hr3
  refine qn1 (decide_eq_true hz) (qmz (fun h9=>qn2 ?_) (fun h9=>?_))
  ·rw [hemp (by simpa using h9)]
   unfold repF
   rw [h,hr1];rfl
  ·rw [q76,EC.isL_encL,EC.decL_encL,←hbd]
   refine qn1 rfl (qn2 ?_)
   unfold repF
   rw [h,hr1];rfl)
theorem q15q (fr:ByteArray) (rc:List S81) (i:ByteArray) {f:List S57} (hf:HdrOk f) (b:List Int) (me t:ByteArray) (h1:fr.size≤2000000) (h2:i.size≤2000000) (h3:me.size≤2000000) (h4:t.size≤1000000) :
  q14a fr rc i f b me t=some ((ByteArray.mk (List.toArray []),1,cRep++i,(repF f fr me).length,(bodyF t).length),[⟨fr,0⟩],repF f fr me,bodyF t):=q149 (by
 unfold q14b
 have key:∀ {α:Type} (o:Option α) (T:α),Ok o (fun r=>r=T)→o=some T:=by rintro α o T ⟨r,h,rfl⟩;exact h
 refine key _ _ ?_
 obtain ⟨s1,s2⟩:=qcm hf cSub
 obtain ⟨m1,_⟩:=qcm hf cMid
 have z1:(ByteArray.mk (List.toArray [(60:UInt8)])).size=1:=rfl
 have z2:(ByteArray.mk (List.toArray [(62:UInt8)])).size=1:=rfl
 have z3:(ByteArray.mk (List.toArray [(82:UInt8),101,58])).size=3:=rfl
 have z4:(ByteArray.mk (List.toArray [(114:UInt8),101,112,108,121,46])).size=6:=rfl
 have z5:(ByteArray.mk (List.toArray [(32:UInt8)])).size=1:=rfl
 have f1:∀ (a c:ByteArray),lowL (L a)=lowL (L c)→firstV f a=firstV f c:=by intro a c h;unfold firstV;rw [q16p f h]
 have g1:=q15s hf b (ByteArray.mk (List.toArray [115,117,98,106,101,99,116]))
 rw [f1 _ cSub (by decide +kernel)] at g1
 have g2:=q15s hf b (ByteArray.mk (List.toArray [109,101,115,115,97,103,101,45,105,100]))
 rw [f1 _ cMid (by decide +kernel)] at g2
 have gl:=qyk t h4
 have hsub:(ByteArray.mk (List.toArray [(82:UInt8),101,58]))++((ByteArray.mk (List.toArray [(32:UInt8)]))++firstV f cSub)=cReS++firstV f cSub:=by
  refine BA_ext ?_
  rw [L_app,L_app,L_app];rfl
 simp only [EC.decL_encL,EC.isL_encL,maxI,ByteArray.size_append,z1,z2,z3,z4,z5,qxx]
 refine qn1 rfl (qn1 rfl (qmy (qn0 g1) fun r0 hr0=>?_))
 subst hr0
 refine qmz (fun hs=>?_) (fun hs=>?_)
 ·have hs:em (firstV f cSub)=false:=by simpa using hs
  refine qmz (fun h=>absurd (of_decide_eq_true h) (by omega)) (fun _=>qmz (fun h=>absurd (of_decide_eq_true h) (by omega)) (fun _=>qmz (fun h=>absurd (of_decide_eq_true h) (by omega)) (fun _=>qmz (fun h=>absurd (of_decide_eq_true h) (by omega)) (fun _=>qmz (fun h=>absurd (of_decide_eq_true h) (by omega)) (fun _=>qmz (fun h=>absurd (of_decide_eq_true h) (by omega)) (fun _=>qn1 rfl (qn1 rfl (qmy (qn0 g2) fun r1 hr1=>?_))))))))
  subst hr1
  refine qmz (fun h=>?_) (fun h=>?_)
  ·have h:em (firstV f cMid)=false:=by simpa using h
   refine qmz (fun h=>absurd (of_decide_eq_true h) (by omega)) (fun _=>qmy (qn0 gl) fun r2 hr2=>qn1 rfl (qn2 ?_))
   subst hr2
   unfold repF bodyF
   rw [h,hs,List.length_map,hsub];rfl
  ·have h:em (firstV f cMid)=true:=by simpa using h
   refine qmz (fun h=>absurd (of_decide_eq_true h) (by omega)) (fun _=>qmy (qn0 gl) fun r2 hr2=>qn1 rfl (qn2 ?_))
   subst hr2
   unfold repF bodyF
   rw [h,hs,List.length_map,hsub];rfl
 ·have hs:em (firstV f cSub)=true:=by simpa using hs
  refine qmz (fun h=>absurd (of_decide_eq_true h) (by omega)) (fun _=>qmz (fun h=>absurd (of_decide_eq_true h) (by omega)) (fun _=>qmz (fun h=>absurd (of_decide_eq_true h) (by omega)) (fun _=>qmz (fun h=>absurd (of_decide_eq_true h) (by omega)) (fun _=>qn1 rfl (qn1 rfl (qmy (qn0 g2) fun r1 hr1=>?_))))))
  subst hr1
  refine qmz (fun h=>?_) (fun h=>?_)
  ·have h:em (firstV f cMid)=false:=by simpa using h
   refine qmz (fun h=>absurd (of_decide_eq_true h) (by omega)) (fun _=>qmy (qn0 gl) fun r2 hr2=>qn1 rfl (qn2 ?_))
   subst hr2
   unfold repF bodyF
   rw [h,hs,List.length_map];rfl
  ·have h:em (firstV f cMid)=true:=by simpa using h
   refine qmz (fun h=>absurd (of_decide_eq_true h) (by omega)) (fun _=>qmy (qn0 gl) fun r2 hr2=>qn1 rfl (qn2 ?_))
   subst hr2
   unfold repF bodyF
   rw [h,hs,List.length_map];rfl)
noncomputable def MV (f:List S57) (b:List Int):Int×Int:=(qlf f b).getD (0,0)
noncomputable def EV (f:ByteArray) (l:List S81) (i:ByteArray):Int×Int:=(qbd f l i).getD (0,0)
theorem mv_s (f:List S57) (b:List Int) (hb:b.length≤2000000):qlf f b=some (MV f b)∧((MV f b).1=0→HdrOk f):=by
 obtain ⟨r,h,p⟩:=qmc f b hb
 unfold MV
 rw [h]
 exact ⟨rfl,p⟩
theorem ev_s (f:ByteArray) (l:List S81) (i:ByteArray) (hf:f.size≤2000000) (hl:l.length≤2000000) (ha:∀ x∈l,x.Address.size≤2000000):qbd f l i=some (EV f l i):=by
 obtain ⟨r,h,p⟩:=env_ok f l i hf hl ha
 unfold EV
 rw [h];rfl
structure VArg (r:List S44) (fr:ByteArray) (rc:List S81) (i:ByteArray) (b:List Int) (me:ByteArray):Prop where
 hr:szR r
 hfr:fr.size≤2000000
 hrc:rc.length≤2000000
 had:∀ x∈rc,x.Address.size≤2000000
 hi:i.size≤1999000
 hb:b.length≤2000000
 hme:me.size≤2000000
def atR (r:List S44) (fr:ByteArray):S44:=r.getD (lb r fr) (q9h.dec [])
noncomputable def vld (r:List S44) (fr:ByteArray) (rc:List S81) (i:ByteArray) (f:List S57) (b:List Int) (me t:ByteArray) (now:Int):Int×Int :=
 if (rfL r).1≠0 then rfL r else if (MV f b).1≠0 then ((MV f b).1,-2) else if (EV fr rc i).1≠0 then ((EV fr rc i).1,-3) else if addrB me=false then (10,-4) else
 if (4000:Int)<t.size then (1,-5) else if tim now=false then (3,-6) else if atB r fr=true∧now<(atR r fr).At then (19,(lb r fr:Int)) else (0,0)
theorem keyO {α:Type} (o:Option α) (T:α):Ok o (fun r=>r=T)→o=some T:=by rintro ⟨r,h,rfl⟩;exact h
theorem qca (a b:Int):Ok (Option.bind (q4s a b) fun r=>some (r.1,r.2)) fun r=>r=(a,b):=qmy (qcb _ _) fun r hr=>qn2 (by subst hr;rfl)
theorem none_e:Ok (Option.bind q5t fun r=>some (r.1,r.2)) fun r=>r=(0,0):=qmy qms fun r hr=>qn2 (by subst hr;rfl)
theorem qwt {r:List S44} {fr:ByteArray} {rc:List S81} {i:ByteArray} {b:List Int} {me:ByteArray} (h:VArg r fr rc i b me) (f:List S57) (t:ByteArray) (now:Int) :
  qwq r fr rc i f b me t now=some (vld r fr rc i f b me t now):=qwp (by
 unfold qwr
 refine keyO _ _ ?_
 simp only [EC.decL_encL,EC.isL_encL,EC.encL_length,qy7,q3o]
 refine qn1 rfl (qmy (qn0 (qwu r h.hr)) fun r0 hr0=>qmy (qn0 (qc9 _ _)) fun r1 hr1=>?_)
 subst hr0
 subst hr1
 unfold vld
 refine qmz (fun g=>qn2 ?_) (fun g=>?_)
 ·rw [if_pos (by simpa using g)]
 have g0:(rfL r).1=0:=by simpa using g
 rw [if_neg (by simpa using g0)]
 obtain ⟨q1,q2,q3⟩:=rfL_ok g0
 refine qn1 rfl (qn1 rfl (qmy (qn0 (mv_s f b h.hb).1) fun r0 hr0=>qmy (qn0 (qc9 _ _)) fun r1 hr1=>?_))
 subst hr0
 subst hr1
 refine qmz (fun g=>?_) (fun g=>?_)
 ·rw [if_pos (by simpa using g)]
  exact qca _ _
 rw [if_neg (by simpa using g)]
 refine qn1 rfl (qmy (qn0 (ev_s fr rc i h.hfr h.hrc h.had)) fun r0 hr0=>qmy (qn0 (qc9 _ _)) fun r1 hr1=>?_)
 subst hr0
 subst hr1
 refine qmz (fun g=>?_) (fun g=>?_)
 ·rw [if_pos (by simpa using g)]
  exact qca _ _
 rw [if_neg (by simpa using g)]
 refine qn1 rfl (qmy (qn0 (find_s q2 (by omega) fr)) fun r6 hr6=>qmy (qn0 (addr_x me h.hme)) fun r7 hr7=>?_)
 subst hr6
 subst hr7
 refine qmz (fun g=>?_) (fun g=>?_)
 ·rw [if_pos (by simpa using g)]
  exact qca _ _
 rw [if_neg (by simpa using g)]
 refine qmz (fun g=>?_) (fun g=>?_)
 ·rw [if_pos (of_decide_eq_true g)]
  exact qca _ _
 rw [if_neg (of_decide_eq_false g)]
 refine qmy (qn0 (time_s now)) fun r8 hr8=>?_
 subst hr8
 refine qmz (fun g=>?_) (fun g=>?_)
 ·rw [if_pos (by simpa using g)]
  exact qca _ _
 rw [if_neg (by simpa using g)]
 refine qmz (fun g=>?_) (fun g=>?_)
 ·have g:atB r fr=true:=by simpa using g
  obtain ⟨g1,g2⟩:=q3m g
  simp only [Int.toNat_natCast]
  refine qn1 (by simp) (qn1 (by simp [g1]) (qmz (fun g3=>?_) (fun g3=>?_)))
  ·rw [if_pos ⟨g,of_decide_eq_true g3⟩]
   exact qca _ _
  ·rw [if_neg (fun g4=>(of_decide_eq_false g3) g4.2)]
   exact none_e
 ·have g:atB r fr=false:=by simpa using g
  rw [if_neg (fun g4=>by rw [g] at g4;cases g4.1)]
  exact none_e)
structure VOk (r:List S44) (fr:ByteArray) (rc:List S81) (i:ByteArray) (f:List S57) (b:List Int) (me t:ByteArray) (now:Int):Prop where
 len:r.length≤300
 hsrt:srt r
 hall:∀ x∈r,addrB x.Sender=true∧tim x.At=true
 hdr:HdrOk f
 txt:t.size≤4000
 tnow:tim now=true
 le:atB r fr=true→(atR r fr).At≤now
theorem vld_ok {r:List S44} {fr:ByteArray} {rc:List S81} {i:ByteArray} {b:List Int} {me:ByteArray} (h:VArg r fr rc i b me) {f:List S57} {t:ByteArray} {now:Int} (h0:(vld r fr rc i f b me t now).1=0):VOk r fr rc i f b me t now∧vld r fr rc i f b me t now=(0,0):=by
 unfold vld at h0 ⊢
 by_cases g1:(rfL r).1≠0
 ·rw [if_pos g1] at h0;exact absurd h0 g1
 rw [if_neg g1] at h0 ⊢
 by_cases g2:(MV f b).1≠0
 ·rw [if_pos g2] at h0;exact absurd h0 g2
 rw [if_neg g2] at h0 ⊢
 by_cases g3:(EV fr rc i).1≠0
 ·rw [if_pos g3] at h0;exact absurd h0 g3
 rw [if_neg g3] at h0 ⊢
 by_cases g4:addrB me=false
 ·rw [if_pos g4] at h0;cases h0
 rw [if_neg g4] at h0 ⊢
 by_cases g5:(4000:Int)<t.size
 ·rw [if_pos g5] at h0;cases h0
 rw [if_neg g5] at h0 ⊢
 by_cases g6:tim now=false
 ·rw [if_pos g6] at h0;cases h0
 rw [if_neg g6] at h0 ⊢
 by_cases g7:atB r fr=true∧now<(atR r fr).At
 ·rw [if_pos g7] at h0;cases h0
 rw [if_neg g7]
 obtain ⟨q1,q2,q3⟩:=rfL_ok (by simpa using g1)
 exact ⟨⟨q1,q2,q3,(mv_s f b h.hb).2 (by simpa using g2),by omega,by simpa using g6,fun g8=>by
  have:¬ now<(atR r fr).At:=fun g9=>g7 ⟨g8,g9⟩
  omega⟩,rfl⟩
end Go.Proofs.YtepmpilapglklaaGreat
