/- A field folded; a header's checks. -/
import Derived.Test.YtepmpilapglklaaGreatZ23
namespace Go.Proofs.YtepmpilapglklaaGreat
open Go.RowKit
def foldP (n v:ByteArray) (r:(Nat×(Int×Int))×List ByteArray):Prop:=r.1.1=r.2.length∧r.1.1≤100001∧szB r.2∧(r.1.2.1=0→fnameB n=true∧v.size≤4000∧noSp (L v))∧(fnameB n=true→v.size=0→r.1.2.1=0)
theorem qea (n v:ByteArray):Ok (qdo n v) (foldP n v):=.via qd7 (by
 unfold qdp
 refine qmy (qn0 (qd1 n)) fun r0 hr0=>?_
 subst hr0
 refine qmz (fun hb=>qmy (qcb _ _) fun r hr=>qn2 ?_) (fun hb=>?_)
 ·subst hr
  have hb:fnameB n=false:=by simpa using hb
  exact ⟨rfl,by simp,(fun e he=>by simp [EC.decL] at he),(fun h=>by simp at h),(fun h=>by rw [hb] at h;cases h)⟩
 ·have hb:fnameB n=true:=by simpa using hb
  have hn:n.size≤60:=by
   unfold fnameB at hb
   rw [Bool.and_eq_true,Bool.and_eq_true] at hb
   have:=of_decide_eq_true hb.2.1
   omega
  refine qmz (fun hv=>qmy (qcb _ _) fun r hr=>qn2 ?_) (fun hv=>?_)
  ·subst hr
   have:=of_decide_eq_true hv
   exact ⟨rfl,by simp,(fun e he=>by simp [EC.decL] at he),(fun h=>by simp at h),(fun _ h=>by omega)⟩
  ·have hv4:v.size≤4000:=by have:=of_decide_eq_false hv;omega
   refine qmy (qwx v (by omega)) fun r1 hr1=>qmz (fun hb1=>qmy (qcb _ _) fun r hr=>qn2 ?_) (fun hb1=>?_)
   ·subst hr
    exact ⟨rfl,by simp,(fun e he=>by simp [EC.decL] at he),(fun h=>by simp at h),(fun _ h=>by rw [hr1.1 h] at hb1;cases hb1)⟩
   ·have hc2:(ByteArray.mk (List.toArray [(58:UInt8),(32:UInt8)])).size=2:=rfl
    have hsz:((n++(ByteArray.mk (List.toArray [(58:UInt8),(32:UInt8)])))++v).size=n.size+2+v.size:=by rw [ByteArray.size_append,ByteArray.size_append,hc2]
    have hsz1:(n++(ByteArray.mk (List.toArray [(58:UInt8),(32:UInt8)]))).size=n.size+2:=by rw [ByteArray.size_append,hc2]
    rw [maxI,hc2,hsz1]
    refine qmz (fun h=>absurd (of_decide_eq_true h) (by omega)) (fun _=>qmz (fun h=>absurd (of_decide_eq_true h) (by omega)) (fun _=>?_))
    have hw:IntKind.i64.wrap ((n.size:Int)+2)=((n.size+2:Nat):Int):=by rw [qxb (by omega)];rfl
    rw [hw,qe]
    refine qmy (qdx _ _ _ 0 [] (Nat.le_refl _) rfl (by rw [hsz];omega) (by omega) (fun e he=>by cases he)) ?_
    intro r hr
    have fin:∀ (c d:Int) (s:ByteArray) (o:Nat) (l:List ByteArray),o=l.length→o≤100000→s.size≤100000→szB l→(n.size+2+v.size≤78→s.size≤78∧l=[]) →
      Ok (Option.bind (qd8 (o+1) (o+1) (((o+1:Nat)):Int) 0 c d (l++[s])) fun r4=>Sum.elim (fun r5=>some ((r5.1.1,(r5.2.2.1,r5.2.2.2)),r5.2.1)) (fun r5=>Option.bind q5t fun r6=>some ((r5.1.2.1,(r6.1,r6.2)),r5.2.2)) r4) (foldP n v):=by
     intro c d s o l ho h1 h2 h3 h4
     have hl:(l++[s]).length=o+1:=by simp [ho]
     have hz:=qsr h3 h2
     have hwd:=qx7 (o+1) c d (l++[s]) (by omega) (l++[s]).length 0 (by omega)
     rw [hl] at hwd
     refine qmy hwd ?_
     rintro (x|x) hx
     ·obtain ⟨x1,x2,x3,x4⟩:=hx
      refine qn2 ⟨by rw [x1,x2];rfl,by rw [x1];omega,by rw [x2];exact (fun e he=>by cases he),(fun h=>by rw [x3] at h;cases h),(fun _ h0=>absurd (fun e he=>?_) x4)⟩
      obtain ⟨g1,g2⟩:=h4 (by omega)
      subst g2
      have:e=s:=by simpa using he
      rw [this];omega
     ·obtain ⟨x1,x2⟩:=hx
      refine qmy qms fun r6 hr6=>qn2 ?_
      subst hr6
      exact ⟨by rw [x1,x2,hl],by rw [x1];omega,by rw [x2];exact hz,(fun _=>⟨hb,hv4,hr1.2 (by simpa using hb1)⟩),(fun _ _=>rfl)⟩
    rcases r with r|r
    ·obtain ⟨q1,q2,q3,q4,q5⟩:=hr
     simp only [flQ,Sum.elim_inl] at q1 q2 q3 q4 q5
     have hf:=fin r.2.1.1 r.2.1.2 r.1.2.1 r.1.2.2.2.1 r.2.2 q1 q2 q3 q4 (fun h=>by
      have:=q5 (by rw [hsz];omega)
      rw [Prod.mk.injEq,Prod.mk.injEq] at this
      rw [this.1,this.2.2]
      exact ⟨by rw [hsz];omega,rfl⟩)
     show Ok (gdE _ _) _
     refine qn1 (by simp [qxp];omega) (qn1 (by simp [EC.isL_encL,qxr]) ?_)
     simp only [EC.decL_encL,EC.isL_encL,qxr,qfz,if_true]
     exact hf
    ·obtain ⟨q1,q2,q3,q4,q5⟩:=hr
     simp only [flQ,Sum.elim_inr] at q1 q2 q3 q4 q5
     have hf:=fin r.2.1.1 r.2.1.2 r.1.2.1 r.1.2.2.1 r.2.2 q1 q2 q3 q4 (fun h=>by
      have:=q5 (by rw [hsz];omega)
      rw [Prod.mk.injEq,Prod.mk.injEq] at this
      rw [this.1,this.2.2]
      exact ⟨by rw [hsz];omega,rfl⟩)
     show Ok (gdE _ _) _
     refine qn1 (by simp [qxp];omega) (qn1 (by simp [EC.isL_encL,qxr]) ?_)
     simp only [EC.decL_encL,EC.isL_encL,qxr,qfz,if_true]
     exact hf)
def fieldB (x:S57):Prop:=fnameB x.Name=true∧x.Value.size≤4000∧noSp (L x.Value)
theorem qi2 (l:List S57) (hl:l.length≤60) (c d:Int):∀ m k:Nat,k+m=l.length→Ok (qh8 l l.length k c d) fun x=>Sum.elim (fun r=>r.2.1≠0) (fun _=>∀ x∈l.drop k,fieldB x) x:=by
 intro m
 induction m with
 |zero =>
  intro k hk
  refine .via qha ?_
  unfold qhf
  refine qmz (fun h=>?_) (fun _=>qn1 (by simp [EC.isL_encL]) (qn2 ?_))
  ·have:=of_decide_eq_true h
   omega
  ·rw [List.drop_eq_nil_of_le (by omega)]
   intro x hx;cases hx
 |succ m ih =>
  intro k hk
  have hlt:k<l.length:=by omega
  have e2:IntKind.i64.wrap ((k:Int)+1)=((k+1:Nat):Int):=by rw [qxb (by omega)];rfl
  refine .via qha ?_
  unfold qhf
  simp only [EC.decL_encL,EC.isL_encL,EC.encL_length,qy8,q3p,q3q,Int.toNat_natCast,e2]
  refine qmz (fun h=>?_) (fun h=>?_)
  ·refine qn1 (by simp) (qn1 (by simp [hlt]) ?_)
   refine qmy (qea _ _) fun r hr=>?_
   rw [qg7 hlt] at hr
   refine qmy (qn0 (qc9 _ _)) fun r1 hr1=>?_
   subst hr1
   refine qmz (fun hb=>qmy (qcb _ _) fun r2 hr2=>qn2 ?_) (fun hb=>?_)
   ·subst hr2
    show r.1.2.1≠0
    simpa using hb
   ·have h0:r.1.2.1=0:=by simpa using hb
    refine qn1 rfl ((ih (k+1) (by omega)).mono fun x hx=>?_)
    rcases x with x|x
    ·exact hx
    ·show ∀ y∈l.drop k,fieldB y
     rw [q9e hlt]
     intro y hy
     rcases List.mem_cons.1 hy with rfl|hy
     ·exact hr.2.2.2.1 h0
     ·exact hx y hy
  ·have:=of_decide_eq_false h
   omega
def hvalP (l:List S57) (r:Int×Int):Prop:=r.1=0→l.length≤60∧∀ x∈l,fieldB x
theorem qi3 (l:List S57):Ok (qhg l) (hvalP l):=.via qh7 (by
 unfold qhh
 simp only [EC.decL_encL,EC.isL_encL,EC.encL_length]
 refine qmz (fun h=>qmy (qcb _ _) fun r hr=>qn2 ?_) (fun h=>qn1 rfl ?_)
 ·subst hr
  intro h;cases h
 ·have hl:l.length≤60:=by have:=of_decide_eq_false h;omega
  refine qmy (qi2 l hl 0 0 l.length 0 (by omega)) ?_
  rintro (r|r) hr
  ·exact qn2 (fun h=>absurd h hr)
  ·refine qmy qms fun r2 hr2=>qn2 ?_
   intro _
   exact ⟨hl,by rw [List.drop_zero] at hr;exact hr⟩)
theorem qi1 (s:ByteArray):Ok (qhm s) fun r=>r=fnameB s:=.via qhl (by
 unfold qhn
 refine qmy (qea _ _) fun r hr=>?_
 refine qmy (qn0 (qc9 _ _)) fun r1 hr1=>qn2 ?_
 subst hr1
 obtain ⟨_,_,_,h1,h2⟩:=hr
 cases hb:fnameB s with
 |true=>rw [h2 hb rfl];rfl
 |false =>
  have:r.1.2.1≠0:=fun h=>by rw [(h1 h).1] at hb;cases hb
  simpa using this)
end Go.Proofs.YtepmpilapglklaaGreat
namespace Go.Proofs.YtepmpilapglklaaGreat
open Go.RowKit
theorem qgg (s p:ByteArray):Ok (qrq s p) fun _=>True:=.via qrp (by
 unfold qrr
 refine qmy (P:=fun _=>True) (.via qs7 ?_) fun r _=>qn2 trivial
 unfold qs9
 refine qmz (fun h=>qn1 ?_ (qn2 trivial)) (fun _=>qn2 trivial)
 simp at h ⊢
 exact h)
theorem qgo (s p:ByteArray) (hs:s.size≤2000000):Ok (qrw s p) fun _=>True:=.via qrv (by
 unfold qrx
 refine qmy (P:=fun _=>True) (.via qsd ?_) fun r _=>qn2 trivial
 unfold qsf
 refine qmz (fun h=>qn1 ?_ (qn2 trivial)) (fun _=>qn2 trivial)
 have h:(s.size:Int)≥(p.size:Int):=by simpa using h
 rw [qxb (by omega)]
 simp
 omega)
theorem qme (s:ByteArray):Ok (q5n s) fun _=>True:=.via q5m (by
 unfold q5o
 refine qmz (fun _=>qmz (fun h=>?_) (fun _=>qn2 trivial)) (fun _=>qn2 trivial)
 have h:(s.size:Int)≤60:=by simpa using h
 exact qmy (qn0 (q32 s (by omega))) fun r _=>qn2 trivial)
theorem q99 (s:ByteArray):Ok (qab s) fun r=>r=true→s.size≤60:=.via qaa (by
 unfold qac
 refine qmz (fun _=>qmz (fun h=>?_) (fun _=>qn2 (fun h=>by cases h))) (fun _=>qn2 (fun h=>by cases h))
 have h:(s.size:Int)≤60:=by simpa using h
 have hs:s.size≤60:=by omega
 refine qmy (qn0 (q1k s (by omega))) fun r _=>?_
 refine qmz (fun _=>qmy (qgg _ _) fun r1 _=>qmz (fun _=>qmy (qgo _ _ (by omega)) fun r2 _=>qmz (fun _=>?_) (fun _=>qn2 (fun _=>hs))) (fun _=>qn2 (fun _=>hs))) (fun _=>qn2 (fun _=>hs))
 refine qmy (P:=fun _=>True) ⟨_,by unfold contP;rw [if_pos (by omega)],trivial⟩ fun r3 _=>qn2 (fun _=>hs))
theorem q8q (s sep:List UInt8) (h:(Lib.cut s sep).2.2=true):(Lib.cut s sep).1.length+sep.length+(Lib.cut s sep).2.1.length=s.length:=by
 unfold Lib.cut at *
 split at h
 ·rename_i h0
  rw [if_pos h0]
  have:=Lib.index_room s sep h0
  simp only [List.length_drop,List.length_take]
  omega
 ·cases h
theorem qqw (s:ByteArray) (hs:s.size≤2000000):Ok (qb7 s) fun r=>r.2.2=true→s.size≤121:=.via qb6 (by
 unfold qb8
 have hc:=q8q s.data.toList [64]
 refine qmy (P:=fun r:ByteArray×ByteArray×Bool=>r.2.2=true→r.1.size+1+r.2.1.size=s.size) ⟨_,by unfold cutP;rw [if_pos (by omega)],fun h=>?_⟩ fun r hr=>?_
 ·have:=hc h
  have e:s.data.toList.length=s.size:=by rw [Array.length_toList];rfl
  rw [e] at this
  exact this
 ·refine qmz (fun hk=>?_) (fun _=>qn2 (fun h=>by cases h))
  have hk:=hr (by simpa using hk)
  refine qmz (fun _=>qmz (fun h=>?_) (fun _=>qn2 (fun h=>by cases h))) (fun _=>qn2 (fun h=>by cases h))
  have h:(r.1.size:Int)≤60:=by simpa using h
  refine qmy (qn0 (q2k r.1 (by omega))) fun r1 _=>qmz (fun _=>?_) (fun _=>qn2 (fun h=>by cases h))
  exact qmy (q99 _) fun r2 h2=>qn2 (fun h3=>by have:=h2 h3;omega))
theorem qt (s:ByteArray) (hs:s.size≤2000000):Ok (q9z s) fun r=>r=true→s.size≤121:=.via q9y (by
 unfold qa0
 exact qmy (qqw s hs) fun r h=>qn2 h)
theorem qmw (n:Int):Ok (qah n) fun _=>True:=.via qag (by
 unfold qai
 exact qmz (fun _=>qn2 trivial) (fun _=>qn2 trivial))
theorem qij (l:List S81) (hl:l.length≤2000000) (f:ByteArray) (n:Int):∀ m k:Nat,k+m=l.length→Ok (qib l f n l.length k) fun _=>True:=by
 intro m
 induction m with
 |zero =>
  intro k hk
  refine .via qid ?_
  unfold qii
  refine qmz (fun h=>?_) (fun _=>qn1 (by simp [EC.isL_encL]) (qn2 trivial))
  have:=of_decide_eq_true h
  omega
 |succ m ih =>
  intro k hk
  have hlt:k<l.length:=by omega
  have e2:IntKind.i64.wrap ((k:Int)+1)=((k+1:Nat):Int):=by rw [qxb (by omega)];rfl
  refine .via qid ?_
  unfold qii
  simp only [EC.decL_encL,EC.isL_encL,EC.encL_length,isE_81,q3r,q3s,Int.toNat_natCast,e2]
  refine qmz (fun h=>?_) (fun h=>?_)
  ·refine qn1 (by simp) (qn1 (by simp [hlt]) ?_)
   refine qmy (P:=fun _=>True) (.via qo3 (qn2 trivial)) fun r _=>qmz (fun _=>qn2 trivial) (fun _=>qn1 rfl (ih (k+1) (by omega)))
  ·have:=of_decide_eq_false h
   omega
theorem qgl (l:List S81) (hl:l.length≤2000000) (f:ByteArray) (n:Int):Ok (qgm l f n) fun _=>True:=.via qgk (by
 unfold qgn
 simp only [EC.decL_encL,EC.isL_encL]
 refine qn1 rfl (qmy (P:=fun _=>True) (.via qia ?_) fun r _=>qn2 trivial)
 unfold qil
 simp only [EC.decL_encL,EC.isL_encL,EC.encL_length]
 refine qn1 rfl (qmy (qij l hl f n l.length 0 (by omega)) ?_)
 rintro (r|r) _
 ·exact qn2 trivial
 ·exact qn2 trivial)
theorem qo6 (l:List S81) (hl:l.length≤2000000) (ha:∀ x∈l,x.Address.size≤2000000) (c d:Int):∀ m k:Nat,k+m=l.length→Ok (qan l l l.length k c d) fun x=>Sum.elim (fun r=>r.2.1≠0) (fun _=>∀ x∈l.drop k,x.Address.size≤121) x:=by
 intro m
 induction m with
 |zero =>
  intro k hk
  refine .via qap ?_
  unfold qau
  refine qmz (fun h=>?_) (fun _=>qn1 (by simp [EC.isL_encL]) (qn1 (by simp [EC.isL_encL]) (qn2 ?_)))
  ·have:=of_decide_eq_true h
   omega
  ·rw [List.drop_eq_nil_of_le (by omega)]
   intro x hx;cases hx
 |succ m ih =>
  intro k hk
  have hlt:k<l.length:=by omega
  have e2:IntKind.i64.wrap ((k:Int)+1)=((k+1:Nat):Int):=by rw [qxb (by omega)];rfl
  refine .via qap ?_
  unfold qau
  simp only [EC.decL_encL,EC.isL_encL,EC.encL_length,isE_81,q3r,q3s,all_81,Int.toNat_natCast,e2,qf,qd]
  refine qmz (fun h=>?_) (fun h=>?_)
  ·refine qn1 (by simp) (qn1 (by simp [hlt]) ?_)
   rw [qg7 hlt]
   refine qmy (qt _ (ha _ (List.getElem_mem hlt))) fun r0 hr0=>qmz (fun _=>qmy (qcb _ _) fun r1 hr1=>qn2 ?_) (fun hb=>?_)
   ·subst hr1
    intro h;cases h
   ·refine qmy (qmw _) fun r1 _=>qmz (fun _=>qmy (qcb _ _) fun r2 hr2=>qn2 ?_) (fun _=>?_)
    ·subst hr2
     intro h;cases h
    ·refine qn1 (by simp;omega) (qn1 (by simp []) ?_)
     refine qn1 rfl (qmy (qgl _ (by simp;omega) _ _) fun r2 _=>qmz (fun _=>qmy (qcb _ _) fun r3 hr3=>qn2 ?_) (fun _=>qn1 rfl (qn1 rfl ((ih (k+1) (by omega)).mono fun x hx=>?_))))
     ·subst hr3
      intro h;cases h
     ·rcases x with x|x
      ·exact hx
      ·show ∀ y∈l.drop k,y.Address.size≤121
       rw [q9e hlt]
       intro y hy
       rcases List.mem_cons.1 hy with rfl|hy
       ·exact hr0 (by simpa using hb)
       ·exact hx y hy
  ·have:=of_decide_eq_false h
   omega
theorem qo7 (l:List S81) (hl:l.length≤2000000) (ha:∀ x∈l,x.Address.size≤2000000):Ok (qav l) fun r=>r.1=0→∀ x∈l,x.Address.size≤121:=.via qam (by
 unfold qaw
 simp only [EC.decL_encL,EC.isL_encL,EC.encL_length]
 refine qn1 rfl (qn1 rfl (qmy (qo6 l hl ha 0 0 l.length 0 (by omega)) ?_))
 rintro (r|r) hr
 ·exact qn2 (fun h=>absurd h hr)
 ·refine qmy qms fun r2 hr2=>qn2 ?_
  intro _
  rw [List.drop_zero] at hr
  exact hr)
def envB (f:ByteArray) (l:List S81):Prop:=f.size≤121∧l.length≤60∧∀ x∈l,x.Address.size≤121
theorem env_ok (f:ByteArray) (l:List S81) (i:ByteArray) (hf:f.size≤2000000) (hl:l.length≤2000000) (ha:∀ x∈l,x.Address.size≤2000000):Ok (qbd f l i) fun r=>r.1=0→envB f l:=.via qbc (by
 unfold qbe
 simp only [EC.decL_encL,EC.isL_encL,EC.encL_length,qxx]
 have rest:f.size≤121→l.length≤60→Ok (brE ((!em i)==true) (Option.bind (q5n i) fun r0=>brE (!r0) (Option.bind (q4s 10 (-12)) fun r1=>some (r1.1,r1.2)) (gdE true<| Option.bind (qav l) fun r1=>some (r1.1,r1.2))) (gdE true<| Option.bind (qav l) fun r0=>some (r0.1,r0.2))) fun r=>r.1=0→envB f l:=by
  intro h1 h2
  have fin:Ok (gdE true<| Option.bind (qav l) fun r0=>some (r0.1,r0.2)) fun r=>r.1=0→envB f l:=qn1 rfl (qmy (qo7 l hl ha) fun r hr=>qn2 fun h=>⟨h1,h2,hr h⟩)
  refine qmz (fun _=>qmy (qme _) fun r _=>qmz (fun _=>qmy (qcb _ _) fun r1 hr1=>qn2 ?_) (fun _=>fin)) (fun _=>fin)
  subst hr1
  intro h;cases h
 have bad:∀ a b:Int,a≠0→Ok (Option.bind (q4s a b) fun r1=>some (r1.1,r1.2)) fun r=>r.1=0→envB f l:=fun a b h0=>qmy (qcb _ _) fun r hr=>qn2 (by subst hr;exact fun h=>absurd h h0)
 have rest2:f.size≤121→Ok (brE (decide ((l.length:Int)<1)==false) (brE (decide ((l.length:Int)>60)) (Option.bind (q4s 2 (-11)) fun r1=>some (r1.1,r1.2)) (brE ((!em i)==true) (Option.bind (q5n i) fun r0=>brE (!r0) (Option.bind (q4s 10 (-12)) fun r1=>some (r1.1,r1.2)) (gdE true<| Option.bind (qav l) fun r1=>some (r1.1,r1.2))) (gdE true<| Option.bind (qav l) fun r0=>some (r0.1,r0.2)))) (Option.bind (q4s 2 (-11)) fun r1=>some (r1.1,r1.2))) fun r=>r.1=0→envB f l:=fun h1 =>
  qmz (fun _=>qmz (fun _=>bad _ _ (by decide)) (fun h=>rest h1 (by have:=of_decide_eq_false h;omega))) (fun _=>bad _ _ (by decide))
 refine qmz (fun _=>qmy (qt f hf) fun r hr=>qmz (fun _=>bad _ _ (by decide)) (fun h=>rest2 (hr (by simpa using h)))) (fun h=>rest2 ?_)
 have he:em f=true:=by cases h2:em f with|true=>rfl|false=>rw [h2] at h;cases h
 rw [q9n] at he
 have:=of_decide_eq_true he
 omega)
theorem nb_low (b:UInt8):nb (lowB b)=lowI (nb b):=by
 have h:=ql0 (qyo b).1 (qyo b).2
 unfold lowB ub
 generalize lowI (nb b)=c at h
 unfold nb
 rw [UInt8.toNat_ofNat']
 omega
theorem qcy (c:Int):fnB (lowI c)=fnB c:=by
 unfold lowI fnB
 split
 ·rw [Bool.eq_iff_iff]
  simp
  omega
 ·rfl
theorem qd0 {a b:ByteArray} (h:lowL (L a)=lowL (L b)):fnameB a=fnameB b:=by
 have hl:(L a).length=(L b).length:=by
  have:=congrArg List.length h
  simpa [lowL] using this
 have hs:a.size=b.size:=by rw [←qj,←qj,hl]
 have hp:∀ s:ByteArray,(L s).all q20=(lowL (L s)).all q20:=by
  intro s
  unfold lowL
  rw [List.all_map]
  congr 1
  funext x
  show fnB (nb x)=fnB (nb (lowB x))
  rw [nb_low,qcy]
 unfold fnameB
 rw [q9n,q9n,hs,hp a,hp b,h]
def sm (n:ByteArray) (x:S57):Bool:=lowL (L x.Name)==lowL (L n)
def valsL (l:List S57) (n:ByteArray):List ByteArray:=(l.filter (sm n)).map fun x=>x.Value
theorem qwv (x:S57) (l:List S57) (n:ByteArray):valsL (x::l) n=if sm n x=true then x.Value::valsL l n else valsL l n:=by
 unfold valsL
 rw [List.filter_cons]
 split <;> rfl
theorem qga (l:List S57) (n:ByteArray) (hl:l.length≤60) (hn:n.size≤2000000) (hx:∀ x∈l,x.Name.size≤2000000) (c d:Int):∀ (m k:Nat) (acc:List ByteArray),k+m=l.length→acc.length≤k→Ok (qgv n acc.length l l.length k c d acc) fun x=>x.2.2=acc++valsL (l.drop k) n∧x.1.2.2.1=x.2.2.length:=by
 intro m
 induction m with
 |zero =>
  intro k acc hk ha
  refine .via qgx ?_
  unfold qh1
  simp only [EC.decL_encL,EC.isL_encL,EC.encL_length,qxp,qxr,qy8,q3p,q3q]
  refine qmz (fun h=>?_) (fun _=>qn1 rfl (qn1 rfl (qn2 ?_)))
  ·have:=of_decide_eq_true h
   omega
  ·rw [List.drop_eq_nil_of_le (by omega)]
   exact ⟨(List.append_nil _).symm,rfl⟩
 |succ m ih =>
  intro k acc hk ha
  have hlt:k<l.length:=by omega
  have e2:IntKind.i64.wrap ((k:Int)+1)=((k+1:Nat):Int):=by rw [qxb (by omega)];rfl
  refine .via qgx ?_
  unfold qh1
  simp only [EC.decL_encL,EC.isL_encL,EC.encL_length,qxp,qxr,qy8,q3p,q3q,Int.toNat_natCast,e2]
  refine qmz (fun h=>?_) (fun h=>?_)
  ·refine qn1 (by simp) (qn1 (by simp [hlt]) ?_)
   rw [qg7 hlt]
   have h1:=hx _ (List.getElem_mem hlt)
   refine qmy (qn0 (same_s l[k].Name n (by omega) (by omega))) fun r hr=>?_
   rw [q9e hlt,qwv]
   refine qmz (fun hb=>?_) (fun hb=>?_)
   ·rw [hr] at hb
    have hb:sm n l[k]=true:=hb
    rw [if_pos hb]
    refine qn1 (by simp;omega) (qn1 rfl (qn1 rfl ?_))
    have:=ih (k+1) (acc++[l[k].Value]) (by omega) (by simp;omega)
    rw [List.length_append] at this
    refine this.mono fun x h=>⟨by rw [h.1,List.append_assoc];rfl,h.2⟩
   ·rw [hr] at hb
    have hb:sm n l[k]=false:=hb
    rw [if_neg (by rw [hb];decide)]
    exact qn1 rfl (qn1 rfl (ih (k+1) acc (by omega) (by omega)))
  ·have:=of_decide_eq_false h
   omega
theorem qcz {n:ByteArray} (h:fnameB n=true):n.size≤60:=by
 unfold fnameB at h
 rw [Bool.and_eq_true,Bool.and_eq_true] at h
 have:=of_decide_eq_true h.2.1
 omega
structure HdrOk (l:List S57):Prop where
 val:∃ i,qhg l=some (0,i)
 len:l.length≤60
 all:∀ x∈l,fieldB x
theorem get_s {l:List S57} (h:HdrOk l) (n:ByteArray) (hn:n.size≤2000000):Ok (qh2 l n) fun r=>r.2=valsL l n∧r.1.1=r.2.length:=.via qgu (by
 obtain ⟨i,hv⟩:=h.val
 have hval:Ok (qhs l n) fun r=>(fnameB n=true→r.1=0)∧(fnameB n=false→r.1≠0):=.via qhr (by
  unfold qht
  simp only [EC.decL_encL,EC.isL_encL]
  refine qn1 rfl (qmy (qn0 hv) fun r hr=>?_)
  subst hr
  refine qmy (qn0 (qc9 _ _)) fun r1 hr1=>?_
  subst hr1
  refine qmz (fun h=>by cases h) (fun _=>?_)
  refine qmy (qi1 n) fun r2 hr2=>qmz (fun hb=>qmy (qcb _ _) fun r3 hr3=>qn2 ?_) (fun hb=>qmy qms fun r3 hr3=>qn2 ?_)
  ·subst hr3
   refine ⟨fun h=>?_,fun _=>by decide⟩
   rw [hr2,h] at hb;cases hb
  ·subst hr3
   refine ⟨fun _=>rfl,fun h=>?_⟩
   rw [hr2,h] at hb;cases hb)
 unfold qh3
 simp only [EC.decL_encL,EC.isL_encL,EC.encL_length,qe]
 refine qn1 rfl (qmy hval fun r0 hr0=>qmy (qn0 (qc9 _ _)) fun r1 hr1=>?_)
 subst hr1
 have hemp:fnameB n=false→valsL l n=[]:=by
  intro hf
  unfold valsL
  have:l.filter (sm n)=[]:=by
   rw [List.filter_eq_nil_iff]
   intro x hx hs
   have:=qd0 (a:=x.Name) (b:=n) (by simpa [sm] using hs)
   rw [(h.all x hx).1,hf] at this
   cases this
  rw [this];rfl
 refine qmz (fun hb=>qn2 ?_) (fun hb=>?_)
 ·have hf:fnameB n=false:=by
   cases hf:fnameB n with
   |true=>rw [hr0.1 hf] at hb;cases hb
   |false=>rfl
  exact ⟨(hemp hf).symm,rfl⟩
 ·refine qn1 rfl (qmy (qga l n h.len hn (fun x hx=>by have:=qcz (h.all x hx).1;omega) 0 0 l.length 0 [] (by omega) (by simp)) fun r2 hr2=>qmy qms fun r3 hr3=>qn1 rfl (qn2 ?_))
  rw [List.drop_zero,List.nil_append] at hr2
  exact hr2)
theorem q16q (l:List S57) (b:List Int) (n:ByteArray) (hl:l.length≤60) (hx:∀ x∈l,x.Name.size≤2000000):∀ (m k:Nat) (acc:List ByteArray),k+m=l.length→acc.length≤k→Ok (q111 n acc.length k l b acc) fun x=>x.2.2=acc++valsL (l.drop k) n∧x.1.2.2.1=x.2.2.length:=by
 intro m
 induction m with
 |zero =>
  intro k acc hk ha
  refine .via q113 ?_
  unfold q117
  simp only [EC.decL_encL,EC.isL_encL,EC.encL_length,qxp,qxr,qy8,q3p,q3q]
  refine qmz (fun h=>?_) (fun _=>qn1 rfl (qn1 rfl (qn1 rfl (qn2 ?_))))
  ·have:=of_decide_eq_true h
   omega
  ·rw [List.drop_eq_nil_of_le (by omega)]
   exact ⟨(List.append_nil _).symm,rfl⟩
 |succ m ih =>
  intro k acc hk ha
  have hlt:k<l.length:=by omega
  have e2:IntKind.i64.wrap ((k:Int)+1)=((k+1:Nat):Int):=by rw [qxb (by omega)];rfl
  refine .via q113 ?_
  unfold q117
  simp only [EC.decL_encL,EC.isL_encL,EC.encL_length,qxp,qxr,qy8,q3p,q3q,Int.toNat_natCast,e2]
  refine qmz (fun h=>?_) (fun h=>?_)
  ·refine qn1 (by simp) (qn1 (by simp [hlt]) ?_)
   rw [qg7 hlt]
   have h1:=hx _ (List.getElem_mem hlt)
   refine qmy (qn0 (qxn l[k].Name n (by omega))) fun r hr=>?_
   rw [q9e hlt,qwv]
   refine qmz (fun hb=>?_) (fun hb=>?_)
   ·rw [hr] at hb
    have hb:sm n l[k]=true:=hb
    rw [if_pos hb]
    refine qn1 (by simp) (qn1 (by simp [hlt]) (qn1 (by simp;omega) (qn1 rfl (qn1 rfl (qn1 rfl ?_)))))
    have:=ih (k+1) (acc++[l[k].Value]) (by omega) (by simp;omega)
    rw [List.length_append] at this
    refine this.mono fun x h=>⟨by rw [h.1,List.append_assoc];rfl,h.2⟩
   ·rw [hr] at hb
    have hb:sm n l[k]=false:=hb
    rw [if_neg (by rw [hb];decide)]
    exact qn1 rfl (qn1 rfl (qn1 rfl (ih (k+1) acc (by omega) (by omega))))
  ·have:=of_decide_eq_false h
   omega
theorem vals_s {l:List S57} (h:HdrOk l) (b:List Int) (n:ByteArray):q118 l b n=some ((valsL l n).length,valsL l n):=by
 have:Ok (q118 l b n) fun r=>r.2=valsL l n∧r.1=r.2.length:=.via q110 (by
  unfold q119
  simp only [EC.decL_encL,EC.isL_encL,qe]
  refine qn1 rfl (qn1 rfl (qmy (q16q l b n h.len (fun x hx=>by have:=qcz (h.all x hx).1;omega) l.length 0 [] (by omega) (by simp)) fun r2 hr2=>qn1 rfl (qn2 ?_)))
  rw [List.drop_zero,List.nil_append] at hr2
  exact hr2)
 obtain ⟨r,e,h1,h2⟩:=this
 rw [e,←h1,←h2]
theorem bmap (s:ByteArray):List.map (fun (b:UInt8)=>[byteC b]) (Array.toList (ByteArray.data s))=q9i.encL (ints s):=q76 s
theorem q9o {τ:Type} (e:EC τ) (a b:List τ):e.encL a++e.encL b=e.encL (a++b):=by simp [EC.encL]
theorem q8k:([[(C.int Go.IntKind.u8 (13:Int))],[(C.int Go.IntKind.u8 (10:Int))]]:List (List C))=q9i.encL [13,10]:=rfl
theorem qkf (l:List S57) (t12 t13:Int) (b0:List S57) (b01:List Int) (b2:List ByteArray) (hb:b2.length≤100001) (hz:szB b2):∀ (m k:Nat) (b1:List Int),k+m=b2.length→b1.length+m*100002≤1000000000000 →
  Ok (qly b1.length l t12 t13 b2.length b2.length k b0 b01 b1 b2) fun x=>x.1.2.2.1=l∧x.1.2.2.2.1=t12∧x.1.2.2.2.2.1=t13∧x.2.1=(b0,b01)∧x.1.2.1=x.2.2.1.length∧x.1.2.1≤b1.length+m*100002:=by
 intro m
 induction m with
 |zero =>
  intro k b1 hk hs
  refine .via qm0 ?_
  unfold qm4
  simp only [EC.decL_encL,EC.isL_encL,EC.encL_length,qxo,qxs]
  refine qmz (fun h=>?_) (fun _=>qn1 rfl (qn1 rfl (qn1 rfl (qn1 rfl (qn1 rfl (qn2 ⟨rfl,rfl,rfl,rfl,rfl,by show b1.length≤_;omega⟩))))))
  have:=of_decide_eq_true h
  omega
 |succ m ih =>
  intro k b1 hk hs
  have hlt:k<b2.length:=by omega
  have e2:IntKind.i64.wrap ((k:Int)+1)=((k+1:Nat):Int):=by rw [qxb (by omega)];rfl
  refine .via qm0 ?_
  unfold qm4
  simp only [EC.decL_encL,EC.isL_encL,EC.encL_length,qxo,qxs,Int.toNat_natCast,e2]
  refine qmz (fun h=>?_) (fun h=>?_)
  ·refine qn1 (by simp;omega) (qn1 (by rw [len_9 b2 k hlt];simp [hlt]) (qn1 (qj7 b2 k hlt) ?_))
   rw [qg7 hlt]
   have hsz:=hz _ (List.getElem_mem hlt)
   have hil:=qj0 b2[k]
   simp only [bmap,q8k,q9o,EC.decL_encL,EC.isL_encL,EC.encL_length,qxo,hil]
   refine qn1 (by simp;omega) (qn1 (by simp;omega) (qn1 rfl (qn1 rfl (qn1 rfl (qn1 rfl (qn1 rfl ?_))))))
   have hl2:((b1++ints b2[k])++[13,10]).length=b1.length+b2[k].size+2:=by simp [hil];omega
   have:=ih (k+1) ((b1++ints b2[k])++[13,10]) (by omega) (by rw [hl2];omega)
   rw [hl2] at this
   refine this.mono fun x hx=>⟨hx.1,hx.2.1,hx.2.2.1,hx.2.2.2.1,hx.2.2.2.2.1,by have:=hx.2.2.2.2.2;omega⟩
  ·have:=of_decide_eq_false h
   omega
set_option maxRecDepth 100000 in
theorem qcd (l:List S57) (hl:l.length≤60) (b0:List S57) (b01:List Int):∀ (m k:Nat) (b1:List Int),k+m=l.length→b1.length+m*10001000000≤900000000000 →
  Ok (qlr b1.length l l.length k b0 b01 b1) fun x=>x.2.1=(b0,b01)∧x.1.2.1=x.2.2.length∧x.1.2.1≤900000000000:=by
 intro m
 induction m with
 |zero =>
  intro k b1 hk hs
  refine .via qlt ?_
  unfold qlx
  simp only [EC.decL_encL,EC.isL_encL,EC.encL_length,qy8,q3p,q3q]
  refine qmz (fun h=>?_) (fun _=>qn1 rfl (qn1 rfl (qn1 rfl (qn1 rfl (qn2 ⟨rfl,rfl,by show b1.length≤_;omega⟩)))))
  have:=of_decide_eq_true h
  omega
 |succ m ih =>
  intro k b1 hk hs
  have hlt:k<l.length:=by omega
  have e2:IntKind.i64.wrap ((k:Int)+1)=((k+1:Nat):Int):=by rw [qxb (by omega)];rfl
  refine .via qlt ?_
  unfold qlx
  simp only [EC.decL_encL,EC.isL_encL,EC.encL_length,qy8,q3p,q3q,Int.toNat_natCast]
  refine qmz (fun h=>?_) (fun h=>?_)
  ·refine qn1 (by simp) (qn1 (by simp [hlt]) ?_)
   rw [qg7 hlt]
   refine qmy (qea _ _) fun r hr=>?_
   obtain ⟨h1,h2,h3,_⟩:=hr
   rw [h1]
   rw [h1] at h2
   refine qn1 rfl (qn1 rfl (qn1 rfl (qn1 rfl (qn1 rfl ?_))))
   have hz0:0+r.2.length=r.2.length:=Nat.zero_add _
   have hbig:b1.length+r.2.length*100002≤1000000000000:=by
    have g1:r.2.length*100002≤10001000000:=Nat.le_trans (Nat.mul_le_mul_right 100002 h2) (by decide)
    have g2:10001000000≤(m+1)*10001000000:=Nat.le_mul_of_pos_left _ (Nat.succ_pos m)
    exact Nat.le_trans (Nat.add_le_add_left (Nat.le_trans g1 g2) _) (Nat.le_trans hs (by decide))
   refine qmy (qkf l l.length k b0 b01 r.2 h2 h3 r.2.length 0 b1 hz0 hbig) fun r1 hr1=>?_
   obtain ⟨q1,q2,q3,q4,q5,q6⟩:=hr1
   rw [q1,q2,q3,q4,q5,e2]
   refine qn1 rfl (qn1 rfl (qn1 rfl (qn1 rfl ?_)))
   exact ih (k+1) r1.2.2.1 (by omega) (by rw [←q5];omega)
  ·have:=of_decide_eq_false h
   omega
theorem qxd (l:List S57) (hl:l.length≤60) (b:List Int) (hb:b.length≤2000000):Ok (qm5 l b) fun r=>r.1=r.2.length:=.via qlq (by
 unfold qm6
 simp only [EC.decL_encL,EC.isL_encL,EC.encL_length,qxo,qe]
 refine qn1 rfl (qn1 rfl (qn1 rfl ?_))
 refine qmy (qcd l hl l b l.length 0 [] (by omega) (by simp;omega)) fun r hr=>?_
 obtain ⟨h1,h2,h3⟩:=hr
 rw [h1]
 simp only [q8k,q9o,EC.decL_encL,EC.isL_encL,EC.encL_length,qxo]
 refine qn1 (by simp;omega) (qn1 (by simp;omega) (qn1 rfl (qn2 ?_)))
 simp only [List.length_append,h2])
theorem q6k (b:List Int) (hb:b.length≤2000000):∀ (m k:Nat) (c:Int),b.length - k≤m→k≤b.length+2→0≤c→c≤998→Ok (q48 b c k) fun _=>True:=by
  intro m
  induction m with
  | zero =>
    intro k c hk hk2 h0 h1
    refine .via q4a ?_
    unfold q4f
    simp only [EC.decL_encL,EC.isL_encL,EC.encL_length,isE_5,at_5_0]
    refine qmz (fun h=>?_) (fun _=>qn1 rfl (qn2 trivial))
    have:=of_decide_eq_true h
    omega
  | succ m ih =>
    intro k c hk hk2 h0 h1
    refine .via q4a ?_
    unfold q4f
    have e2:IntKind.i64.wrap ((k:Int)+1)=((k+1:Nat):Int):=by rw [qxb (by omega)];rfl
    have e3:IntKind.i64.wrap (((k+1:Nat):Int)+1)=((k+2:Nat):Int):=by rw [qxb (by omega)];omega
    have ec:IntKind.i64.wrap (c+1)=c+1:=qxb (by omega)
    simp only [EC.decL_encL,EC.isL_encL,EC.encL_length,isE_5,at_5_0,Int.toNat_natCast,e2,e3,ec]
    refine qmz (fun h=>?_) (fun _=>qn1 rfl (qn2 trivial))
    have hlt:k<b.length:=by have:=of_decide_eq_true h;omega
    have step:Ok (brE (decide (c+1>998)) (some (.inl ((1:Int),()))) (gdE true<| q48 b (c+1) ((k+1:Nat):Int))) fun _=>True:=qmz (fun _=>qn2 trivial) (fun h=>qn1 rfl (ih (k+1) (c+1) (by omega) (by omega) (by omega) (by have:=of_decide_eq_false h;omega)))
    refine qn1 (by simp) (qn1 (by simp [hlt]) ?_)
    repeat' (first
      | exact qn2 trivial
      | exact step
      | exact qn1 rfl (ih (k+2) 0 (by omega) (by omega) (by omega) (by omega))
      | (refine qn1 ?_ ?_
         · first
             | (simp;done)
             | (simp;omega)
             | (simp_all;done)
             | (simp_all;omega))
      | (refine qmz (fun _=>?_) (fun _=>?_)))
theorem q6i (b:List Int) (hb:b.length≤2000000):Ok (qll b) fun _=>True:=.via qlk (by
 unfold qlm
 simp only [EC.decL_encL,EC.isL_encL]
 have hbd:Ok (q4g b) fun _=>True:=.via q47 (by
  unfold q4h
  simp only [EC.decL_encL,EC.isL_encL]
  refine qn1 rfl (qmy (q6k b hb b.length 0 0 (by omega) (by omega) (by omega) (by omega)) ?_)
  rintro (r|r) _
  ·exact qn2 trivial
  ·exact qn2 trivial)
 refine qn1 rfl (qmy hbd fun r _=>qmz (fun _=>qmy (qcb _ _) fun _ _=>qn2 trivial) (fun _=>qmz (fun _=>qmy (qcb _ _) fun _ _=>qn2 trivial) (fun _=>qmy qms fun _ _=>qn2 trivial))))
theorem qmc (l:List S57) (b:List Int) (hb:b.length≤2000000):Ok (qlf l b) fun r=>r.1=0→HdrOk l:=.via qle (by
 unfold qlg
 simp only [EC.decL_encL,EC.isL_encL]
 obtain ⟨r0,e0,p0⟩:=qi3 l
 refine qn1 rfl (qmy (qn0 e0) fun r hr=>?_)
 subst hr
 refine qmy (qn0 (qc9 _ _)) fun r1 hr1=>?_
 subst hr1
 refine qmz (fun hb=>qn2 fun h=>?_) (fun hb0=>?_)
 ·rw [h] at hb;cases hb
 ·have h0:r.1=0:=by simpa using hb0
  obtain ⟨hl,ha⟩:=p0 h0
  have hok:HdrOk l:=⟨⟨r.2,by rw [e0,←h0]⟩,hl,ha⟩
  refine qn1 rfl (qn1 rfl (qmy (qxd l hl b hb) fun r2 _=>qmz (fun _=>qmy (qcb _ _) fun _ _=>qn2 fun _=>hok) (fun _=>qn1 rfl (qmy (q6i b hb) fun _ _=>qn2 fun _=>hok)))))
end Go.Proofs.YtepmpilapglklaaGreat
