/- A field folded; a header's checks. -/
import Derived.Test.YtepmpilapglklaaGreatZ22
namespace Go.Proofs.YtepmpilapglklaaGreat
open Go.RowKit
def foldP (n v:ByteArray) (r:(Nat×(Int×Int))×List ByteArray):Prop:=r.1.1=r.2.length∧r.1.1≤100001∧szB r.2∧(r.1.2.1=0→fnameB n=true∧v.size≤4000∧noSp (L v))∧(fnameB n=true→v.size=0→r.1.2.1=0)
theorem q1gv (n v:ByteArray):Ok (q1ga n v) (foldP n v):=.via q1ft (by
 unfold q1gb
 refine q1mk (q1mm (q1fp n)) fun r0 hr0=>?_
 subst hr0
 refine q1ml (fun hb=>q1mk (q1fg _ _) fun r hr=>q1mo ?_) (fun hb=>?_)
 ·subst hr
  have hb:fnameB n=false:=by simpa using hb
  exact ⟨rfl,by simp,(fun e he=>by simp [EC.decL] at he),(fun h=>by simp at h),(fun h=>by rw [hb] at h;cases h)⟩
 ·have hb:fnameB n=true:=by simpa using hb
  have hn:n.size≤60:=by
   unfold fnameB at hb
   rw [Bool.and_eq_true,Bool.and_eq_true] at hb
   have:=of_decide_eq_true hb.2.1
   omega
  refine q1ml (fun hv=>q1mk (q1fg _ _) fun r hr=>q1mo ?_) (fun hv=>?_)
  ·subst hr
   have:=of_decide_eq_true hv
   exact ⟨rfl,by simp,(fun e he=>by simp [EC.decL] at he),(fun h=>by simp at h),(fun _ h=>by omega)⟩
  ·have hv4:v.size≤4000:=by have:=of_decide_eq_false hv;omega
   refine q1mk (q1tu v (by omega)) fun r1 hr1=>q1ml (fun hb1=>q1mk (q1fg _ _) fun r hr=>q1mo ?_) (fun hb1=>?_)
   ·subst hr
    exact ⟨rfl,by simp,(fun e he=>by simp [EC.decL] at he),(fun h=>by simp at h),(fun _ h=>by rw [hr1.1 h] at hb1;cases hb1)⟩
   ·have hc2:(ByteArray.mk (List.toArray [(58:UInt8),(32:UInt8)])).size=2:=rfl
    have hsz:((n++(ByteArray.mk (List.toArray [(58:UInt8),(32:UInt8)])))++v).size=n.size+2+v.size:=by rw [ByteArray.size_append,ByteArray.size_append,hc2]
    have hsz1:(n++(ByteArray.mk (List.toArray [(58:UInt8),(32:UInt8)]))).size=n.size+2:=by rw [ByteArray.size_append,hc2]
    rw [maxI,hc2,hsz1]
    refine q1ml (fun h=>absurd (of_decide_eq_true h) (by omega)) (fun _=>q1ml (fun h=>absurd (of_decide_eq_true h) (by omega)) (fun _=>?_))
    have hw:IntKind.i64.wrap ((n.size:Int)+2)=((n.size+2:Nat):Int):=by rw [qvs (by omega)];rfl
    rw [hw,q17b]
    refine q1mk (q1gi _ _ _ 0 [] (Nat.le_refl _) rfl (by rw [hsz];omega) (by omega) (fun e he=>by cases he)) ?_
    intro r hr
    have fin:∀ (c d:Int) (s:ByteArray) (o:Nat) (l:List ByteArray),o=l.length→o≤100000→s.size≤100000→szB l→(n.size+2+v.size≤78→s.size≤78∧l=[]) →
      Ok (Option.bind (q1fu (o+1) (o+1) (((o+1:Nat)):Int) 0 c d (l++[s])) fun r4=>Sum.elim (fun r5=>some ((r5.1.1,(r5.2.2.1,r5.2.2.2)),r5.2.1)) (fun r5=>Option.bind q38 fun r6=>some ((r5.1.2.1,(r6.1,r6.2)),r5.2.2)) r4) (foldP n v):=by
     intro c d s o l ho h1 h2 h3 h4
     have hl:(l++[s]).length=o+1:=by simp [ho]
     have hz:=q1q4 h3 h2
     have hwd:=q1u0 (o+1) c d (l++[s]) (by omega) (l++[s]).length 0 (by omega)
     rw [hl] at hwd
     refine q1mk hwd ?_
     rintro (x|x) hx
     ·obtain ⟨x1,x2,x3,x4⟩:=hx
      refine q1mo ⟨by rw [x1,x2];rfl,by rw [x1];omega,by rw [x2];exact (fun e he=>by cases he),(fun h=>by rw [x3] at h;cases h),(fun _ h0=>absurd (fun e he=>?_) x4)⟩
      obtain ⟨g1,g2⟩:=h4 (by omega)
      subst g2
      have:e=s:=by simpa using he
      rw [this];omega
     ·obtain ⟨x1,x2⟩:=hx
      refine q1mk q1mh fun r6 hr6=>q1mo ?_
      subst hr6
      exact ⟨by rw [x1,x2,hl],by rw [x1];omega,by rw [x2];exact hz,(fun _=>⟨hb,hv4,hr1.2 (by simpa using hb1)⟩),(fun _ _=>rfl)⟩
    rcases r with r|r
    ·obtain ⟨q1,q2,q3,q4,q5⟩:=hr
     simp only [flQ,Sum.elim_inl] at q1 q2 q3 q4 q5
     have hf:=fin r.2.1.1 r.2.1.2 r.1.2.1 r.1.2.2.2.1 r.2.2 q1 q2 q3 q4 (fun h=>by
      have:=q5 (by rw [hsz];omega)
      rw [Prod.mk.injEq,Prod.mk.injEq] at this
      rw [this.1,this.2.2]
      exact ⟨by rw [hsz];omega,rfl⟩)
     show Ok (gdE _ _) _
     refine q1mn (by simp [q1ub];omega) (q1mn (by simp [EC.isL_encL,q1ud]) ?_)
     simp only [EC.decL_encL,EC.isL_encL,q1ud,q8h,if_true]
     exact hf
    ·obtain ⟨q1,q2,q3,q4,q5⟩:=hr
     simp only [flQ,Sum.elim_inr] at q1 q2 q3 q4 q5
     have hf:=fin r.2.1.1 r.2.1.2 r.1.2.1 r.1.2.2.1 r.2.2 q1 q2 q3 q4 (fun h=>by
      have:=q5 (by rw [hsz];omega)
      rw [Prod.mk.injEq,Prod.mk.injEq] at this
      rw [this.1,this.2.2]
      exact ⟨by rw [hsz];omega,rfl⟩)
     show Ok (gdE _ _) _
     refine q1mn (by simp [q1ub];omega) (q1mn (by simp [EC.isL_encL,q1ud]) ?_)
     simp only [EC.decL_encL,EC.isL_encL,q1ud,q8h,if_true]
     exact hf)
def fieldB (x:S57):Prop:=fnameB x.Name=true∧x.Value.size≤4000∧noSp (L x.Value)
theorem q1jg (l:List S57) (hl:l.length≤60) (c d:Int):∀ m k:Nat,k+m=l.length→Ok (q1it l l.length k c d) fun x=>Sum.elim (fun r=>r.2.1≠0) (fun _=>∀ x∈l.drop k,fieldB x) x:=by
 intro m
 induction m with
 |zero =>
  intro k hk
  refine .via q1iv ?_
  unfold q1j0
  refine q1ml (fun h=>?_) (fun _=>q1mn (by simp [EC.isL_encL]) (q1mo ?_))
  ·have:=of_decide_eq_true h
   omega
  ·rw [List.drop_eq_nil_of_le (by omega)]
   intro x hx;cases hx
 |succ m ih =>
  intro k hk
  have hlt:k<l.length:=by omega
  have e2:IntKind.i64.wrap ((k:Int)+1)=((k+1:Nat):Int):=by rw [qvs (by omega)];rfl
  refine .via q1iv ?_
  unfold q1j0
  simp only [EC.decL_encL,EC.isL_encL,EC.encL_length,qwf,q21,q22,Int.toNat_natCast,e2]
  refine q1ml (fun h=>?_) (fun h=>?_)
  ·refine q1mn (by simp) (q1mn (by simp [hlt]) ?_)
   refine q1mk (q1gv _ _) fun r hr=>?_
   rw [q8k hlt] at hr
   refine q1mk (q1mm (q71 _ _)) fun r1 hr1=>?_
   subst hr1
   refine q1ml (fun hb=>q1mk (q1fg _ _) fun r2 hr2=>q1mo ?_) (fun hb=>?_)
   ·subst hr2
    show r.1.2.1≠0
    simpa using hb
   ·have h0:r.1.2.1=0:=by simpa using hb
    refine q1mn rfl ((ih (k+1) (by omega)).mono fun x hx=>?_)
    rcases x with x|x
    ·exact hx
    ·show ∀ y∈l.drop k,fieldB y
     rw [q5h hlt]
     intro y hy
     rcases List.mem_cons.1 hy with rfl|hy
     ·exact hr.2.2.2.1 h0
     ·exact hx y hy
  ·have:=of_decide_eq_false h
   omega
def hvalP (l:List S57) (r:Int×Int):Prop:=r.1=0→l.length≤60∧∀ x∈l,fieldB x
theorem q1jh (l:List S57):Ok (q1j1 l) (hvalP l):=.via q1is (by
 unfold q1j2
 simp only [EC.decL_encL,EC.isL_encL,EC.encL_length]
 refine q1ml (fun h=>q1mk (q1fg _ _) fun r hr=>q1mo ?_) (fun h=>q1mn rfl ?_)
 ·subst hr
  intro h;cases h
 ·have hl:l.length≤60:=by have:=of_decide_eq_false h;omega
  refine q1mk (q1jg l hl 0 0 l.length 0 (by omega)) ?_
  rintro (r|r) hr
  ·exact q1mo (fun h=>absurd h hr)
  ·refine q1mk q1mh fun r2 hr2=>q1mo ?_
   intro _
   exact ⟨hl,by rw [List.drop_zero] at hr;exact hr⟩)
theorem q1jf (s:ByteArray):Ok (q1j7 s) fun r=>r=fnameB s:=.via q1j6 (by
 unfold q1j8
 refine q1mk (q1gv _ _) fun r hr=>?_
 refine q1mk (q1mm (q71 _ _)) fun r1 hr1=>q1mo ?_
 subst hr1
 obtain ⟨_,_,_,h1,h2⟩:=hr
 cases hb:fnameB s with
 |true=>rw [h2 hb rfl];rfl
 |false =>
  have:r.1.2.1≠0:=fun h=>by rw [(h1 h).1] at hb;cases hb
  simpa using this)
end Go.Proofs.YtepmpilapglklaaGreat
namespace Go.Proofs.YtepmpilapglklaaGreat
open Go.RowKit
theorem q1i3 (s p:ByteArray):Ok (q1p5 s p) fun _=>True:=.via q1p4 (by
 unfold q1p6
 refine q1mk (P:=fun _=>True) (.via q1pm ?_) fun r _=>q1mo trivial
 unfold q1po
 refine q1ml (fun h=>q1mn ?_ (q1mo trivial)) (fun _=>q1mo trivial)
 simp at h ⊢
 exact h)
theorem q1ib (s p:ByteArray) (hs:s.size≤2000000):Ok (q1pb s p) fun _=>True:=.via q1pa (by
 unfold q1pc
 refine q1mk (P:=fun _=>True) (.via q1ps ?_) fun r _=>q1mo trivial
 unfold q1pu
 refine q1ml (fun h=>q1mn ?_ (q1mo trivial)) (fun _=>q1mo trivial)
 have h:(s.size:Int)≥(p.size:Int):=by simpa using h
 rw [qvs (by omega)]
 simp
 omega)
theorem q1md (s:ByteArray):Ok (q1bf s) fun _=>True:=.via q1be (by
 unfold q1bg
 refine q1ml (fun _=>q1ml (fun h=>?_) (fun _=>q1mo trivial)) (fun _=>q1mo trivial)
 have h:(s.size:Int)≤60:=by simpa using h
 exact q1mk (q1mm (q19h s (by omega))) fun r _=>q1mo trivial)
theorem q1de (s:ByteArray):Ok (q1e6 s) fun r=>r=true→s.size≤60:=.via q1e5 (by
 unfold q1e7
 refine q1ml (fun _=>q1ml (fun h=>?_) (fun _=>q1mo (fun h=>by cases h))) (fun _=>q1mo (fun h=>by cases h))
 have h:(s.size:Int)≤60:=by simpa using h
 have hs:s.size≤60:=by omega
 refine q1mk (q1mm (q180 s (by omega))) fun r _=>?_
 refine q1ml (fun _=>q1mk (q1i3 _ _) fun r1 _=>q1ml (fun _=>q1mk (q1ib _ _ (by omega)) fun r2 _=>q1ml (fun _=>?_) (fun _=>q1mo (fun _=>hs))) (fun _=>q1mo (fun _=>hs))) (fun _=>q1mo (fun _=>hs))
 refine q1mk (P:=fun _=>True) ⟨_,by unfold contP;rw [if_pos (by omega)],trivial⟩ fun r3 _=>q1mo (fun _=>hs))
theorem q1d5 (s sep:List UInt8) (h:(Lib.cut s sep).2.2=true):(Lib.cut s sep).1.length+sep.length+(Lib.cut s sep).2.1.length=s.length:=by
 unfold Lib.cut at *
 split at h
 ·rename_i h0
  rw [if_pos h0]
  have:=Lib.index_room s sep h0
  simp only [List.length_drop,List.length_take]
  omega
 ·cases h
theorem q1oz (s:ByteArray) (hs:s.size≤2000000):Ok (q1f2 s) fun r=>r.2.2=true→s.size≤121:=.via q1f1 (by
 unfold q1f3
 have hc:=q1d5 s.data.toList [64]
 refine q1mk (P:=fun r:ByteArray×ByteArray×Bool=>r.2.2=true→r.1.size+1+r.2.1.size=s.size) ⟨_,by unfold cutP;rw [if_pos (by omega)],fun h=>?_⟩ fun r hr=>?_
 ·have:=hc h
  have e:s.data.toList.length=s.size:=by rw [Array.length_toList];rfl
  rw [e] at this
  exact this
 ·refine q1ml (fun hk=>?_) (fun _=>q1mo (fun h=>by cases h))
  have hk:=hr (by simpa using hk)
  refine q1ml (fun _=>q1ml (fun h=>?_) (fun _=>q1mo (fun h=>by cases h))) (fun _=>q1mo (fun h=>by cases h))
  have h:(r.1.size:Int)≤60:=by simpa using h
  refine q1mk (q1mm (q18z r.1 (by omega))) fun r1 _=>q1ml (fun _=>?_) (fun _=>q1mo (fun h=>by cases h))
  exact q1mk (q1de _) fun r2 h2=>q1mo (fun h3=>by have:=h2 h3;omega))
theorem q17h (s:ByteArray) (hs:s.size≤2000000):Ok (q1du s) fun r=>r=true→s.size≤121:=.via q1dt (by
 unfold q1dv
 exact q1mk (q1oz s hs) fun r h=>q1mo h)
theorem q1mj (n:Int):Ok (q1ec n) fun _=>True:=.via q1eb (by
 unfold q1ed
 exact q1ml (fun _=>q1mo trivial) (fun _=>q1mo trivial))
theorem q1jx (l:List S81) (hl:l.length≤2000000) (f:ByteArray) (n:Int):∀ m k:Nat,k+m=l.length→Ok (q1jp l f n l.length k) fun _=>True:=by
 intro m
 induction m with
 |zero =>
  intro k hk
  refine .via q1jr ?_
  unfold q1jw
  refine q1ml (fun h=>?_) (fun _=>q1mn (by simp [EC.isL_encL]) (q1mo trivial))
  have:=of_decide_eq_true h
  omega
 |succ m ih =>
  intro k hk
  have hlt:k<l.length:=by omega
  have e2:IntKind.i64.wrap ((k:Int)+1)=((k+1:Nat):Int):=by rw [qvs (by omega)];rfl
  refine .via q1jr ?_
  unfold q1jw
  simp only [EC.decL_encL,EC.isL_encL,EC.encL_length,isE_81,q19v,q19w,Int.toNat_natCast,e2]
  refine q1ml (fun h=>?_) (fun h=>?_)
  ·refine q1mn (by simp) (q1mn (by simp [hlt]) ?_)
   refine q1mk (P:=fun _=>True) (.via q1np (q1mo trivial)) fun r _=>q1ml (fun _=>q1mo trivial) (fun _=>q1mn rfl (ih (k+1) (by omega)))
  ·have:=of_decide_eq_false h
   omega
theorem q1i8 (l:List S81) (hl:l.length≤2000000) (f:ByteArray) (n:Int):Ok (q1i9 l f n) fun _=>True:=.via q1i7 (by
 unfold q1ia
 simp only [EC.decL_encL,EC.isL_encL]
 refine q1mn rfl (q1mk (P:=fun _=>True) (.via q1jo ?_) fun r _=>q1mo trivial)
 unfold q1jz
 simp only [EC.decL_encL,EC.isL_encL,EC.encL_length]
 refine q1mn rfl (q1mk (q1jx l hl f n l.length 0 (by omega)) ?_)
 rintro (r|r) _
 ·exact q1mo trivial
 ·exact q1mo trivial)
theorem q1ns (l:List S81) (hl:l.length≤2000000) (ha:∀ x∈l,x.Address.size≤2000000) (c d:Int):∀ m k:Nat,k+m=l.length→Ok (q1ei l l l.length k c d) fun x=>Sum.elim (fun r=>r.2.1≠0) (fun _=>∀ x∈l.drop k,x.Address.size≤121) x:=by
 intro m
 induction m with
 |zero =>
  intro k hk
  refine .via q1ek ?_
  unfold q1ep
  refine q1ml (fun h=>?_) (fun _=>q1mn (by simp [EC.isL_encL]) (q1mn (by simp [EC.isL_encL]) (q1mo ?_)))
  ·have:=of_decide_eq_true h
   omega
  ·rw [List.drop_eq_nil_of_le (by omega)]
   intro x hx;cases hx
 |succ m ih =>
  intro k hk
  have hlt:k<l.length:=by omega
  have e2:IntKind.i64.wrap ((k:Int)+1)=((k+1:Nat):Int):=by rw [qvs (by omega)];rfl
  refine .via q1ek ?_
  unfold q1ep
  simp only [EC.decL_encL,EC.isL_encL,EC.encL_length,isE_81,q19v,q19w,all_81,Int.toNat_natCast,e2,q17c,q17a]
  refine q1ml (fun h=>?_) (fun h=>?_)
  ·refine q1mn (by simp) (q1mn (by simp [hlt]) ?_)
   rw [q8k hlt]
   refine q1mk (q17h _ (ha _ (List.getElem_mem hlt))) fun r0 hr0=>q1ml (fun _=>q1mk (q1fg _ _) fun r1 hr1=>q1mo ?_) (fun hb=>?_)
   ·subst hr1
    intro h;cases h
   ·refine q1mk (q1mj _) fun r1 _=>q1ml (fun _=>q1mk (q1fg _ _) fun r2 hr2=>q1mo ?_) (fun _=>?_)
    ·subst hr2
     intro h;cases h
    ·refine q1mn (by simp;omega) (q1mn (by simp []) ?_)
     refine q1mn rfl (q1mk (q1i8 _ (by simp;omega) _ _) fun r2 _=>q1ml (fun _=>q1mk (q1fg _ _) fun r3 hr3=>q1mo ?_) (fun _=>q1mn rfl (q1mn rfl ((ih (k+1) (by omega)).mono fun x hx=>?_))))
     ·subst hr3
      intro h;cases h
     ·rcases x with x|x
      ·exact hx
      ·show ∀ y∈l.drop k,y.Address.size≤121
       rw [q5h hlt]
       intro y hy
       rcases List.mem_cons.1 hy with rfl|hy
       ·exact hr0 (by simpa using hb)
       ·exact hx y hy
  ·have:=of_decide_eq_false h
   omega
theorem q1nt (l:List S81) (hl:l.length≤2000000) (ha:∀ x∈l,x.Address.size≤2000000):Ok (q1eq l) fun r=>r.1=0→∀ x∈l,x.Address.size≤121:=.via q1eh (by
 unfold q1er
 simp only [EC.decL_encL,EC.isL_encL,EC.encL_length]
 refine q1mn rfl (q1mn rfl (q1mk (q1ns l hl ha 0 0 l.length 0 (by omega)) ?_))
 rintro (r|r) hr
 ·exact q1mo (fun h=>absurd h hr)
 ·refine q1mk q1mh fun r2 hr2=>q1mo ?_
  intro _
  rw [List.drop_zero] at hr
  exact hr)
def envB (f:ByteArray) (l:List S81):Prop:=f.size≤121∧l.length≤60∧∀ x∈l,x.Address.size≤121
theorem env_ok (f:ByteArray) (l:List S81) (i:ByteArray) (hf:f.size≤2000000) (hl:l.length≤2000000) (ha:∀ x∈l,x.Address.size≤2000000):Ok (q1f8 f l i) fun r=>r.1=0→envB f l:=.via q1f7 (by
 unfold q1f9
 simp only [EC.decL_encL,EC.isL_encL,EC.encL_length,qwb]
 have rest:f.size≤121→l.length≤60→Ok (brE ((!em i)==true) (Option.bind (q1bf i) fun r0=>brE (!r0) (Option.bind (q32 10 (-12)) fun r1=>some (r1.1,r1.2)) (gdE true<| Option.bind (q1eq l) fun r1=>some (r1.1,r1.2))) (gdE true<| Option.bind (q1eq l) fun r0=>some (r0.1,r0.2))) fun r=>r.1=0→envB f l:=by
  intro h1 h2
  have fin:Ok (gdE true<| Option.bind (q1eq l) fun r0=>some (r0.1,r0.2)) fun r=>r.1=0→envB f l:=q1mn rfl (q1mk (q1nt l hl ha) fun r hr=>q1mo fun h=>⟨h1,h2,hr h⟩)
  refine q1ml (fun _=>q1mk (q1md _) fun r _=>q1ml (fun _=>q1mk (q1fg _ _) fun r1 hr1=>q1mo ?_) (fun _=>fin)) (fun _=>fin)
  subst hr1
  intro h;cases h
 have bad:∀ a b:Int,a≠0→Ok (Option.bind (q32 a b) fun r1=>some (r1.1,r1.2)) fun r=>r.1=0→envB f l:=fun a b h0=>q1mk (q1fg _ _) fun r hr=>q1mo (by subst hr;exact fun h=>absurd h h0)
 have rest2:f.size≤121→Ok (brE (decide ((l.length:Int)<1)==false) (brE (decide ((l.length:Int)>60)) (Option.bind (q32 2 (-11)) fun r1=>some (r1.1,r1.2)) (brE ((!em i)==true) (Option.bind (q1bf i) fun r0=>brE (!r0) (Option.bind (q32 10 (-12)) fun r1=>some (r1.1,r1.2)) (gdE true<| Option.bind (q1eq l) fun r1=>some (r1.1,r1.2))) (gdE true<| Option.bind (q1eq l) fun r0=>some (r0.1,r0.2)))) (Option.bind (q32 2 (-11)) fun r1=>some (r1.1,r1.2))) fun r=>r.1=0→envB f l:=fun h1 =>
  q1ml (fun _=>q1ml (fun _=>bad _ _ (by decide)) (fun h=>rest h1 (by have:=of_decide_eq_false h;omega))) (fun _=>bad _ _ (by decide))
 refine q1ml (fun _=>q1mk (q17h f hf) fun r hr=>q1ml (fun _=>bad _ _ (by decide)) (fun h=>rest2 (hr (by simpa using h)))) (fun h=>rest2 ?_)
 have he:em f=true:=by cases h2:em f with|true=>rfl|false=>rw [h2] at h;cases h
 rw [q5p] at he
 have:=of_decide_eq_true he
 omega)
theorem nb_low (b:UInt8):nb (lowB b)=lowI (nb b):=by
 have h:=q1l6 (q1v5 b).1 (q1v5 b).2
 unfold lowB ub
 generalize lowI (nb b)=c at h
 unfold nb
 rw [UInt8.toNat_ofNat']
 omega
theorem q1fm (c:Int):fnB (lowI c)=fnB c:=by
 unfold lowI fnB
 split
 ·rw [Bool.eq_iff_iff]
  simp
  omega
 ·rfl
theorem q1fo {a b:ByteArray} (h:lowL (L a)=lowL (L b)):fnameB a=fnameB b:=by
 have hl:(L a).length=(L b).length:=by
  have:=congrArg List.length h
  simpa [lowL] using this
 have hs:a.size=b.size:=by rw [←q17d,←q17d,hl]
 have hp:∀ s:ByteArray,(L s).all q18g=(lowL (L s)).all q18g:=by
  intro s
  unfold lowL
  rw [List.all_map]
  congr 1
  funext x
  show fnB (nb x)=fnB (nb (lowB x))
  rw [nb_low,q1fm]
 unfold fnameB
 rw [q5p,q5p,hs,hp a,hp b,h]
def sm (n:ByteArray) (x:S57):Bool:=lowL (L x.Name)==lowL (L n)
def valsL (l:List S57) (n:ByteArray):List ByteArray:=(l.filter (sm n)).map fun x=>x.Value
theorem q1ts (x:S57) (l:List S57) (n:ByteArray):valsL (x::l) n=if sm n x=true then x.Value::valsL l n else valsL l n:=by
 unfold valsL
 rw [List.filter_cons]
 split <;> rfl
theorem q1hy (l:List S57) (n:ByteArray) (hl:l.length≤60) (hn:n.size≤2000000) (hx:∀ x∈l,x.Name.size≤2000000) (c d:Int):∀ (m k:Nat) (acc:List ByteArray),k+m=l.length→acc.length≤k→Ok (q1ig n acc.length l l.length k c d acc) fun x=>x.2.2=acc++valsL (l.drop k) n∧x.1.2.2.1=x.2.2.length:=by
 intro m
 induction m with
 |zero =>
  intro k acc hk ha
  refine .via q1ii ?_
  unfold q1im
  simp only [EC.decL_encL,EC.isL_encL,EC.encL_length,q1ub,q1ud,qwf,q21,q22]
  refine q1ml (fun h=>?_) (fun _=>q1mn rfl (q1mn rfl (q1mo ?_)))
  ·have:=of_decide_eq_true h
   omega
  ·rw [List.drop_eq_nil_of_le (by omega)]
   exact ⟨(List.append_nil _).symm,rfl⟩
 |succ m ih =>
  intro k acc hk ha
  have hlt:k<l.length:=by omega
  have e2:IntKind.i64.wrap ((k:Int)+1)=((k+1:Nat):Int):=by rw [qvs (by omega)];rfl
  refine .via q1ii ?_
  unfold q1im
  simp only [EC.decL_encL,EC.isL_encL,EC.encL_length,q1ub,q1ud,qwf,q21,q22,Int.toNat_natCast,e2]
  refine q1ml (fun h=>?_) (fun h=>?_)
  ·refine q1mn (by simp) (q1mn (by simp [hlt]) ?_)
   rw [q8k hlt]
   have h1:=hx _ (List.getElem_mem hlt)
   refine q1mk (q1mm (same_s l[k].Name n (by omega) (by omega))) fun r hr=>?_
   rw [q5h hlt,q1ts]
   refine q1ml (fun hb=>?_) (fun hb=>?_)
   ·rw [hr] at hb
    have hb:sm n l[k]=true:=hb
    rw [if_pos hb]
    refine q1mn (by simp;omega) (q1mn rfl (q1mn rfl ?_))
    have:=ih (k+1) (acc++[l[k].Value]) (by omega) (by simp;omega)
    rw [List.length_append] at this
    refine this.mono fun x h=>⟨by rw [h.1,List.append_assoc];rfl,h.2⟩
   ·rw [hr] at hb
    have hb:sm n l[k]=false:=hb
    rw [if_neg (by rw [hb];decide)]
    exact q1mn rfl (q1mn rfl (ih (k+1) acc (by omega) (by omega)))
  ·have:=of_decide_eq_false h
   omega
theorem q1fn {n:ByteArray} (h:fnameB n=true):n.size≤60:=by
 unfold fnameB at h
 rw [Bool.and_eq_true,Bool.and_eq_true] at h
 have:=of_decide_eq_true h.2.1
 omega
structure HdrOk (l:List S57):Prop where
 val:∃ i,q1j1 l=some (0,i)
 len:l.length≤60
 all:∀ x∈l,fieldB x
theorem get_s {l:List S57} (h:HdrOk l) (n:ByteArray) (hn:n.size≤2000000):Ok (q1in l n) fun r=>r.2=valsL l n∧r.1.1=r.2.length:=.via q1if (by
 obtain ⟨i,hv⟩:=h.val
 have hval:Ok (q1jd l n) fun r=>(fnameB n=true→r.1=0)∧(fnameB n=false→r.1≠0):=.via q1jc (by
  unfold q1je
  simp only [EC.decL_encL,EC.isL_encL]
  refine q1mn rfl (q1mk (q1mm hv) fun r hr=>?_)
  subst hr
  refine q1mk (q1mm (q71 _ _)) fun r1 hr1=>?_
  subst hr1
  refine q1ml (fun h=>by cases h) (fun _=>?_)
  refine q1mk (q1jf n) fun r2 hr2=>q1ml (fun hb=>q1mk (q1fg _ _) fun r3 hr3=>q1mo ?_) (fun hb=>q1mk q1mh fun r3 hr3=>q1mo ?_)
  ·subst hr3
   refine ⟨fun h=>?_,fun _=>by decide⟩
   rw [hr2,h] at hb;cases hb
  ·subst hr3
   refine ⟨fun _=>rfl,fun h=>?_⟩
   rw [hr2,h] at hb;cases hb)
 unfold q1io
 simp only [EC.decL_encL,EC.isL_encL,EC.encL_length,q17b]
 refine q1mn rfl (q1mk hval fun r0 hr0=>q1mk (q1mm (q71 _ _)) fun r1 hr1=>?_)
 subst hr1
 have hemp:fnameB n=false→valsL l n=[]:=by
  intro hf
  unfold valsL
  have:l.filter (sm n)=[]:=by
   rw [List.filter_eq_nil_iff]
   intro x hx hs
   have:=q1fo (a:=x.Name) (b:=n) (by simpa [sm] using hs)
   rw [(h.all x hx).1,hf] at this
   cases this
  rw [this];rfl
 refine q1ml (fun hb=>q1mo ?_) (fun hb=>?_)
 ·have hf:fnameB n=false:=by
   cases hf:fnameB n with
   |true=>rw [hr0.1 hf] at hb;cases hb
   |false=>rfl
  exact ⟨(hemp hf).symm,rfl⟩
 ·refine q1mn rfl (q1mk (q1hy l n h.len hn (fun x hx=>by have:=q1fn (h.all x hx).1;omega) 0 0 l.length 0 [] (by omega) (by simp)) fun r2 hr2=>q1mk q1mh fun r3 hr3=>q1mn rfl (q1mo ?_))
  rw [List.drop_zero,List.nil_append] at hr2
  exact hr2)
theorem bmap (s:ByteArray):List.map (fun (b:UInt8)=>[byteC b]) (Array.toList (ByteArray.data s))=q5j.encL (ints s):=q1c8 s
theorem q1dl {τ:Type} (e:EC τ) (a b:List τ):e.encL a++e.encL b=e.encL (a++b):=by simp [EC.encL]
theorem q1cz:([[(C.int Go.IntKind.u8 (13:Int))],[(C.int Go.IntKind.u8 (10:Int))]]:List (List C))=q5j.encL [13,10]:=rfl
theorem q1kz (l:List S57) (t12 t13:Int) (b0:List S57) (b01:List Int) (b2:List ByteArray) (hb:b2.length≤100001) (hz:szB b2):∀ (m k:Nat) (b1:List Int),k+m=b2.length→b1.length+m*100002≤1000000000000 →
  Ok (q1lz b1.length l t12 t13 b2.length b2.length k b0 b01 b1 b2) fun x=>x.1.2.2.1=l∧x.1.2.2.2.1=t12∧x.1.2.2.2.2.1=t13∧x.2.1=(b0,b01)∧x.1.2.1=x.2.2.1.length∧x.1.2.1≤b1.length+m*100002:=by
 intro m
 induction m with
 |zero =>
  intro k b1 hk hs
  refine .via q1m1 ?_
  unfold q1m5
  simp only [EC.decL_encL,EC.isL_encL,EC.encL_length,q1ua,q1ue]
  refine q1ml (fun h=>?_) (fun _=>q1mn rfl (q1mn rfl (q1mn rfl (q1mn rfl (q1mn rfl (q1mo ⟨rfl,rfl,rfl,rfl,rfl,by show b1.length≤_;omega⟩))))))
  have:=of_decide_eq_true h
  omega
 |succ m ih =>
  intro k b1 hk hs
  have hlt:k<b2.length:=by omega
  have e2:IntKind.i64.wrap ((k:Int)+1)=((k+1:Nat):Int):=by rw [qvs (by omega)];rfl
  refine .via q1m1 ?_
  unfold q1m5
  simp only [EC.decL_encL,EC.isL_encL,EC.encL_length,q1ua,q1ue,Int.toNat_natCast,e2]
  refine q1ml (fun h=>?_) (fun h=>?_)
  ·refine q1mn (by simp;omega) (q1mn (by rw [len_9 b2 k hlt];simp [hlt]) (q1mn (q1kb b2 k hlt) ?_))
   rw [q8k hlt]
   have hsz:=hz _ (List.getElem_mem hlt)
   have hil:=q1k9 b2[k]
   simp only [bmap,q1cz,q1dl,EC.decL_encL,EC.isL_encL,EC.encL_length,q1ua,hil]
   refine q1mn (by simp;omega) (q1mn (by simp;omega) (q1mn rfl (q1mn rfl (q1mn rfl (q1mn rfl (q1mn rfl ?_))))))
   have hl2:((b1++ints b2[k])++[13,10]).length=b1.length+b2[k].size+2:=by simp [hil];omega
   have:=ih (k+1) ((b1++ints b2[k])++[13,10]) (by omega) (by rw [hl2];omega)
   rw [hl2] at this
   refine this.mono fun x hx=>⟨hx.1,hx.2.1,hx.2.2.1,hx.2.2.2.1,hx.2.2.2.2.1,by have:=hx.2.2.2.2.2;omega⟩
  ·have:=of_decide_eq_false h
   omega
set_option maxRecDepth 100000 in
theorem q1fh (l:List S57) (hl:l.length≤60) (b0:List S57) (b01:List Int):∀ (m k:Nat) (b1:List Int),k+m=l.length→b1.length+m*10001000000≤900000000000 →
  Ok (q1ls b1.length l l.length k b0 b01 b1) fun x=>x.2.1=(b0,b01)∧x.1.2.1=x.2.2.length∧x.1.2.1≤900000000000:=by
 intro m
 induction m with
 |zero =>
  intro k b1 hk hs
  refine .via q1lu ?_
  unfold q1ly
  simp only [EC.decL_encL,EC.isL_encL,EC.encL_length,qwf,q21,q22]
  refine q1ml (fun h=>?_) (fun _=>q1mn rfl (q1mn rfl (q1mn rfl (q1mn rfl (q1mo ⟨rfl,rfl,by show b1.length≤_;omega⟩)))))
  have:=of_decide_eq_true h
  omega
 |succ m ih =>
  intro k b1 hk hs
  have hlt:k<l.length:=by omega
  have e2:IntKind.i64.wrap ((k:Int)+1)=((k+1:Nat):Int):=by rw [qvs (by omega)];rfl
  refine .via q1lu ?_
  unfold q1ly
  simp only [EC.decL_encL,EC.isL_encL,EC.encL_length,qwf,q21,q22,Int.toNat_natCast]
  refine q1ml (fun h=>?_) (fun h=>?_)
  ·refine q1mn (by simp) (q1mn (by simp [hlt]) ?_)
   rw [q8k hlt]
   refine q1mk (q1gv _ _) fun r hr=>?_
   obtain ⟨h1,h2,h3,_⟩:=hr
   rw [h1]
   rw [h1] at h2
   refine q1mn rfl (q1mn rfl (q1mn rfl (q1mn rfl (q1mn rfl ?_))))
   have hz0:0+r.2.length=r.2.length:=Nat.zero_add _
   have hbig:b1.length+r.2.length*100002≤1000000000000:=by
    have g1:r.2.length*100002≤10001000000:=Nat.le_trans (Nat.mul_le_mul_right 100002 h2) (by decide)
    have g2:10001000000≤(m+1)*10001000000:=Nat.le_mul_of_pos_left _ (Nat.succ_pos m)
    exact Nat.le_trans (Nat.add_le_add_left (Nat.le_trans g1 g2) _) (Nat.le_trans hs (by decide))
   refine q1mk (q1kz l l.length k b0 b01 r.2 h2 h3 r.2.length 0 b1 hz0 hbig) fun r1 hr1=>?_
   obtain ⟨q1,q2,q3,q4,q5,q6⟩:=hr1
   rw [q1,q2,q3,q4,q5,e2]
   refine q1mn rfl (q1mn rfl (q1mn rfl (q1mn rfl ?_)))
   exact ih (k+1) r1.2.2.1 (by omega) (by rw [←q5];omega)
  ·have:=of_decide_eq_false h
   omega
theorem q1u3 (l:List S57) (hl:l.length≤60) (b:List Int) (hb:b.length≤2000000):Ok (q1m6 l b) fun r=>r.1=r.2.length:=.via q1lr (by
 unfold q1m7
 simp only [EC.decL_encL,EC.isL_encL,EC.encL_length,q1ua,q17b]
 refine q1mn rfl (q1mn rfl (q1mn rfl ?_))
 refine q1mk (q1fh l hl l b l.length 0 [] (by omega) (by simp;omega)) fun r hr=>?_
 obtain ⟨h1,h2,h3⟩:=hr
 rw [h1]
 simp only [q1cz,q1dl,EC.decL_encL,EC.isL_encL,EC.encL_length,q1ua]
 refine q1mn (by simp;omega) (q1mn (by simp;omega) (q1mn rfl (q1mo ?_)))
 simp only [List.length_append,h2])
theorem q1by (b:List Int) (hb:b.length≤2000000):∀ (m k:Nat) (c:Int),b.length - k≤m→k≤b.length+2→0≤c→c≤998→Ok (q1ac b c k) fun _=>True:=by
  intro m
  induction m with
  | zero =>
    intro k c hk hk2 h0 h1
    refine .via q1ae ?_
    unfold q1aj
    simp only [EC.decL_encL,EC.isL_encL,EC.encL_length,isE_5,at_5_0]
    refine q1ml (fun h=>?_) (fun _=>q1mn rfl (q1mo trivial))
    have:=of_decide_eq_true h
    omega
  | succ m ih =>
    intro k c hk hk2 h0 h1
    refine .via q1ae ?_
    unfold q1aj
    have e2:IntKind.i64.wrap ((k:Int)+1)=((k+1:Nat):Int):=by rw [qvs (by omega)];rfl
    have e3:IntKind.i64.wrap (((k+1:Nat):Int)+1)=((k+2:Nat):Int):=by rw [qvs (by omega)];omega
    have ec:IntKind.i64.wrap (c+1)=c+1:=qvs (by omega)
    simp only [EC.decL_encL,EC.isL_encL,EC.encL_length,isE_5,at_5_0,Int.toNat_natCast,e2,e3,ec]
    refine q1ml (fun h=>?_) (fun _=>q1mn rfl (q1mo trivial))
    have hlt:k<b.length:=by have:=of_decide_eq_true h;omega
    have step:Ok (brE (decide (c+1>998)) (some (.inl ((1:Int),()))) (gdE true<| q1ac b (c+1) ((k+1:Nat):Int))) fun _=>True:=q1ml (fun _=>q1mo trivial) (fun h=>q1mn rfl (ih (k+1) (c+1) (by omega) (by omega) (by omega) (by have:=of_decide_eq_false h;omega)))
    refine q1mn (by simp) (q1mn (by simp [hlt]) ?_)
    repeat' (first
      | exact q1mo trivial
      | exact step
      | exact q1mn rfl (ih (k+2) 0 (by omega) (by omega) (by omega) (by omega))
      | (refine q1mn ?_ ?_
         · first
             | (simp;done)
             | (simp;omega)
             | (simp_all;done)
             | (simp_all;omega))
      | (refine q1ml (fun _=>?_) (fun _=>?_)))
theorem q1bx (b:List Int) (hb:b.length≤2000000):Ok (q1lm b) fun _=>True:=.via q1ll (by
 unfold q1ln
 simp only [EC.decL_encL,EC.isL_encL]
 have hbd:Ok (q1ak b) fun _=>True:=.via q1ab (by
  unfold q1al
  simp only [EC.decL_encL,EC.isL_encL]
  refine q1mn rfl (q1mk (q1by b hb b.length 0 0 (by omega) (by omega) (by omega) (by omega)) ?_)
  rintro (r|r) _
  ·exact q1mo trivial
  ·exact q1mo trivial)
 refine q1mn rfl (q1mk hbd fun r _=>q1ml (fun _=>q1mk (q1fg _ _) fun _ _=>q1mo trivial) (fun _=>q1ml (fun _=>q1mk (q1fg _ _) fun _ _=>q1mo trivial) (fun _=>q1mk q1mh fun _ _=>q1mo trivial))))
theorem q1mb (l:List S57) (b:List Int) (hb:b.length≤2000000):Ok (q1lg l b) fun r=>r.1=0→HdrOk l:=.via q1lf (by
 unfold q1lh
 simp only [EC.decL_encL,EC.isL_encL]
 obtain ⟨r0,e0,p0⟩:=q1jh l
 refine q1mn rfl (q1mk (q1mm e0) fun r hr=>?_)
 subst hr
 refine q1mk (q1mm (q71 _ _)) fun r1 hr1=>?_
 subst hr1
 refine q1ml (fun hb=>q1mo fun h=>?_) (fun hb0=>?_)
 ·rw [h] at hb;cases hb
 ·have h0:r.1=0:=by simpa using hb0
  obtain ⟨hl,ha⟩:=p0 h0
  have hok:HdrOk l:=⟨⟨r.2,by rw [e0,←h0]⟩,hl,ha⟩
  refine q1mn rfl (q1mn rfl (q1mk (q1u3 l hl b hb) fun r2 _=>q1ml (fun _=>q1mk (q1fg _ _) fun _ _=>q1mo fun _=>hok) (fun _=>q1mn rfl (q1mk (q1bx b hb) fun _ _=>q1mo fun _=>hok)))))
end Go.Proofs.YtepmpilapglklaaGreat
