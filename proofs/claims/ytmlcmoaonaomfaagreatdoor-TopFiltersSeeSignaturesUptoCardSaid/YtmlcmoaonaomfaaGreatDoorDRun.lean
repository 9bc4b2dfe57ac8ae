/- Operations in the order of the text; calls on the caller's heap. -/
import Derived.Test.YtmlcmoaonaomfaaGreatDoorZ11
namespace Go.Proofs.YtmlcmoaonaomfaaGreatDoor
open Go.RowKit
section
variable {P:Program} {Z Y:ZMap} {m:Nat->Oq Value} {w0:WB} {w:World}
theorem q14j {D:List Deferred} {G:Nat->Oq Value} {call:FuncId->List V->Oq (V×List B)} (hcall:∀ g args res,call g args=some res->CallOk P g args res) {ch:FuncId->Oq (List V->St->Oq (V×St))} (hch:∀ f g args s0 v s1,ch f=some g->g args s0=some (v,s1)->HeapOk P f args s0 v s1)
  {lv:Nat->List Nat} {nt:Nat} {ops:Array Oper} {Q:Exit->Act->World->Prop}:∀ (l:List Oper) {jj base:Nat} {Z:ZMap} {m:Nat->Oq Value} {s s':St} {a:Act} {w:World},FrS D G w0 Z Y m nt s a w->(∀ i,m i≠none->i<base)->runN P call ch lv nt ops l jj base s=some s' ->
  (∀ a' w' Z' m',ZUp w0 Z Z'->(∀ i,m' i≠none->i<s'.nx)->FrS D G w0 Z' Y m' nt s' a' w'->Q .normal a' w')->wpList P ops Q l a w
 |[],jj,base,Z,m,s,s',a,w,F,hm,hr,hQ=>by
  simp only [runN] at hr
  injection hr with hr;subst hr
  exact hQ a w Z m ZUp.refl hm ⟨F.fr,F.rel,F.og,F.df⟩
 |o::l,jj,base,Z,m,s,s',a,w,F,hm,hr,hQ=>by
  rw [runN] at hr
  split at hr
  ·rename_i f g as hio
   split at hr
   case isFalse=>cases hr
   rename_i hd
   cases hw:wantedV ops s.t o with
   |none=>rw [hw] at hr;cases hr
   |some b =>
    rw [hw] at hr
    simp only [x0q] at hr
    refine wpList_step λK' hK'=>?_
    rw [q1ek F.fr hw]
    cases b with
    |false =>
     simp only [x1q,x21q] at hr ⊢
     exact hK' _ _ (q14j hcall hch l (base:=base+8) (s:={ s with t:=putD s.t o.dst (.tup []) }) ⟨F.fr.put o.dst hd (.tup #[] [] rfl (by simp)),F.rel,F.og,(put_df _ _ _).trans F.df⟩ (λi hi=>by have:=hm i hi;omega) hr hQ)
    |true =>
     simp only [x20q] at hr ⊢
     cases hy:heapD g as base (lv jj) base s with
     |none=>rw [hy] at hr;cases hr
     |some y =>
      rw [hy] at hr
      simp only [x0q] at hr
      have hfr:∀ i,base<=i->i<base+8->m i=none/\s.h i=none:=λi hi _=>by
       have hmi:m i=none:=by
        cases hc:m i with
        |none=>rfl
        |some v=>have:=hm i (by rw [hc];simp);omega
       refine ⟨hmi,?_⟩
       cases hc:s.h i with
       |none=>rfl
       |some b=>exact absurd hmi (F.rel.m_of_h (by rw [hc];simp))
      refine qm7 hch (λx=>F.fr.eval x) F.rel hm hio hfr hy (λcv w' Z' m' u1 u2 u3 R1 r1=>hK' _ _ ?_)
      refine q14j hcall hch l (base:=base+8) (s:={ s with t:=putD s.t o.dst y.1,h:=y.2.1,sh:=y.2.2 }) ⟨(F.fr.mono u1.le u2).put o.dst hd r1,R1,og_le F.og u2,(put_df _ _ _).trans F.df⟩ (λi hi=>?_) hr (λa'' w'' Z'' m'' v1 v3 F''=>hQ a'' w'' Z'' m'' (u1.trans v1) v3 F'')
      rcases u3 i hi with h|h
      ·have:=hm i h;omega
      ·omega
  ·cases h1:opD P (hp0 call) nt ops s.h base o s with
   |none=>rw [h1] at hr;cases hr
   |some s1 =>
    rw [h1] at hr
    simp only [x0q] at hr
    have hfr:∀ i,base<=i->i<base+8->m i=none/\s.h i=none:=λi hi _=>by
     have hmi:m i=none:=by
      cases hc:m i with
      |none=>rfl
      |some v=>have:=hm i (by rw [hc];simp);omega
     refine ⟨hmi,?_⟩
     cases hc:s.h i with
     |none=>rfl
     |some b=>exact absurd hmi (F.rel.m_of_h (by rw [hc];simp))
    refine wpList_step λK hK=>quf (hp:=hp0 call) hcall (λh=>by rw [show isIo (hp0 call).io o.op=false from qor] at h;cases h) (λh=>by rw [show isIo (hp0 call).io o.op=false from qor] at h;cases h) F (λ_ _ h=>h) hfr h1 (λa' w' Z' m' u1 u2 u3 F'=>hK _ _ ?_)
    refine q14j hcall hch l F' (λi hi=>?_) hr (λa'' w'' Z'' m'' v1 v3 F''=>hQ a'' w'' Z'' m'' (u1.trans v1) v3 F'')
    rcases u3 i hi with h|h
    ·have:=hm i h;omega
    ·omega
end
end Go.Proofs.YtmlcmoaonaomfaaGreatDoor
