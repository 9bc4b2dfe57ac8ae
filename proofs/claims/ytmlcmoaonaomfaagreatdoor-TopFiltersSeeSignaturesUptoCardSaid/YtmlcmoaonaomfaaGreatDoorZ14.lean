/- The machine without fuel. -/
import Derived.Test.YtmlcmoaonaomfaaGreatDoorDSound
namespace Go.Proofs.YtmlcmoaonaomfaaGreatDoor
open Go.RowKit
section
variable {P:Program} {cn:Nat->FuncId->List V->Oq (V×List B)} {c0:FuncId->List V->Oq (V×List B)}
def Ult {α:Type} (x:Nat->Oq α) (r:α):Prop:=∃ N,∀ n,N<=n->x n=some r
theorem Ult.const {α:Type} {x:Oq α} {r:α} (h:x=some r):Ult (λ_=>x) r:=⟨0,λ_ _=>h⟩
theorem Ult.bind {α β:Type} {x:Nat->Oq α} {f:Nat->α->Oq β} {a:α} {b:β} (h1:Ult x a) (h2:Ult (λn=>f n a) b):Ult (λn=>(x n).bind (f n)) b:=by
 obtain ⟨N,h1⟩:=h1
 obtain ⟨M,h2⟩:=h2
 exact ⟨max N M,λn hn=>by simp only [h1 n (by omega),x0q];exact h2 n (by omega)⟩
theorem Ult.map {α β:Type} {x:Nat->Oq α} {f:α->β} {a:α} (h1:Ult x a):Ult (λn=>(x n).map f) (f a):=by
 obtain ⟨N,h1⟩:=h1
 exact ⟨N,λn hn=>by simp only [h1 n hn,x18q]⟩
theorem qfj (hc:∀ f args r,c0 f args=some r->Ult (λn=>cn n f args) r) {hv:Nat->Oq B} {r:Operand->V} {base:Nat} {o:Op} {x:V×List B×List Nat} (h:ev1 P c0 hv r base o=some x):Ult (λn=>ev1 P (cn n) hv r base o) x:=by
 unfold ev1 at h
 split at h
 case h_9 f args ats =>
  split at h
  ·rename_i g caps hf
   cases hb:bodyOf P (cFn g) with
   |none=>rw [hb] at h;cases h
   |some fn =>
    rw [hb] at h
    simp only [x0q] at h
    cases hx:frzAs hv (args.toList.map r) with
    |none=>rw [hx] at h;cases h
    |some x' =>
     rw [hx] at h
     simp only [x0q] at h
     cases hy:frzPs hv caps with
     |none=>rw [hy] at h;cases h
     |some y =>
      rw [hy] at h
      simp only [x0q] at h
      cases hz:c0 (cFn g) (cAr g x'.1 y.1) with
      |none=>rw [hz] at h;cases h
      |some z =>
       rw [hz] at h
       simp only [x0q] at h
       obtain ⟨N,hN⟩:=hc (cFn g) _ z hz
       refine ⟨N,λn hn=>?_⟩
       simp only [ev1,hf,hb,hx,hy,hN n hn,x0q]
       exact h
  ·cases h
 all_goals first
  |(exact Ult.const h)
  |(cases h;done)
def KApp (k0:FuncId->Oq (List V->St->Oq (V×St))) (kn:Nat->FuncId->Oq (List V->St->Oq (V×St))):Prop :=
 ∀ f,(k0 f=none/\∀ n,kn n f=none)∨∃ (g:List V->St->Oq (V×St)) (gn:Nat->List V->St->Oq (V×St)),k0 f=some g/\(∀ n,kn n f=some (gn n))/\∀ args s r,g args s=some r->Ult (λn=>gn n args s) r
theorem qoa {k0:FuncId->Oq (List V->St->Oq (V×St))} {kn:Nat->FuncId->Oq (List V->St->Oq (V×St))} (hk:KApp k0 kn) (r:Operand->V) (o:Op) :
  (ioOf P k0 r o=none/\∀ n,ioOf P (kn n) r o=none)∨∃ (f:FuncId) (g:List V->St->Oq (V×St)) (gn:Nat->List V->St->Oq (V×St)) (args:List V),ioOf P k0 r o=some (f,g,args)/\(∀ n,ioOf P (kn n) r o=some (f,gn n,args))/\∀ args s r,g args s=some r->Ult (λn=>gn n args s) r:=by
 by_cases h:∃ f args ats,o=.call { callee:=.value f,args:=args,argTypes:=ats }
 ·obtain ⟨f,args,ats,rfl⟩:=h
  simp only [ioOf]
  split
  ·rename_i g caps _
   cases bodyOf P (cFn g) with
   |none=>exact .inl ⟨rfl,λ_=>rfl⟩
   |some fn =>
    simp only [x0q]
    rcases hk (cFn g) with ⟨h1,h2⟩|⟨g',gn,h1,h2,h3⟩
    ·exact .inl ⟨by rw [h1];rfl,λn=>by rw [h2 n];rfl⟩
    ·exact .inr ⟨cFn g,g',gn,_,by rw [h1];rfl,λn=>by rw [h2 n];rfl,h3⟩
  ·exact .inl ⟨rfl,λ_=>rfl⟩
 ·refine .inl ⟨?_,λn=>?_⟩ <;> · unfold ioOf;split;(exact absurd ⟨_,_,_,rfl⟩ h);rfl
theorem qm4 {g:List V->St->Oq (V×St)} {gn:Nat->List V->St->Oq (V×St)} (h3:∀ args s r,g args s=some r->Ult (λn=>gn n args s) r) {args:List V} {N:Nat} {lv:List Nat} {base:Nat} {s:St} {y:V×(Nat->Oq B)×(Nat->Bool)} (h:heapD g args N lv base s=some y):Ult (λn=>heapD (gn n) args N lv base s) y:=by
 unfold heapD at h ⊢
 cases hg:g args { t:=λ_=>.any,h:=onlyB (reach s.h args) s.h,sh:=s.sh,nx:=N,lr:=λ_=>[],lw:=λ_=>[],og:=ogK (reach s.h args) lv s } with
 |none=>rw [hg] at h;cases h
 |some x =>
  rw [hg] at h
  simp only [x0q] at h
  exact (h3 _ _ _ hg).bind (Ult.const h)
theorem KApp.no:KApp (λ_=>none) (λ_ _=>none):=λ_=>.inl ⟨rfl,λ_=>rfl⟩
section
variable {k0:FuncId->Oq (List V->St->Oq (V×St))} {kn:Nat->FuncId->Oq (List V->St->Oq (V×St))} {io:FuncId->Bool} {lvf:Nat->List Nat} {N:Nat}
theorem que (hc:∀ f args r,c0 f args=some r->Ult (λn=>cn n f args) r) (hk:KApp k0 kn) {nt:Nat} {ops:Array Oper} {hv:Nat->Oq B} {base:Nat} {o:Oper} {s s':St} (h:opD P ⟨c0,io,k0,lvf,N⟩ nt ops hv base o s=some s'):Ult (λn=>opD P ⟨cn n,io,kn n,lvf,N⟩ nt ops hv base o s) s':=by
 unfold opD at h ⊢
 split at h
 case isFalse=>cases h
 rename_i hd
 simp only [hd,x20q]
 cases hw:wantedV ops s.t o with
 |none=>rw [hw] at h;cases h
 |some b =>
  rw [hw] at h
  simp only [x0q] at h ⊢
  cases b with
  |false=>exact Ult.const h
  |true =>
   simp only [x20q] at h ⊢
   generalize kindB P io ops o.op=kk at h ⊢
   rcases kk with _|_|kk
   ·exact Ult.const h
   ·simp only [x13q] at h ⊢
    cases he:ev1 P c0 hv (rho s.t) base o.op with
    |none=>rw [he] at h;cases h
    |some x =>
     rw [he] at h
     simp only [x0q] at h
     exact (qfj hc he).bind (Ult.const h)
   ·simp only [ev2H] at h ⊢
    cases hio:isIo io o.op with
    |false =>
     simp only [hio,cond_false] at h ⊢
     exact Ult.const h
    |true =>
     simp only [hio,x22q] at h ⊢
     rcases qoa (P:=P) hk (rho s.t) o.op with ⟨h1,h2⟩|⟨f,g,gn,args,h1,h2,h3⟩
     ·rw [h1] at h;cases h
     ·simp only [h1,h2,x0q] at h ⊢
      cases hy:heapD g args N (lvf base) base s with
      |none=>rw [hy] at h;cases h
      |some y =>
       rw [hy] at h
       injection h with h;subst h
       exact (qm4 h3 hy).map
theorem q18h (hc:∀ f args r,c0 f args=some r->Ult (λn=>cn n f args) r) (hk:KApp k0 kn) {nt:Nat} {ops:Array Oper} {an:Nat->Nat} {rb j:Nat} {o:Oper} {s s':St} (h:stepD P ⟨c0,io,k0,lvf,N⟩ nt ops an rb j o s=some s'):Ult (λn=>stepD P ⟨cn n,io,kn n,lvf,N⟩ nt ops an rb j o s) s':=by
 unfold stepD at h ⊢
 split at h
 case isFalse=>cases h
 rename_i hd
 simp only [hd,x20q]
 cases he:opD P ⟨c0,io,k0,lvf,N⟩ nt ops (visB s.h rb (an j)) (rb+8*j) o s with
 |none=>rw [he] at h;cases h
 |some s1 =>
  rw [he] at h
  injection h with h;subst h
  exact (que hc hk he).map
theorem q144 (hc:∀ f args r,c0 f args=some r->Ult (λn=>cn n f args) r) (hk:KApp k0 kn) {nt:Nat} {ops:Array Oper} {an:Nat->Nat} {rb:Nat}:∀ (l:List Nat) {s s':St},runD P ⟨c0,io,k0,lvf,N⟩ nt ops an rb l s=some s'->Ult (λn=>runD P ⟨cn n,io,kn n,lvf,N⟩ nt ops an rb l s) s'
 |[],s,s',h=>Ult.const h
 |j::l,s,s',h=>by
  simp only [runD] at h ⊢
  cases ho:ops[j]? with
  |none=>rw [ho] at h;cases h
  |some o =>
   rw [ho] at h
   simp only [x0q] at h ⊢
   cases hs:stepD P ⟨c0,io,k0,lvf,N⟩ nt ops an rb j o s with
   |none=>rw [hs] at h;cases h
   |some s1 =>
    rw [hs] at h
    exact (q18h hc hk hs).bind (q144 hc hk l h)
end
theorem q14i (hc:∀ f args r,c0 f args=some r->Ult (λn=>cn n f args) r) {k0:FuncId->Oq (List V->St->Oq (V×St))} {kn:Nat->FuncId->Oq (List V->St->Oq (V×St))} (hk:KApp k0 kn) {lv:Nat->List Nat} {nt:Nat} {ops:Array Oper}:∀ (l:List Oper) {jj base:Nat} {s s':St},runN P c0 k0 lv nt ops l jj base s=some s'->Ult (λn=>runN P (cn n) (kn n) lv nt ops l jj base s) s'
 |[],_,_,s,s',h=>Ult.const h
 |o::l,jj,base,s,s',h=>by
  rcases qoa (P:=P) hk (rho s.t) o.op with ⟨h1,h2⟩|⟨f,g,gn,args,h1,h2,h3⟩
  ·simp only [runN,h1,h2] at h ⊢
   cases hs:opD P (hp0 c0) nt ops s.h base o s with
   |none=>rw [hs] at h;cases h
   |some s1 =>
    rw [hs] at h
    exact (que hc KApp.no hs).bind (q14i hc hk l h)
  ·simp only [runN,h1,h2] at h ⊢
   split at h
   case isFalse=>cases h
   rename_i hd
   simp only [hd,x20q]
   cases hw:wantedV ops s.t o with
   |none=>rw [hw] at h;cases h
   |some b =>
    rw [hw] at h
    simp only [x0q] at h ⊢
    cases b with
    |false=>exact q14i hc hk l h
    |true =>
     simp only [x20q] at h ⊢
     cases hy:heapD g args base (lv jj) base s with
     |none=>rw [hy] at h;cases h
     |some y =>
      rw [hy] at h
      simp only [x0q] at h
      exact (qm4 h3 hy).bind (q14i hc hk l h)
theorem q189 {c0:CT} {cn:Nat->CT} (hc:∀ f args r,c0.call f args=some r->Ult (λn=>(cn n).call f args) r) (hk:KApp c0.ch (λn=>(cn n).ch)) (hio:∀ n,(cn n).io=c0.io) {live:Nat->List Nat} {nt:Nat} {an:Nat->Code->St->Oq (Nat×St)} {a0:Code->St->Oq (Nat×St)} (ha:∀ c s r,a0 c s=some r->Ult (λn=>an n c s) r) :
  ∀ (c:Code) (s:St) (r:Nat×St),stepC P live c0 nt a0 c s=some r->Ult (λn=>stepC P live (cn n) nt (an n) c s) r:=by
 intro c
 induction c with
 |region id ops draw =>
  intro s r h
  cases draw with
  |false =>
   simp only [stepC] at h ⊢
   cases hr:runN P c0.call c0.ch (λj=>live (3000000+1000*id+j)) nt ops ops.toList 0 s.nx s with
   |none=>rw [hr] at h;cases h
   |some s' =>
    rw [hr] at h
    injection h with h;subst h
    exact (q14i hc hk _ hr).map
  |true =>
   simp only [stepC] at h ⊢
   split at h
   ·rename_i hd
    simp only [hio,hd,x20q]
    cases hr:runD P ⟨c0.call,ioR live id c0.io,c0.ch,lvD (ioR live id c0.io) (λj=>live (3000000+1000*id+j)) ops s.nx,s.nx+8*ops.size⟩ nt ops (anOf ops) s.nx (List.range ops.size) { s with lr:=λ_=>[],lw:=λ_=>[] } with
    |none=>rw [hr] at h;cases h
    |some s' =>
     rw [hr] at h
     injection h with h;subst h
     exact (q144 hc hk _ hr).map
   ·cases h
 |seq x y ihx ihy =>
  intro s r h
  simp only [stepC] at h ⊢
  cases hx:stepC P live c0 nt a0 x s with
  |none=>rw [hx] at h;cases h
  |some r1 =>
   rw [hx] at h
   simp only [x0q] at h
   refine (ihx s r1 hx).bind ?_
   split at h
   ·rename_i h0;simp only [h0,x20q];exact ihy _ r h
   ·rename_i h0;simp only [h0,x21q];exact Ult.const h
 |cond c x y ihx ihy =>
  intro s r h
  simp only [stepC] at h ⊢
  split at h
  ·rename_i q hq
   cases q with
   |true=>simp only [x20q] at h ⊢;exact ihx s r h
   |false=>simp only [x1q,x21q] at h ⊢;exact ihy s r h
  ·cases h
 |block id c ih =>
  intro s r h
  simp only [stepC] at h ⊢
  cases hx:stepC P live c0 nt a0 c s with
  |none=>rw [hx] at h;cases h
  |some r1 =>
   rw [hx] at h
   injection h with h;subst h
   exact (ih s r1 hx).map
 |loop c ih =>
  intro s r h
  simp only [stepC] at h ⊢
  cases hx:stepC P live c0 nt a0 c (canon (((fstRegion c).map λid=>live (2*id)).getD []) (shareS (shq live c) s)) with
  |none=>rw [hx] at h;cases h
  |some r1 =>
   rw [hx] at h
   simp only [x0q] at h
   refine (ih _ r1 hx).bind ?_
   split at h
   ·rename_i h0;simp only [h0,x20q];exact ha _ _ _ h
   ·rename_i h0;simp only [h0,x21q];exact Ult.const h
 |_=>intro s r h;exact Ult.const h
theorem q8v {fz:FuncId->Bool} {X:FuncId->List V->Oq (V×List B)} {en:Nat->FuncId->Nat->Code->St->Oq (Nat×St)} {e0:FuncId->Nat->Code->St->Oq (Nat×St)} (he:∀ f nt c s r,e0 f nt c s=some r->Ult (λn=>en n f nt c s) r) {f:FuncId} {args:List V} {r:V×List B} (h:callD P fz X e0 f args=some r):Ult (λn=>callD P fz X (en n) f args) r:=by
 unfold callD at h ⊢
 split at h
 ·exact Ult.const h
 ·cases hb:bodyOf P f with
  |none=>rw [hb] at h;cases h
  |some fn =>
   rw [hb] at h
   simp only [x0q] at h ⊢
   split at h
   case isFalse=>cases h
   rename_i hnt
   simp only [hnt,x20q]
   cases hc:fn.body with
   |none=>rw [hc] at h;cases h
   |some c =>
    rw [hc] at h
    simp only [x0q] at h ⊢
    cases hx:e0 f fn.ntmps c { t:=λi=>args.getD i .any,h:=λ_=>none,sh:=λ_=>false,nx:=0,lr:=λ_=>[],lw:=λ_=>[],og:=[] } with
    |none=>rw [hx] at h;cases h
    |some x =>
     rw [hx] at h
     exact (he _ _ _ _ _ hx).bind (Ult.const h)
theorem q149 {fz:FuncId->Bool} {en:Nat->FuncId->Nat->Code->St->Oq (Nat×St)} {e0:FuncId->Nat->Code->St->Oq (Nat×St)} (he:∀ f nt c s r,e0 f nt c s=some r->Ult (λn=>en n f nt c s) r) {f:FuncId} {args:List V} {s:St} {r:V×St} (h:runH P fz e0 f args s=some r):Ult (λn=>runH P fz (en n) f args s) r:=by
 unfold runH at h ⊢
 cases hb:bodyOf P f with
 |none=>simp only [hb] at h;cases h
 |some fn =>
  simp only [hb,x0q] at h ⊢
  split at h
  case isFalse=>cases h
  rename_i hnt
  simp only [hnt,x20q]
  cases hc:fn.body with
  |none=>rw [hc] at h;cases h
  |some c =>
   rw [hc] at h
   simp only [x0q] at h ⊢
   cases hx:e0 f fn.ntmps c (canon (List.range args.length) { t:=λi=>args.getD i .any,h:=s.h,sh:=s.sh,nx:=s.nx,lr:=λ_=>[],lw:=λ_=>[],og:=s.og }) with
   |none=>rw [hx] at h;cases h
   |some x =>
    rw [hx] at h
    exact (he _ _ _ _ _ hx).bind (Ult.const h)
theorem qfy {en:Nat->Code->St->Oq (Nat×St)} {e0:Code->St->Oq (Nat×St)} (he:∀ c s r,e0 c s=some r->Ult (λn=>en n c s) r):∀ (l:List Code) {s:St} {r:Nat×St},exL e0 l s=some r->Ult (λn=>exL (en n) l s) r
 |[],_,_,h=>Ult.const h
 |a::l,s,r,h=>by
  simp only [exL] at h ⊢
  cases hx:e0 a s with
  |none=>rw [hx] at h;cases h
  |some x =>
   rw [hx] at h
   simp only [x0q] at h
   split at h
   case isFalse=>cases h
   rename_i h0
   refine (he a s x hx).bind ?_
   simp only [h0,x20q]
   exact qfy he l h
theorem qdi {g:List V->St->Oq (V×St)} {gn:Nat->List V->St->Oq (V×St)} (h3:∀ args s r,g args s=some r->Ult (λn=>gn n args s) r) {lv:List Nat} {s s':St} (h:endD g lv s=some s'):Ult (λn=>endD (gn n) lv s) s':=by
 unfold endD at h ⊢
 cases hl:lastN s.og with
 |none=>rw [hl] at h;cases h
 |some id =>
  rw [hl] at h
  simp only [x0q] at h ⊢
  cases hy:heapD g [.ptr id 0] s.nx lv s.nx { s with og:=s.og.dropLast } with
  |none=>rw [hy] at h;cases h
  |some y =>
   rw [hy] at h
   simp only [x18q,Option.some.injEq] at h
   subst h
   exact (qm4 h3 hy).map
theorem q147 {fz:FuncId->Bool} {en:Nat->FuncId->Nat->Code->St->Oq (Nat×St)} {e0:FuncId->Nat->Code->St->Oq (Nat×St)} (he:∀ f nt c s r,e0 f nt c s=some r->Ult (λn=>en n f nt c s) r) {f:FuncId} {args:List V} {s:St} {r:V×St} (h:runHD P fz e0 f args s=some r):Ult (λn=>runHD P fz (en n) f args s) r:=by
 unfold runHD at h ⊢
 cases hb:bodyOf P f with
 |none=>simp only [hb] at h;cases h
 |some fn =>
  simp only [hb,x0q] at h ⊢
  split at h
  case isFalse=>cases h
  rename_i hnt
  simp only [hnt,x20q]
  cases hc:fn.body with
  |none=>rw [hc] at h;cases h
  |some c =>
   rw [hc] at h
   simp only [x0q] at h ⊢
   cases hd:splitD c with
   |none=>rw [hd] at h;cases h
   |some d =>
    rw [hd] at h
    simp only [x0q] at h ⊢
    cases hx:exL (e0 f fn.ntmps) d.1 (canon (List.range args.length) (hst args s)) with
    |none=>rw [hx] at h;cases h
    |some x =>
     rw [hx] at h
     simp only [x0q] at h
     refine (qfy (λc s r hr=>he f fn.ntmps c s r hr) _ hx).bind ?_
     cases hs:defD fn.ntmps d.2.1 d.2.2.1 x with
     |none=>rw [hs] at h;cases h
     |some s1 =>
      rw [hs] at h
      simp only [x0q] at h ⊢
      cases hy:e0 f fn.ntmps d.2.2.2.2 s1 with
      |none=>rw [hy] at h;cases h
      |some y =>
       rw [hy] at h
       simp only [x0q] at h
       refine (he _ _ _ _ _ hy).bind ?_
       split at h
       case isFalse=>cases h
       rename_i hq
       simp only [hq,and_self,x20q]
       cases hz:endD (runH P fz e0 d.2.2.2.1) (slotsR fn) y.2 with
       |none=>rw [hz] at h;cases h
       |some s2 =>
        rw [hz] at h
        exact (qdi (λargs s r hr=>q149 he hr) hz).bind (Ult.const h)
theorem q8x {io df fz:FuncId->Bool} {XH:FuncId->Oq XRule} {en:Nat->FuncId->Nat->Code->St->Oq (Nat×St)} {e0:FuncId->Nat->Code->St->Oq (Nat×St)} (he:∀ f nt c s r,e0 f nt c s=some r->Ult (λn=>en n f nt c s) r):KApp (callH P io df fz XH e0) (λn=>callH P io df fz XH (en n)):=by
 intro f
 cases hXf:XH f with
 |some g=>exact .inr ⟨runX g,λ_=>runX g,by simp [callH,hXf],λn=>by simp [callH,hXf],λargs s r h=>Ult.const h⟩
 |none =>
 cases hio:io f with
 |false=>exact .inl ⟨by simp [callH,hio,hXf],λn=>by simp [callH,hio,hXf]⟩
 |true =>
  cases hdf:df f with
  |true=>exact .inr ⟨runHD P fz e0 f,λn=>runHD P fz (en n) f,by simp [callH,hio,hXf,hdf],λn=>by simp [callH,hio,hXf,hdf],λargs s r h=>q147 he h⟩
  |false=>exact .inr ⟨runH P fz e0 f,λn=>runH P fz (en n) f,by simp [callH,hio,hXf,hdf],λn=>by simp [callH,hio,hXf,hdf],λargs s r h=>q149 he h⟩
end
section
variable (P:Program) (live:FuncId->Nat->List Nat) (X:XT)
theorem qg1:∀ (n:Nat) (f:FuncId) (nt:Nat) (c:Code) (s:St) (r:Nat×St),execD P live X n f nt c s=some r->execD P live X (n+1) f nt c s=some r
 |0,_,_,_,_,_,h=>by cases h
 |n+1,f,nt,c,s,r,h=>by
  have ih:=qg1 n
  obtain ⟨N,hN⟩:=q189 (P:=P) (cn:=λ_=>⟨callD P (fzL live) X.c (execD P live X (n+1)),ioB live,callH P (ioB live) (dfB live) (fzL live) X.h (execD P live X (n+1))⟩) (c0:=⟨callD P (fzL live) X.c (execD P live X n),ioB live,callH P (ioB live) (dfB live) (fzL live) X.h (execD P live X n)⟩) (an:=λ_=>execD P live X (n+1) f nt) (a0:=execD P live X n f nt)
   (λg args r hr=>q8v (en:=λ_=>execD P live X (n+1)) (e0:=execD P live X n) (λf nt c s r h=>Ult.const (ih f nt c s r h)) hr) (q8x (en:=λ_=>execD P live X (n+1)) (e0:=execD P live X n) (λf nt c s r h=>Ult.const (ih f nt c s r h))) (λ_=>rfl) (λc s r h=>Ult.const (ih f nt c s r h)) c s r h
  exact hN N (Nat.le_refl _)
theorem qfz {n k:Nat} (hk:n<=k) {f:FuncId} {nt:Nat} {c:Code} {s:St} {r:Nat×St} (h:execD P live X n f nt c s=some r):execD P live X k f nt c s=some r:=by
 induction hk with
 |refl=>exact h
 |step _ ih=>exact qg1 P live X _ f nt c s r ih
open Classical in
noncomputable def Exec (f:FuncId) (nt:Nat) (c:Code) (s:St):Oq (Nat×St):=if h:∃ n r,execD P live X n f nt c s=some r then some h.choose_spec.choose else none
theorem ql {n:Nat} {f:FuncId} {nt:Nat} {c:Code} {s:St} {r:Nat×St} (h:execD P live X n f nt c s=some r):Exec P live X f nt c s=some r:=by
 have hex:∃ n r,execD P live X n f nt c s=some r:=⟨n,r,h⟩
 unfold Exec
 rw [dif_pos hex]
 have h1:=hex.choose_spec.choose_spec
 have a:=qfz P live X (Nat.le_max_left hex.choose n) h1
 have b:=qfz P live X (Nat.le_max_right hex.choose n) h
 rw [a] at b
 exact b
theorem qm {f:FuncId} {nt:Nat} {c:Code} {s:St} {r:Nat×St} (h:Exec P live X f nt c s=some r):Ult (λn=>execD P live X n f nt c s) r:=by
 unfold Exec at h
 split at h
 ·rename_i hex
  injection h with h
  have h1:=hex.choose_spec.choose_spec
  rw [h] at h1
  exact ⟨hex.choose,λn hn=>qfz P live X hn h1⟩
 ·cases h
noncomputable def Call (f:FuncId) (args:List V):Oq (V×List B):=callD P (fzL live) X.c (Exec P live X) f args
noncomputable def CallT:CT:=⟨Call P live X,ioB live,callH P (ioB live) (dfB live) (fzL live) X.h (Exec P live X)⟩
theorem qn {f:FuncId} {nt:Nat} {c:Code} {s:St} {r:Nat×St} (h:stepC P (live f) (CallT P live X) nt (Exec P live X f nt) c s=some r):Exec P live X f nt c s=some r:=by
 obtain ⟨N,hN⟩:=q189 (P:=P) (cn:=λn=>⟨callD P (fzL live) X.c (execD P live X n),ioB live,callH P (ioB live) (dfB live) (fzL live) X.h (execD P live X n)⟩) (c0:=CallT P live X) (an:=λn=>execD P live X n f nt) (a0:=Exec P live X f nt)
  (λg args r hr=>q8v (en:=λn=>execD P live X n) (e0:=Exec P live X) (λf nt c s r h=>qm P live X h) hr) (q8x (en:=λn=>execD P live X n) (e0:=Exec P live X) (λf nt c s r h=>qm P live X h)) (λ_=>rfl) (λc s r h=>qm P live X h) c s r h
 exact ql P live X (n:=N+1) (hN N (Nat.le_refl _))
theorem qh (hmo:P.follows .mixedOrders=true) (hX:XOk P X) {f:FuncId} {args:List V} {res:V×List B} (h:Call P live X f args=some res):CallOk P f args res:=by
 obtain ⟨N,hN⟩:=q8v (P:=P) (en:=λn=>execD P live X n) (e0:=Exec P live X) (λf nt c s r h=>qm P live X h) h
 exact q90 hmo hX (hN N (Nat.le_refl _))
end
end Go.Proofs.YtmlcmoaonaomfaaGreatDoor
namespace Go.Proofs.YtmlcmoaonaomfaaGreatDoor
open Go.RowKit
section
variable (P:Program)
def st0 (args:List V):St:={ t:=λi=>args.getD i .any,h:=λ_=>none,sh:=λ_=>false,nx:=0,lr:=λ_=>[],lw:=λ_=>[],og:=[] }
def endF (q:Bool) (fn:Func) (x:Nat×St):Oq (V×List B):=if x.1<=1 then (resV P fn x.2).bind λvs=>(finQ q x.2 vs).bind λy=>if okRes y.1 then some y else none else none
end
section
variable (P:Program)
def byO (t:TypeId):Oq Nat:=(P.info? t).map (·.bytes)
def zOk (t:TypeId):Bool:=match P.info? t with|some i=>decide (i.zero.map (λz=>z.cells.size)=some i.size)|none=>false
variable {P}
end
section
variable {P:Program} {live:FuncId->Nat->List Nat} {X:XT}
theorem qg {f : FuncId} {args : List V} {fn : Func} {c : Code} {x : Nat × St} {r : V × List B} (hX : X.c f args = none) (hf : P.funcs[f]? = some fn) (hb : fn.body = some c) (hn : (fn.name == "runtime.NumGoroutine") = false) (ha : args.length ≤ fn.ntmps)
  (hs:stepC P (live f) (CallT P live X) fn.ntmps (Exec P live X f fn.ntmps) c (st0 args)=some x) (he:endF P (fzL live f) fn x=some r):Call P live X f args=some r:=by
 unfold Call callD
 rw [hX]
 have hbo:bodyOf P f=some fn:=by simp [bodyOf,hf,hb];simpa using hn
 simp only [hbo,x0q,ha,x20q,hb]
 have:=qn P live X hs
 unfold st0 at this
 rw [this]
 exact he
theorem qf {n:Nat} {f:FuncId} {args:List V} {r:V×List B} (h:callD P (fzL live) X.c (execD P live X n) f args=some r):Call P live X f args=some r:=by
 obtain ⟨N,hN⟩:=q8v (P:=P) (X:=X.c) (en:=λ_=>Exec P live X) (e0:=execD P live X n) (λf nt c s r h=>Ult.const (ql P live X h)) h
 exact hN N (Nat.le_refl _)
theorem qe {f : FuncId} {args : List V} {fn : Func} {c : Code} {r : V × List B} (hf : P.funcs[f]? = some fn) (hb : fn.body = some c) (hn : (fn.name == "runtime.NumGoroutine") = false) (hX : X.c f args = none) (ha : decide (args.length ≤ fn.ntmps) = true)
  (hs:(stepC P (live f) (CallT P live X) fn.ntmps (Exec P live X f fn.ntmps) c (st0 args)).bind (endF P (fzL live f) fn)=some r):Call P live X f args=some r:=by
 cases hx:stepC P (live f) (CallT P live X) fn.ntmps (Exec P live X f fn.ntmps) c (st0 args) with
 |none=>rw [hx] at hs;cases hs
 |some x=>rw [hx] at hs;exact qg hX hf hb hn (by simpa using ha) hx hs
end
theorem q18c {P:Program} {live:Nat->List Nat} {call:CT} {nt:Nat} {again:Code->St->Oq (Nat×St)} {id:Nat} {ops:Array Oper} {s:St} (h:drawOk P (ioR live id call.io) (λj=>live (3000000+1000*id+j)) ops=true) :
  stepC P live call nt again (.region id ops true) s=(runD P ⟨call.call,ioR live id call.io,call.ch,lvD (ioR live id call.io) (λj=>live (3000000+1000*id+j)) ops s.nx,s.nx+8*ops.size⟩ nt ops (anOf ops) s.nx (List.range ops.size) { s with lr:=λ_=>[],lw:=λ_=>[] }).map λs'=>(0,canon (live (2*id+1)) { s' with nx:=s.nx+8*ops.size }):=by
 simp only [stepC,h,x20q]
theorem q18e {P:Program} {live:Nat->List Nat} {call:CT} {nt:Nat} {again:Code->St->Oq (Nat×St)} {id:Nat} {ops:Array Oper} {s:St} :
  stepC P live call nt again (.region id ops false) s=(runN P call.call call.ch (λj=>live (3000000+1000*id+j)) nt ops ops.toList 0 s.nx s).map λs'=>(0,canon (live (2*id+1)) s'):=rfl
theorem q18f {P:Program} {live:Nat->List Nat} {call:CT} {nt:Nat} {again:Code->St->Oq (Nat×St)} {a b:Code} {s:St}:stepC P live call nt again (.seq a b) s=(stepC P live call nt again a s).bind λx=>if x.1=0 then stepC P live call nt again b (cutS live b x.2) else some x:=rfl
theorem q18b {P:Program} {live:Nat->List Nat} {call:CT} {nt:Nat} {again:Code->St->Oq (Nat×St)} {c:Operand} {a b:Code} {s:St} {q:Bool} (h:rho s.t c=.c (.bool q)):stepC P live call nt again (.cond c a b) s=if q then stepC P live call nt again a s else stepC P live call nt again b s:=by simp only [stepC,h]
theorem q18a {P:Program} {live:Nat->List Nat} {call:CT} {nt:Nat} {again:Code->St->Oq (Nat×St)} {id:Nat} {c:Code} {s:St}:stepC P live call nt again (.block id c) s=(stepC P live call nt again c s).bind λx=>some (if x.1=id+2 then (0,x.2) else x):=by simp only [stepC];cases stepC P live call nt again c s <;> rfl
def tb:List (Nat×V)->Nat->V
 |[],_=>.any
 |(j,v)::l,i=>if i=j then v else tb l i
def mkS (t:List (Nat×V)) (h:List (Oq B)) (sh:List Bool) (og:List Nat):St:={ t:=tb t,h:=λj=>(h[j]?).getD none,sh:=λj=>(sh[j]?).getD false,nx:=h.length,lr:=λ_=>[],lw:=λ_=>[],og:=og }
def canT (live:List Nat) (s:St) (r:Nat->Oq Nat):List (Nat×V):=live.map λi=>(i,aggO r (nilA (s.nx+200*i) (s.t i)))
def canL (live:List Nat) (s:St):List Nat:=reach (nilH s.nx s.h) ((live.map λi=>nilA (s.nx+200*i) (s.t i))++s.og.map λid=>.ptr id 0)
def canO (s:St) (r:Nat->Oq Nat):List Nat:=s.og.map λid=>(r id).getD 0
theorem tb_map (g:Nat->V):∀ (l:List Nat) (i:Nat),tb (l.map λi=>(i,g i)) i=if i∈l then g i else .any
 |[],i=>by simp [tb]
 |j::l,i=>by
  simp only [List.map_cons,tb,tb_map g l i,List.mem_cons]
  by_cases h:i=j
  ·subst h;simp
  ·simp [h]
theorem q93 (live:List Nat) (s:St):canon live s=mkS (canT live s (λid=>pos id (canL live s))) ((canL live s).map λid=>(nilH s.nx s.h id).map (B.renO (λid=>pos id (canL live s)))) ((canL live s).map (nilSh s.nx s.sh)) (canO s (λid=>pos id (canL live s))):=by
 unfold canon mkS
 simp only
 congr 1
 ·funext i
  rw [canT,tb_map]
  rfl
 ·funext j
  rw [x14q]
  show (((canL live s)[j]?).bind (nilH s.nx s.h)).map _=_
  cases (canL live s)[j]? <;> rfl
 ·funext j
  rw [x14q]
  rfl
 ·simp [canL]
inductive K1 where
 |int (k:IntKind)
 |bool
 |str
 |sl
def qo4:C->Int
 |.int _ n=>n
 |_=>0
def q84:C->Bool
 |.bool b=>b
 |_=>false
def q18t:C->BA
 |.str s=>s
 |_=>default
def slOf:C->List (List C)
 |.sl es=>es
 |_=>[]
def decC:K1->C->C
 |.int k,c=>.int k (qo4 c)
 |.bool,c=>.bool (q84 c)
 |.str,c=>.str (q18t c)
 |.sl,c=>.sl (slOf c)
def isK:K1->C->Bool
 |.int k,.int k' _=>decide (k=k')
 |.bool,.bool _=>true
 |.str,.str _=>true
 |.sl,.sl _=>true
 |_,_=>false
theorem qc2 {k:K1} {c:C} (h:isK k c=true):decC k c=c:=by
 cases k <;> cases c <;> simp_all [isK,decC,qo4,q84,q18t,slOf]
def decE:List K1->Nat->List C->List C
 |[],_,_=>[]
 |k::ks,i,el=>decC k (el.getD i .ne)::decE ks (i+1) el
def isE:List K1->Nat->List C->Bool
 |[],i,el=>el.length==i
 |k::ks,i,el=>isK k (el.getD i .ne)&&isE ks (i+1) el
theorem qc3:∀ (ks:List K1) (i:Nat) (el:List C),isE ks i el=true->decE ks i el=el.drop i
 |[],i,el,h=>by
  simp only [isE,beq_iff_eq] at h
  simp [decE,←h]
 |k::ks,i,el,h=>by
  simp only [isE,x6q] at h
  rw [decE,qc2 h.1,qc3 ks (i+1) el h.2]
  have hi:i<el.length:=by
   by_cases hi:i<el.length
   ·exact hi
   ·have:=h.1
    rw [x2q,List.getElem?_eq_none (by omega)] at this
    cases k <;> simp [isK] at this
  rw [List.drop_eq_getElem_cons hi]
  simp [List.getD_eq_getElem?_getD,List.getElem?_eq_getElem hi]
theorem qc4 {ks:List K1} {el:List C} (h:isE ks 0 el=true):decE ks 0 el=el:=by rw [qc3 ks 0 el h];rfl
section
variable (P:Program)
def shapeT:Nat->TypeId->Oq (List K1)
 |0,_=>none
 |d+1,t=>match P.underlying t with
  |some .bool=>some [.bool]
  |some (.int k)=>some [.int k]
  |some .string=>some [.str]
  |some (.slice _)=>some [.sl]
  |some (.struct fs)=>fs.toList.foldr (λf r=>(shapeT d f.type).bind λa=>r.map (a++·)) (some [])
  |_=>none
end
section
variable {β:Type}
def brE (q:Bool) (a b:Oq β):Oq β:=match q with|true=>a|false=>b
def gdE (q:Bool) (a:Oq β):Oq β:=match q with|true=>a|false=>none
theorem qk4 {q:Bool} {a:Oq β} {r:β} (h:gdE q a=some r):q=true/\a=some r:=by cases q <;> simp_all [gdE]
def forceK (x:K1) (k:K1->Oq β):Oq β:=match x with
 |.int a=>k (.int a)
 |.bool=>k .bool
 |.str=>k .str
 |.sl=>k .sl
theorem qjf (x:K1) (k:K1->Oq β):forceK x k=k x:=by cases x <;> rfl
def forceKs (l:List K1) (k:List K1->Oq β):Oq β:=match l with
 |[]=>k []
 |x::l=>forceK x λx=>forceKs l λl=>k (x::l)
theorem qjg:∀ (l:List K1) (k:List K1->Oq β),forceKs l k=k l
 |[],_=>rfl
 |x::l,k=>by rw [forceKs,qjf,qjg]
def forceC (x:C) (k:C->Oq β):Oq β:=match x with
 |.int a n=>k (.int a n)
 |.bool b=>k (.bool b)
 |.str s=>k (.str s)
 |.sl es=>k (.sl es)
 |.nilS=>k .nilS
 |.ne=>k .ne
 |.zs=>k .zs
 |.nilP=>k .nilP
 |.nilF=>k .nilF
theorem qjb (x:C) (k:C->Oq β):forceC x k=k x:=by cases x <;> rfl
def forceCs (l:List C) (k:List C->Oq β):Oq β:=match l with
 |[]=>k []
 |x::l=>forceC x λx=>forceCs l λl=>k (x::l)
theorem qjc:∀ (l:List C) (k:List C->Oq β),forceCs l k=k l
 |[],_=>rfl
 |x::l,k=>by rw [forceCs,qjb,qjc]
def forceV1 (v:V) (k:V->Oq β):Oq β:=match v with
 |.any=>k .any
 |.c x=>forceC x λx=>k (.c x)
 |.agg cs=>k (.agg cs)
 |.tup vs=>k (.tup vs)
 |.row id n=>k (.row id n)
 |.ptr id off=>k (.ptr id off)
 |.rptr id a i off=>k (.rptr id a i off)
 |.eptr cs off=>forceCs cs λcs=>k (.eptr cs off)
 |.fn f caps=>k (.fn f caps)
 |.mp id=>k (.mp id)
 |.rowE id=>k (.rowE id)
theorem qjp (v:V) (k:V->Oq β):forceV1 v k=k v:=by cases v <;> simp only [forceV1,qjb,qjc]
def forceL1 (l:List V) (k:List V->Oq β):Oq β:=match l with
 |[]=>k []
 |x::l=>forceV1 x λx=>forceL1 l λl=>k (x::l)
theorem qjh:∀ (l:List V) (k:List V->Oq β),forceL1 l k=k l
 |[],_=>rfl
 |x::l,k=>by rw [forceL1,qjp,qjh]
def forceV2 (v:V) (k:V->Oq β):Oq β:=match v with
 |.agg cs=>forceL1 cs λcs=>k (.agg cs)
 |.fn f caps=>forceL1 caps λcaps=>k (.fn f caps)
 |v=>forceV1 v k
theorem qjq (v:V) (k:V->Oq β):forceV2 v k=k v:=by cases v <;> simp only [forceV2,qjp,qjh]
def forceL2 (l:List V) (k:List V->Oq β):Oq β:=match l with
 |[]=>k []
 |x::l=>forceV2 x λx=>forceL2 l λl=>k (x::l)
theorem qji:∀ (l:List V) (k:List V->Oq β),forceL2 l k=k l
 |[],_=>rfl
 |x::l,k=>by rw [forceL2,qjq,qji]
def forceV (v:V) (k:V->Oq β):Oq β:=match v with
 |.tup vs=>forceL2 vs λvs=>k (.tup vs)
 |v=>forceV2 v k
theorem qjr (v:V) (k:V->Oq β):forceV v k=k v:=by cases v <;> simp only [forceV,qjq,qji]
end
end Go.Proofs.YtmlcmoaonaomfaaGreatDoor
