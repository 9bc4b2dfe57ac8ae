/- The machine without fuel. -/
import Derived.Test.YtmlcmoaonaomfaaGreatDoorDSound
namespace Go.Proofs.YtmlcmoaonaomfaaGreatDoor
open Go.RowKit
section
variable {P:Program} {cn:Nat->FuncId->List V->Oq (V×List B)} {c0:FuncId->List V->Oq (V×List B)}
def Ult {α:Type} (x:Nat->Oq α) (r:α):Prop:=∃ N,∀ n,N<=n->x n=some r
theorem Ult.const {α:Type} {x:Oq α} {r:α} (h:x=some r):Ult (λ_=>x) r:=⟨0,λ_ _=>h⟩
theorem Ult.bind {α β:Type} {x:Nat->Oq α} {f:Nat->α->Oq β} {a:α} {b:β} (h1:Ult x a) (h2:Ult (λn=>f n a) b):Ult (λn=>(x n).bind (f n)) b:=by obtain ⟨N,h1⟩:=h1;obtain ⟨M,h2⟩:=h2;exact ⟨max N M,λn hn=>by simp only [h1 n (by omega),x0q];exact h2 n (by omega)⟩
theorem Ult.map {α β:Type} {x:Nat->Oq α} {f:α->β} {a:α} (h1:Ult x a):Ult (λn=>(x n).map f) (f a):=by obtain ⟨N,h1⟩:=h1;exact ⟨N,λn hn=>by simp only [h1 n hn,x18q]⟩
theorem qer (hc:∀ f args r,c0 f args=some r->Ult (λn=>cn n f args) r) {hv:Nat->Oq B} {r:Operand->V} {base:Nat} {o:Op} {x:V×List B×List Nat} (h:ev1 P c0 hv r base o=some x):Ult (λn=>ev1 P (cn n) hv r base o) x:=by
 unfold ev1 at h;split at h
 case h_9 f args ats =>
  split at h
  ·rename_i g caps hf
   cases hb:bodyOf P (cFn g) with
   |none=>rw [hb] at h;cases h
   |some fn =>
    rw [hb] at h;simp only [x0q] at h;cases hx:frzAs hv (args.toList.map r) with
    |none=>rw [hx] at h;cases h
    |some x' =>
     rw [hx] at h;simp only [x0q] at h;cases hy:frzPs hv caps with
     |none=>rw [hy] at h;cases h
     |some y =>
      rw [hy] at h;simp only [x0q] at h;cases hz:c0 (cFn g) (cAr g x'.1 y.1) with
      |none=>rw [hz] at h;cases h
      |some z =>rw [hz] at h;simp only [x0q] at h;obtain ⟨N,hN⟩:=hc (cFn g) _ z hz;refine ⟨N,λn hn=>?_⟩;simp only [ev1,hf,hb,hx,hy,hN n hn,x0q];exact h
  ·cases h
 all_goals first
  |(exact Ult.const h)
  |(cases h;done)
def KApp (k0:FuncId->Oq (List V->St->Oq (V×St))) (kn:Nat->FuncId->Oq (List V->St->Oq (V×St))):Prop :=
 ∀ f,(k0 f=none/\∀ n,kn n f=none)∨∃ (g:List V->St->Oq (V×St)) (gn:Nat->List V->St->Oq (V×St)),k0 f=some g/\(∀ n,kn n f=some (gn n))/\∀ args s r,g args s=some r->Ult (λn=>gn n args s) r
theorem qpm {k0:FuncId->Oq (List V->St->Oq (V×St))} {kn:Nat->FuncId->Oq (List V->St->Oq (V×St))} (hk:KApp k0 kn) (r:Operand->V) (o:Op) :
  (ioOf P k0 r o=none/\∀ n,ioOf P (kn n) r o=none)∨∃ (f:FuncId) (g:List V->St->Oq (V×St)) (gn:Nat->List V->St->Oq (V×St)) (args:List V),ioOf P k0 r o=some (f,g,args)/\(∀ n,ioOf P (kn n) r o=some (f,gn n,args))/\∀ args s r,g args s=some r->Ult (λn=>gn n args s) r:=by
 by_cases h:∃ f args ats,o=.call { callee:=.value f,args:=args,argTypes:=ats }
 ·obtain ⟨f,args,ats,rfl⟩:=h
  simp only [ioOf];split
  ·rename_i g caps _
   cases bodyOf P (cFn g) with
   |none=>exact .inl ⟨rfl,λ_=>rfl⟩
   |some fn =>
    simp only [x0q];rcases hk (cFn g) with ⟨h1,h2⟩|⟨g',gn,h1,h2,h3⟩
    ·exact .inl ⟨by rw [h1];rfl,λn=>by rw [h2 n];rfl⟩
    ·exact .inr ⟨cFn g,g',gn,_,by rw [h1];rfl,λn=>by rw [h2 n];rfl,h3⟩
  ·exact .inl ⟨rfl,λ_=>rfl⟩
 ·refine .inl ⟨?_,λn=>?_⟩ <;> · unfold ioOf;split;(exact absurd ⟨_,_,_,rfl⟩ h);rfl
theorem qnx {g:List V->St->Oq (V×St)} {gn:Nat->List V->St->Oq (V×St)} (h3:∀ args s r,g args s=some r->Ult (λn=>gn n args s) r) {args:List V} {N:Nat} {lv:List Nat} {base:Nat} {s:St} {y:V×(Nat->Oq B)×(Nat->Bool)} (h:heapD g args N lv base s=some y):Ult (λn=>heapD (gn n) args N lv base s) y:=by
 unfold heapD at h ⊢;cases hg:g args { t:=λ_=>.any,h:=onlyB (reach s.h args) s.h,sh:=s.sh,nx:=N,lr:=λ_=>[],lw:=λ_=>[],og:=ogK (reach s.h args) lv s } with
 |none=>rw [hg] at h;cases h
 |some x =>rw [hg] at h;simp only [x0q] at h;exact (h3 _ _ _ hg).bind (Ult.const h)
theorem KApp.no:KApp (λ_=>none) (λ_ _=>none):=λ_=>.inl ⟨rfl,λ_=>rfl⟩
section
variable {k0:FuncId->Oq (List V->St->Oq (V×St))} {kn:Nat->FuncId->Oq (List V->St->Oq (V×St))} {io:FuncId->Bool} {lvf:Nat->List Nat} {N:Nat}
theorem qwc (hc:∀ f args r,c0 f args=some r->Ult (λn=>cn n f args) r) (hk:KApp k0 kn) {nt:Nat} {ops:Array Oper} {hv:Nat->Oq B} {base:Nat} {o:Oper} {s s':St} (h:opD P ⟨c0,io,k0,lvf,N⟩ nt ops hv base o s=some s'):Ult (λn=>opD P ⟨cn n,io,kn n,lvf,N⟩ nt ops hv base o s) s':=by
 unfold opD at h ⊢;split at h
 case isFalse=>cases h
 rename_i hd;simp only [hd,x20q];cases hw:wantedV ops s.t o with
 |none=>rw [hw] at h;cases h
 |some b =>
  rw [hw] at h;simp only [x0q] at h ⊢;cases b with
  |false=>exact Ult.const h
  |true =>
   simp only [x20q] at h ⊢;generalize kindB P io ops o.op=kk at h ⊢;rcases kk with _|_|kk
   ·exact Ult.const h
   ·simp only [x13q] at h ⊢
    cases he:ev1 P c0 hv (rho s.t) base o.op with
    |none=>rw [he] at h;cases h
    |some x =>rw [he] at h;simp only [x0q] at h;exact (qer hc he).bind (Ult.const h)
   ·simp only [ev2H] at h ⊢
    cases hio:isIo io o.op with
    |false =>simp only [hio,cond_false] at h ⊢;exact Ult.const h
    |true =>
     simp only [hio,x22q] at h ⊢;rcases qpm (P:=P) hk (rho s.t) o.op with ⟨h1,h2⟩|⟨f,g,gn,args,h1,h2,h3⟩
     ·rw [h1] at h;cases h
     ·simp only [h1,h2,x0q] at h ⊢
      cases hy:heapD g args N (lvf base) base s with
      |none=>rw [hy] at h;cases h
      |some y =>
       rw [hy] at h;injection h with h;subst h
       exact (qnx h3 hy).map
theorem q1dp (hc:∀ f args r,c0 f args=some r->Ult (λn=>cn n f args) r) (hk:KApp k0 kn) {nt:Nat} {ops:Array Oper} {an:Nat->Nat} {rb j:Nat} {o:Oper} {s s':St} (h:stepD P ⟨c0,io,k0,lvf,N⟩ nt ops an rb j o s=some s'):Ult (λn=>stepD P ⟨cn n,io,kn n,lvf,N⟩ nt ops an rb j o s) s':=by
 unfold stepD at h ⊢;split at h
 case isFalse=>cases h
 rename_i hd;simp only [hd,x20q];cases he:opD P ⟨c0,io,k0,lvf,N⟩ nt ops (visB s.h rb (an j)) (rb+8*j) o s with
 |none=>rw [he] at h;cases h
 |some s1 =>
  rw [he] at h;injection h with h;subst h
  exact (qwc hc hk he).map
theorem q1bi (hc:∀ f args r,c0 f args=some r->Ult (λn=>cn n f args) r) (hk:KApp k0 kn) {nt:Nat} {ops:Array Oper} {an:Nat->Nat} {rb:Nat}:∀ (l:List Nat) {s s':St},runD P ⟨c0,io,k0,lvf,N⟩ nt ops an rb l s=some s'->Ult (λn=>runD P ⟨cn n,io,kn n,lvf,N⟩ nt ops an rb l s) s'
 |[],s,s',h=>Ult.const h
 |j::l,s,s',h=>by
  simp only [runD] at h ⊢;cases ho:ops[j]? with
  |none=>rw [ho] at h;cases h
  |some o =>
   rw [ho] at h;simp only [x0q] at h ⊢;cases hs:stepD P ⟨c0,io,k0,lvf,N⟩ nt ops an rb j o s with
   |none=>rw [hs] at h;cases h
   |some s1 =>rw [hs] at h;exact (q1dp hc hk hs).bind (q1bi hc hk l h)
end
theorem q1bq (hc:∀ f args r,c0 f args=some r->Ult (λn=>cn n f args) r) {k0:FuncId->Oq (List V->St->Oq (V×St))} {kn:Nat->FuncId->Oq (List V->St->Oq (V×St))} (hk:KApp k0 kn) {lv:Nat->List Nat} {nt:Nat} {ops:Array Oper}:∀ (l:List Oper) {jj base:Nat} {s s':St},runN P c0 k0 lv nt ops l jj base s=some s'->Ult (λn=>runN P (cn n) (kn n) lv nt ops l jj base s) s'
 |[],_,_,s,s',h=>Ult.const h
 |o::l,jj,base,s,s',h=>by
  rcases qpm (P:=P) hk (rho s.t) o.op with ⟨h1,h2⟩|⟨f,g,gn,args,h1,h2,h3⟩
  ·simp only [runN,h1,h2] at h ⊢
   cases hs:opD P (hp0 c0) nt ops s.h base o s with
   |none=>rw [hs] at h;cases h
   |some s1 =>rw [hs] at h;exact (qwc hc KApp.no hs).bind (q1bq hc hk l h)
  ·simp only [runN,h1,h2] at h ⊢
   split at h
   case isFalse=>cases h
   rename_i hd;simp only [hd,x20q];cases hw:wantedV ops s.t o with
   |none=>rw [hw] at h;cases h
   |some b =>
    rw [hw] at h;simp only [x0q] at h ⊢;cases b with
    |false=>exact q1bq hc hk l h
    |true =>
     simp only [x20q] at h ⊢;cases hy:heapD g args base (lv jj) base s with
     |none=>rw [hy] at h;cases h
     |some y =>rw [hy] at h;simp only [x0q] at h;exact (qnx h3 hy).bind (q1bq hc hk l h)
theorem q1dh {c0:CT} {cn:Nat->CT} (hc:∀ f args r,c0.call f args=some r->Ult (λn=>(cn n).call f args) r) (hk:KApp c0.ch (λn=>(cn n).ch)) (hio:∀ n,(cn n).io=c0.io) {live:Nat->List Nat} {nt:Nat} {an:Nat->Code->St->Oq (Nat×St)} {a0:Code->St->Oq (Nat×St)} (ha:∀ c s r,a0 c s=some r->Ult (λn=>an n c s) r) :
  ∀ (c:Code) (s:St) (r:Nat×St),stepC P live c0 nt a0 c s=some r->Ult (λn=>stepC P live (cn n) nt (an n) c s) r:=by
 intro c;induction c with
 |region id ops draw =>
  intro s r h;cases draw with
  |false =>
   simp only [stepC] at h ⊢;cases hr:runN P c0.call c0.ch (λj=>live (3000000+1000*id+j)) nt ops ops.toList 0 s.nx s with
   |none=>rw [hr] at h;cases h
   |some s' =>
    rw [hr] at h;injection h with h;subst h
    exact (q1bq hc hk _ hr).map
  |true =>
   simp only [stepC] at h ⊢;split at h
   ·rename_i hd
    simp only [hio,hd,x20q];cases hr:runD P ⟨c0.call,ioR live id c0.io,c0.ch,lvD (ioR live id c0.io) (λj=>live (3000000+1000*id+j)) ops s.nx,s.nx+8*ops.size⟩ nt ops (anOf ops) s.nx (List.range ops.size) { s with lr:=λ_=>[],lw:=λ_=>[] } with
    |none=>rw [hr] at h;cases h
    |some s' =>
     rw [hr] at h;injection h with h;subst h
     exact (q1bi hc hk _ hr).map
   ·cases h
 |seq x y ihx ihy =>
  intro s r h;simp only [stepC] at h ⊢;cases hx:stepC P live c0 nt a0 x s with
  |none=>rw [hx] at h;cases h
  |some r1 =>
   rw [hx] at h;simp only [x0q] at h;refine (ihx s r1 hx).bind ?_;split at h
   ·rename_i h0;simp only [h0,x20q];exact ihy _ r h
   ·rename_i h0;simp only [h0,x21q];exact Ult.const h
 |cond c x y ihx ihy =>
  intro s r h;simp only [stepC] at h ⊢;split at h
  ·rename_i q hq
   cases q with
   |true=>simp only [x20q] at h ⊢;exact ihx s r h
   |false=>simp only [x1q,x21q] at h ⊢;exact ihy s r h
  ·cases h
 |block id c ih =>
  intro s r h;simp only [stepC] at h ⊢;cases hx:stepC P live c0 nt a0 c s with
  |none=>rw [hx] at h;cases h
  |some r1 =>
   rw [hx] at h;injection h with h;subst h
   exact (ih s r1 hx).map
 |loop c ih =>
  intro s r h;simp only [stepC] at h ⊢;cases hx:stepC P live c0 nt a0 c (canon (((fstRegion c).map λid=>live (2*id)).getD []) (shareS (shq live c) s)) with
  |none=>rw [hx] at h;cases h
  |some r1 =>
   rw [hx] at h;simp only [x0q] at h;refine (ih _ r1 hx).bind ?_;split at h
   ·rename_i h0;simp only [h0,x20q];exact ha _ _ _ h
   ·rename_i h0;simp only [h0,x21q];exact Ult.const h
 |_=>intro s r h;exact Ult.const h
theorem q91 {fz:FuncId->Bool} {X:FuncId->List V->Oq (V×List B)} {en:Nat->FuncId->Nat->Code->St->Oq (Nat×St)} {e0:FuncId->Nat->Code->St->Oq (Nat×St)} (he:∀ f nt c s r,e0 f nt c s=some r->Ult (λn=>en n f nt c s) r) {f:FuncId} {args:List V} {r:V×List B} (h:callD P fz X e0 f args=some r):Ult (λn=>callD P fz X (en n) f args) r:=by
 unfold callD at h ⊢;split at h
 ·exact Ult.const h
 ·cases hb:bodyOf P f with
  |none=>rw [hb] at h;cases h
  |some fn =>
   rw [hb] at h;simp only [x0q] at h ⊢;split at h
   case isFalse=>cases h
   rename_i hnt;simp only [hnt,x20q];cases hc:fn.body with
   |none=>rw [hc] at h;cases h
   |some c =>
    rw [hc] at h;simp only [x0q] at h ⊢;cases hx:e0 f fn.ntmps c { t:=λi=>args.getD i .any,h:=λ_=>none,sh:=λ_=>false,nx:=0,lr:=λ_=>[],lw:=λ_=>[],og:=[] } with
    |none=>rw [hx] at h;cases h
    |some x =>rw [hx] at h;exact (he _ _ _ _ _ hx).bind (Ult.const h)
theorem q1bn {fz:FuncId->Bool} {en:Nat->FuncId->Nat->Code->St->Oq (Nat×St)} {e0:FuncId->Nat->Code->St->Oq (Nat×St)} (he:∀ f nt c s r,e0 f nt c s=some r->Ult (λn=>en n f nt c s) r) {f:FuncId} {args:List V} {s:St} {r:V×St} (h:runH P fz e0 f args s=some r):Ult (λn=>runH P fz (en n) f args s) r:=by
 unfold runH at h ⊢;cases hb:bodyOf P f with
 |none=>simp only [hb] at h;cases h
 |some fn =>
  simp only [hb,x0q] at h ⊢;split at h
  case isFalse=>cases h
  rename_i hnt;simp only [hnt,x20q];cases hc:fn.body with
  |none=>rw [hc] at h;cases h
  |some c =>
   rw [hc] at h;simp only [x0q] at h ⊢;cases hx:e0 f fn.ntmps c (canon (List.range args.length) { t:=λi=>args.getD i .any,h:=s.h,sh:=s.sh,nx:=s.nx,lr:=λ_=>[],lw:=λ_=>[],og:=s.og }) with
   |none=>rw [hx] at h;cases h
   |some x =>rw [hx] at h;exact (he _ _ _ _ _ hx).bind (Ult.const h)
theorem qhh {en:Nat->Code->St->Oq (Nat×St)} {e0:Code->St->Oq (Nat×St)} (he:∀ c s r,e0 c s=some r->Ult (λn=>en n c s) r):∀ (l:List Code) {s:St} {r:Nat×St},exL e0 l s=some r->Ult (λn=>exL (en n) l s) r
 |[],_,_,h=>Ult.const h
 |a::l,s,r,h=>by
  simp only [exL] at h ⊢;cases hx:e0 a s with
  |none=>rw [hx] at h;cases h
  |some x =>
   rw [hx] at h;simp only [x0q] at h;split at h
   case isFalse=>cases h
   rename_i h0;refine (he a s x hx).bind ?_;simp only [h0,x20q];exact qhh he l h
theorem qcq {g:List V->St->Oq (V×St)} {gn:Nat->List V->St->Oq (V×St)} (h3:∀ args s r,g args s=some r->Ult (λn=>gn n args s) r) {lv:List Nat} {s s':St} (h:endD g lv s=some s'):Ult (λn=>endD (gn n) lv s) s':=by
 unfold endD at h ⊢;cases hl:lastN s.og with
 |none=>rw [hl] at h;cases h
 |some id =>
  rw [hl] at h;simp only [x0q] at h ⊢;cases hy:heapD g [.ptr id 0] s.nx lv s.nx { s with og:=s.og.dropLast } with
  |none=>rw [hy] at h;cases h
  |some y =>rw [hy] at h;simp only [x18q,y19q] at h;subst h;exact (qnx h3 hy).map
theorem q1bl {fz:FuncId->Bool} {en:Nat->FuncId->Nat->Code->St->Oq (Nat×St)} {e0:FuncId->Nat->Code->St->Oq (Nat×St)} (he:∀ f nt c s r,e0 f nt c s=some r->Ult (λn=>en n f nt c s) r) {f:FuncId} {args:List V} {s:St} {r:V×St} (h:runHD P fz e0 f args s=some r):Ult (λn=>runHD P fz (en n) f args s) r:=by
 unfold runHD at h ⊢;cases hb:bodyOf P f with
 |none=>simp only [hb] at h;cases h
 |some fn =>
  simp only [hb,x0q] at h ⊢;split at h
  case isFalse=>cases h
  rename_i hnt;simp only [hnt,x20q];cases hc:fn.body with
  |none=>rw [hc] at h;cases h
  |some c =>
   rw [hc] at h;simp only [x0q] at h ⊢;cases hd:splitD c with
   |none=>rw [hd] at h;cases h
   |some d =>
    rw [hd] at h;simp only [x0q] at h ⊢;cases hx:exL (e0 f fn.ntmps) d.1 (canon (List.range args.length) (hst args s)) with
    |none=>rw [hx] at h;cases h
    |some x =>
     rw [hx] at h;simp only [x0q] at h;refine (qhh (λc s r hr=>he f fn.ntmps c s r hr) _ hx).bind ?_;cases hs:defD fn.ntmps d.2.1 d.2.2.1 x with
     |none=>rw [hs] at h;cases h
     |some s1 =>
      rw [hs] at h;simp only [x0q] at h ⊢;cases hy:e0 f fn.ntmps d.2.2.2.2 s1 with
      |none=>rw [hy] at h;cases h
      |some y =>
       rw [hy] at h;simp only [x0q] at h;refine (he _ _ _ _ _ hy).bind ?_;split at h
       case isFalse=>cases h
       rename_i hq;simp only [hq,and_self,x20q];cases hz:endD (runH P fz e0 d.2.2.2.1) (slotsR fn) y.2 with
       |none=>rw [hz] at h;cases h
       |some s2 =>rw [hz] at h;exact (qcq (λargs s r hr=>q1bn he hr) hz).bind (Ult.const h)
theorem q93 {io df fz:FuncId->Bool} {XH:FuncId->Oq XRule} {en:Nat->FuncId->Nat->Code->St->Oq (Nat×St)} {e0:FuncId->Nat->Code->St->Oq (Nat×St)} (he:∀ f nt c s r,e0 f nt c s=some r->Ult (λn=>en n f nt c s) r):KApp (callH P io df fz XH e0) (λn=>callH P io df fz XH (en n)):=by
 intro f;cases hXf:XH f with
 |some g=>exact .inr ⟨runX g,λ_=>runX g,by simp [callH,hXf],λn=>by simp [callH,hXf],λargs s r h=>Ult.const h⟩
 |none =>
 cases hio:io f with
 |false=>exact .inl ⟨by simp [callH,hio,hXf],λn=>by simp [callH,hio,hXf]⟩
 |true =>
  cases hdf:df f with
  |true=>exact .inr ⟨runHD P fz e0 f,λn=>runHD P fz (en n) f,by simp [callH,hio,hXf,hdf],λn=>by simp [callH,hio,hXf,hdf],λargs s r h=>q1bl he h⟩
  |false=>exact .inr ⟨runH P fz e0 f,λn=>runH P fz (en n) f,by simp [callH,hio,hXf,hdf],λn=>by simp [callH,hio,hXf,hdf],λargs s r h=>q1bn he h⟩
end
section
variable (P:Program) (live:FuncId->Nat->List Nat) (X:XT)
theorem qhm:∀ (n:Nat) (f:FuncId) (nt:Nat) (c:Code) (s:St) (r:Nat×St),execD P live X n f nt c s=some r->execD P live X (n+1) f nt c s=some r
 |0,_,_,_,_,_,h=>by cases h
 |n+1,f,nt,c,s,r,h=>by
  have ih:=qhm n
  obtain ⟨N,hN⟩:=q1dh (P:=P) (cn:=λ_=>⟨callD P (fzL live) X.c (execD P live X (n+1)),ioB live,callH P (ioB live) (dfB live) (fzL live) X.h (execD P live X (n+1))⟩) (c0:=⟨callD P (fzL live) X.c (execD P live X n),ioB live,callH P (ioB live) (dfB live) (fzL live) X.h (execD P live X n)⟩) (an:=λ_=>execD P live X (n+1) f nt) (a0:=execD P live X n f nt)
   (λg args r hr=>q91 (en:=λ_=>execD P live X (n+1)) (e0:=execD P live X n) (λf nt c s r h=>Ult.const (ih f nt c s r h)) hr) (q93 (en:=λ_=>execD P live X (n+1)) (e0:=execD P live X n) (λf nt c s r h=>Ult.const (ih f nt c s r h))) (λ_=>rfl) (λc s r h=>Ult.const (ih f nt c s r h)) c s r h
  exact hN N (Nat.le_refl _)
theorem qhk {n k:Nat} (hk:n<=k) {f:FuncId} {nt:Nat} {c:Code} {s:St} {r:Nat×St} (h:execD P live X n f nt c s=some r):execD P live X k f nt c s=some r:=by
 induction hk with
 |refl=>exact h
 |step _ ih=>exact qhm P live X _ f nt c s r ih
open Classical in
noncomputable def Exec (f:FuncId) (nt:Nat) (c:Code) (s:St):Oq (Nat×St):=if h:∃ n r,execD P live X n f nt c s=some r then some h.choose_spec.choose else none
theorem ql {n:Nat} {f:FuncId} {nt:Nat} {c:Code} {s:St} {r:Nat×St} (h:execD P live X n f nt c s=some r):Exec P live X f nt c s=some r:=by
 have hex:∃ n r,execD P live X n f nt c s=some r:=⟨n,r,h⟩;unfold Exec;rw [dif_pos hex];have h1:=hex.choose_spec.choose_spec
 have a:=qhk P live X (Nat.le_max_left hex.choose n) h1;have b:=qhk P live X (Nat.le_max_right hex.choose n) h
 rw [a] at b;exact b
theorem qm {f:FuncId} {nt:Nat} {c:Code} {s:St} {r:Nat×St} (h:Exec P live X f nt c s=some r):Ult (λn=>execD P live X n f nt c s) r:=by
 unfold Exec at h;split at h
 ·rename_i hex
  injection h with h;have h1:=hex.choose_spec.choose_spec
  rw [h] at h1;exact ⟨hex.choose,λn hn=>qhk P live X hn h1⟩
 ·cases h
noncomputable def Call (f:FuncId) (args:List V):Oq (V×List B):=callD P (fzL live) X.c (Exec P live X) f args
noncomputable def CallT:CT:=⟨Call P live X,ioB live,callH P (ioB live) (dfB live) (fzL live) X.h (Exec P live X)⟩
theorem qn {f:FuncId} {nt:Nat} {c:Code} {s:St} {r:Nat×St} (h:stepC P (live f) (CallT P live X) nt (Exec P live X f nt) c s=some r):Exec P live X f nt c s=some r:=by
 obtain ⟨N,hN⟩:=q1dh (P:=P) (cn:=λn=>⟨callD P (fzL live) X.c (execD P live X n),ioB live,callH P (ioB live) (dfB live) (fzL live) X.h (execD P live X n)⟩) (c0:=CallT P live X) (an:=λn=>execD P live X n f nt) (a0:=Exec P live X f nt)
  (λg args r hr=>q91 (en:=λn=>execD P live X n) (e0:=Exec P live X) (λf nt c s r h=>qm P live X h) hr) (q93 (en:=λn=>execD P live X n) (e0:=Exec P live X) (λf nt c s r h=>qm P live X h)) (λ_=>rfl) (λc s r h=>qm P live X h) c s r h
 exact ql P live X (n:=N+1) (hN N (Nat.le_refl _))
theorem qh (hmo:P.follows .mixedOrders=true) (hX:XOk P X) {f:FuncId} {args:List V} {res:V×List B} (h:Call P live X f args=some res):CallOk P f args res:=by obtain ⟨N,hN⟩:=q91 (P:=P) (en:=λn=>execD P live X n) (e0:=Exec P live X) (λf nt c s r h=>qm P live X h) h;exact q96 hmo hX (hN N (Nat.le_refl _))
end
end Go.Proofs.YtmlcmoaonaomfaaGreatDoor
namespace Go.Proofs.YtmlcmoaonaomfaaGreatDoor
open Go.RowKit
section
variable (P:Program)
def st0 (args:List V):St:={ t:=λi=>args.getD i .any,h:=λ_=>none,sh:=λ_=>false,nx:=0,lr:=λ_=>[],lw:=λ_=>[],og:=[] }
def endF (q:Bool) (fn:Func) (x:Nat×St):Oq (V×List B):=if x.1<=1 then (resV P fn x.2).bind λvs=>(finQ q x.2 vs).bind λy=>if okRes y.1 then some y else none else none
end
section
variable (P:Program)
def byO (t:TypeId):Oq Nat:=(P.info? t).map (·.bytes)
def zOk (t:TypeId):Bool:=match P.info? t with|some i=>decide (i.zero.map (λz=>z.cells.size)=some i.size)|none=>false
variable {P}
end
section
variable {P:Program} {live:FuncId->Nat->List Nat} {X:XT}
theorem qg {f : FuncId} {args : List V} {fn : Func} {c : Code} {x : Nat × St} {r : V × List B} (hX : X.c f args = none) (hf : P.funcs[f]? = some fn) (hb : fn.body = some c) (hn : (fn.name == "runtime.NumGoroutine") = false) (ha : args.length ≤ fn.ntmps)
  (hs:stepC P (live f) (CallT P live X) fn.ntmps (Exec P live X f fn.ntmps) c (st0 args)=some x) (he:endF P (fzL live f) fn x=some r):Call P live X f args=some r:=by
 unfold Call callD;rw [hX];have hbo:bodyOf P f=some fn:=by simp [bodyOf,hf,hb];simpa using hn
 simp only [hbo,x0q,ha,x20q,hb];have:=qn P live X hs
 unfold st0 at this;rw [this];exact he
theorem qf {n:Nat} {f:FuncId} {args:List V} {r:V×List B} (h:callD P (fzL live) X.c (execD P live X n) f args=some r):Call P live X f args=some r:=by obtain ⟨N,hN⟩:=q91 (P:=P) (X:=X.c) (en:=λ_=>Exec P live X) (e0:=execD P live X n) (λf nt c s r h=>Ult.const (ql P live X h)) h;exact hN N (Nat.le_refl _)
theorem qe {f : FuncId} {args : List V} {fn : Func} {c : Code} {r : V × List B} (hf : P.funcs[f]? = some fn) (hb : fn.body = some c) (hn : (fn.name == "runtime.NumGoroutine") = false) (hX : X.c f args = none) (ha : decide (args.length ≤ fn.ntmps) = true)
  (hs:(stepC P (live f) (CallT P live X) fn.ntmps (Exec P live X f fn.ntmps) c (st0 args)).bind (endF P (fzL live f) fn)=some r):Call P live X f args=some r:=by
 cases hx:stepC P (live f) (CallT P live X) fn.ntmps (Exec P live X f fn.ntmps) c (st0 args) with
 |none=>rw [hx] at hs;cases hs
 |some x=>rw [hx] at hs;exact qg hX hf hb hn (by simpa using ha) hx hs
end
theorem q1dk {P:Program} {live:Nat->List Nat} {call:CT} {nt:Nat} {again:Code->St->Oq (Nat×St)} {id:Nat} {ops:Array Oper} {s:St} (h:drawOk P (ioR live id call.io) (λj=>live (3000000+1000*id+j)) ops=true) :
  stepC P live call nt again (.region id ops true) s=(runD P ⟨call.call,ioR live id call.io,call.ch,lvD (ioR live id call.io) (λj=>live (3000000+1000*id+j)) ops s.nx,s.nx+8*ops.size⟩ nt ops (anOf ops) s.nx (List.range ops.size) { s with lr:=λ_=>[],lw:=λ_=>[] }).map λs'=>(0,canon (live (2*id+1)) { s' with nx:=s.nx+8*ops.size }):=by
 simp only [stepC,h,x20q]
theorem q1dm {P:Program} {live:Nat->List Nat} {call:CT} {nt:Nat} {again:Code->St->Oq (Nat×St)} {id:Nat} {ops:Array Oper} {s:St} :
  stepC P live call nt again (.region id ops false) s=(runN P call.call call.ch (λj=>live (3000000+1000*id+j)) nt ops ops.toList 0 s.nx s).map λs'=>(0,canon (live (2*id+1)) s'):=rfl
theorem q1dn {P:Program} {live:Nat->List Nat} {call:CT} {nt:Nat} {again:Code->St->Oq (Nat×St)} {a b:Code} {s:St}:stepC P live call nt again (.seq a b) s=(stepC P live call nt again a s).bind λx=>if x.1=0 then stepC P live call nt again b (cutS live b x.2) else some x:=rfl
theorem q1dj {P:Program} {live:Nat->List Nat} {call:CT} {nt:Nat} {again:Code->St->Oq (Nat×St)} {c:Operand} {a b:Code} {s:St} {q:Bool} (h:rho s.t c=.c (.bool q)):stepC P live call nt again (.cond c a b) s=if q then stepC P live call nt again a s else stepC P live call nt again b s:=by simp only [stepC,h]
theorem q1di {P:Program} {live:Nat->List Nat} {call:CT} {nt:Nat} {again:Code->St->Oq (Nat×St)} {id:Nat} {c:Code} {s:St}:stepC P live call nt again (.block id c) s=(stepC P live call nt again c s).bind λx=>some (if x.1=id+2 then (0,x.2) else x):=by simp only [stepC];cases stepC P live call nt again c s <;> rfl
def tb:List (Nat×V)->Nat->V
 |[],_=>.any
 |(j,v)::l,i=>if i=j then v else tb l i
def mkS (t:List (Nat×V)) (h:List (Oq B)) (sh:List Bool) (og:List Nat):St:={ t:=tb t,h:=λj=>(h[j]?).getD none,sh:=λj=>(sh[j]?).getD false,nx:=h.length,lr:=λ_=>[],lw:=λ_=>[],og:=og }
def canT (live:List Nat) (s:St) (r:Nat->Oq Nat):List (Nat×V):=live.map λi=>(i,aggO r (nilA (s.nx+200*i) (s.t i)))
def canL (live:List Nat) (s:St):List Nat:=reach (nilH s.nx s.h) ((live.map λi=>nilA (s.nx+200*i) (s.t i))++s.og.map λid=>.ptr id 0)
def canO (s:St) (r:Nat->Oq Nat):List Nat:=s.og.map λid=>(r id).getD 0
theorem tb_map (g:Nat->V):∀ (l:List Nat) (i:Nat),tb (l.map λi=>(i,g i)) i=if i∈l then g i else .any
 |[],i=>by simp [tb]
 |j::l,i=>by
  simp only [y20q,tb,tb_map g l i,y32q];by_cases h:i=j
  ·subst h;simp
  ·simp [h]
theorem q99 (live:List Nat) (s:St):canon live s=mkS (canT live s (λid=>pos id (canL live s))) ((canL live s).map λid=>(nilH s.nx s.h id).map (B.renO (λid=>pos id (canL live s)))) ((canL live s).map (nilSh s.nx s.sh)) (canO s (λid=>pos id (canL live s))):=by
 unfold canon mkS;simp only;congr 1
 ·funext i
  rw [canT,tb_map];rfl
 ·funext j
  rw [x14q];show (((canL live s)[j]?).bind (nilH s.nx s.h)).map _=_
  cases (canL live s)[j]? <;> rfl
 ·funext j
  rw [x14q];rfl
 ·simp [canL]
inductive K1 where
 |int (k:IntKind)
 |bool
 |str
 |sl
def qph:C->Int
 |.int _ n=>n
 |_=>0
def q8b:C->Bool
 |.bool b=>b
 |_=>false
def q1e1:C->BA
 |.str s=>s
 |_=>default
def slOf:C->List (List C)
 |.sl es=>es
 |_=>[]
def decC:K1->C->C
 |.int k,c=>.int k (qph c)
 |.bool,c=>.bool (q8b c)
 |.str,c=>.str (q1e1 c)
 |.sl,c=>.sl (slOf c)
def isK:K1->C->Bool
 |.int k,.int k' _=>decide (k=k')
 |.bool,.bool _=>true
 |.str,.str _=>true
 |.sl,.sl _=>true
 |_,_=>false
theorem qar {k:K1} {c:C} (h:isK k c=true):decC k c=c:=by cases k <;> cases c <;> simp_all [isK,decC,qph,q8b,q1e1,slOf]
def decE:List K1->Nat->List C->List C
 |[],_,_=>[]
 |k::ks,i,el=>decC k (el.getD i .ne)::decE ks (i+1) el
def isE:List K1->Nat->List C->Bool
 |[],i,el=>el.length==i
 |k::ks,i,el=>isK k (el.getD i .ne)&&isE ks (i+1) el
theorem qas:∀ (ks:List K1) (i:Nat) (el:List C),isE ks i el=true->decE ks i el=el.drop i
 |[],i,el,h=>by simp only [isE,beq_iff_eq] at h;simp [decE,←h]
 |k::ks,i,el,h=>by
  simp only [isE,x6q] at h;rw [decE,qar h.1,qas ks (i+1) el h.2];have hi:i<el.length:=by
   by_cases hi:i<el.length
   ·exact hi
   ·have:=h.1
    rw [x2q,y40q (by omega)] at this
    cases k <;> simp [isK] at this
  rw [List.drop_eq_getElem_cons hi];simp [y1q hi]
theorem qat {ks:List K1} {el:List C} (h:isE ks 0 el=true):decE ks 0 el=el:=by rw [qas ks 0 el h];rfl
section
variable (P:Program)
def shapeT:Nat->TypeId->Oq (List K1)
 |0,_=>none
 |d+1,t=>match P.underlying t with
  |some .bool=>some [.bool]
  |some (.int k)=>some [.int k]
  |some .string=>some [.str]
  |some (.slice _)=>some [.sl]
  |some (.struct fs)=>fs.toList.foldr (λf r=>(shapeT d f.type).bind λa=>r.map (a++·)) (some [])
  |_=>none
end
section
variable {β:Type}
def brE (q:Bool) (a b:Oq β):Oq β:=match q with|true=>a|false=>b
def gdE (q:Bool) (a:Oq β):Oq β:=match q with|true=>a|false=>none
theorem qm2 {q:Bool} {a:Oq β} {r:β} (h:gdE q a=some r):q=true/\a=some r:=by cases q <;> simp_all [gdE]
def forceK (x:K1) (k:K1->Oq β):Oq β:=match x with
 |.int a=>k (.int a)
 |.bool=>k .bool
 |.str=>k .str
 |.sl=>k .sl
theorem qlc (x:K1) (k:K1->Oq β):forceK x k=k x:=by cases x <;> rfl
def forceKs (l:List K1) (k:List K1->Oq β):Oq β:=match l with
 |[]=>k []
 |x::l=>forceK x λx=>forceKs l λl=>k (x::l)
theorem qld:∀ (l:List K1) (k:List K1->Oq β),forceKs l k=k l
 |[],_=>rfl
 |x::l,k=>by rw [forceKs,qlc,qld]
def forceC (x:C) (k:C->Oq β):Oq β:=match x with
 |.int a n=>k (.int a n)
 |.bool b=>k (.bool b)
 |.str s=>k (.str s)
 |.sl es=>k (.sl es)
 |.nilS=>k .nilS
 |.ne=>k .ne
 |.zs=>k .zs
 |.nilP=>k .nilP
 |.nilF=>k .nilF
theorem ql8 (x:C) (k:C->Oq β):forceC x k=k x:=by cases x <;> rfl
def forceCs (l:List C) (k:List C->Oq β):Oq β:=match l with
 |[]=>k []
 |x::l=>forceC x λx=>forceCs l λl=>k (x::l)
theorem ql9:∀ (l:List C) (k:List C->Oq β),forceCs l k=k l
 |[],_=>rfl
 |x::l,k=>by rw [forceCs,ql8,ql9]
def forceV1 (v:V) (k:V->Oq β):Oq β:=match v with
 |.any=>k .any
 |.c x=>forceC x λx=>k (.c x)
 |.agg cs=>k (.agg cs)
 |.tup vs=>k (.tup vs)
 |.row id n=>k (.row id n)
 |.ptr id off=>k (.ptr id off)
 |.rptr id a i off=>k (.rptr id a i off)
 |.eptr cs off=>forceCs cs λcs=>k (.eptr cs off)
 |.fn f caps=>k (.fn f caps)
 |.mp id=>k (.mp id)
 |.rowE id=>k (.rowE id)
theorem qlm (v:V) (k:V->Oq β):forceV1 v k=k v:=by cases v <;> simp only [forceV1,ql8,ql9]
def forceL1 (l:List V) (k:List V->Oq β):Oq β:=match l with
 |[]=>k []
 |x::l=>forceV1 x λx=>forceL1 l λl=>k (x::l)
theorem qle:∀ (l:List V) (k:List V->Oq β),forceL1 l k=k l
 |[],_=>rfl
 |x::l,k=>by rw [forceL1,qlm,qle]
def forceV2 (v:V) (k:V->Oq β):Oq β:=match v with
 |.agg cs=>forceL1 cs λcs=>k (.agg cs)
 |.fn f caps=>forceL1 caps λcaps=>k (.fn f caps)
 |v=>forceV1 v k
theorem qln (v:V) (k:V->Oq β):forceV2 v k=k v:=by cases v <;> simp only [forceV2,qlm,qle]
def forceL2 (l:List V) (k:List V->Oq β):Oq β:=match l with
 |[]=>k []
 |x::l=>forceV2 x λx=>forceL2 l λl=>k (x::l)
theorem qlf:∀ (l:List V) (k:List V->Oq β),forceL2 l k=k l
 |[],_=>rfl
 |x::l,k=>by rw [forceL2,qln,qlf]
def forceV (v:V) (k:V->Oq β):Oq β:=match v with
 |.tup vs=>forceL2 vs λvs=>k (.tup vs)
 |v=>forceV2 v k
theorem qlo (v:V) (k:V->Oq β):forceV v k=k v:=by cases v <;> simp only [forceV,qln,qlf]
end
section
variable (P:Program) {β:Type}
def eqE:Nat->TypeId->V->V->Oq Bool
 |0,_,_,_=>none
 |d+1,t,x,y =>
  match P.underlying t,x,y with
  |some (.struct fs),.agg xs,.agg ys =>
   if P.stoodInHeld t || P.eqGuardType P.depth t || fs.toList.any (fun f => f.name == "_") then none
   else fs.toList.foldr (λf r=>(partV P f.type xs f.offset).bind λa=>(partV P f.type ys f.offset).bind λb=>(eqE d f.type a b).bind λq=>r.map λr=>q&&r) (some true)
  |_,_,_=>eqV P (d+1) t x y
theorem eqE_ok:∀ (d:Nat) (t:TypeId) (x y:V) (q:Bool),eqE P d t x y=some q->eqV P d t x y=some q
 |0,_,_,_,_,h=>by simp [eqE] at h
 |d+1,t,x,y,q,h=>by
  unfold eqE at h;split at h
  ·rename_i fs xs ys ht
   unfold eqV;rw [ht];simp only;split at h
   ·cases h
   ·rename_i hn
    rw [if_neg hn];clear hn ht;generalize fs.toList=l at h;induction l generalizing q with
    |nil=>exact h
    |cons f l ih =>
     simp only [List.foldr_cons] at h ⊢;cases h1:partV P f.type xs f.offset with
     |none=>rw [h1] at h;cases h
     |some a =>
      rw [h1] at h;cases h2:partV P f.type ys f.offset with
      |none=>rw [h2] at h;cases h
      |some b =>
       rw [h2] at h;simp only [x0q] at h ⊢;cases h3:eqE P d f.type a b with
       |none=>rw [h3] at h;cases h
       |some c =>rw [h3] at h;rw [eqE_ok d f.type a b c h3];simp only [x0q] at h ⊢;obtain ⟨r,hr,hq⟩:=Option.map_eq_some_iff.1 h;rw [ih r hr];cases c <;> simp_all
  ·exact h
def binE (op:BinOp) (t:TypeId) (x y:V) (k:V->Oq β):Oq β :=
 match x,y with
 |.c (.int a n),.c (.int b m) =>
  match op with
  |.quo=>if a=b then brE (m==0) none (k (.c (.int a (a.wrap (n.tdiv m))))) else none
  |.rem=>if a=b then brE (m==0) none (k (.c (.int a (n.tmod m)))) else none
  |.shl=>brE (decide (m<0)) none (k (.c (.int a (a.wrap (n*2 ^ (min m.toNat a.bits))))))
  |.shr=>brE (decide (m<0)) none (k (.c (.int a (n.fdiv (2 ^ (min m.toNat a.bits))))))
  |_=>(binV P op t x y).bind k
 |.c (.str a),.c (.str b) =>
  match op with
  |.add=>brE (decide (((a.size+b.size:Nat):Int)>IntKind.i64.max)) none (k (.c (.str (a++b))))
  |_=>(binV P op t x y).bind k
 |.agg xs,.agg ys =>
  match op with
  |.eql=>(eqE P 9 t (.agg xs) (.agg ys)).bind λq=>k (.c (.bool q))
  |.neq=>(eqE P 9 t (.agg xs) (.agg ys)).bind λq=>k (.c (.bool !q))
  |_=>none
 |.c (.sl es),.c .nilS =>
  match P.underlying t with
  |some (.slice _) =>
   match op with
   |.eql=>gdE (!es.isEmpty) (k (.c (.bool false)))
   |.neq=>gdE (!es.isEmpty) (k (.c (.bool true)))
   |_=>none
  |_=>none
 |x,y=>(binV P op t x y).bind k
theorem q8d {q:Bool} {a:Oq β} {r:β} (h:brE q none a=some r):q=false/\a=some r:=by cases q <;> simp_all [brE]
theorem q7x {op:BinOp} {t:TypeId} {x y:V} {k:V->Oq β} {r:β} (h:binE P op t x y k=some r):(binV P op t x y).bind k=some r:=by
 unfold binE at h;split at h
 ·split at h
  ·split at h
   ·rename_i e
    obtain ⟨h0,h⟩:=q8d h;simp only [beq_eq_false_iff_ne] at h0;subst e;simp [binV,intOp,h0,h]
   ·cases h
  ·split at h
   ·rename_i e
    obtain ⟨h0,h⟩:=q8d h;simp only [beq_eq_false_iff_ne] at h0;subst e;simp [binV,intOp,h0,h]
   ·cases h
  ·obtain ⟨h0,h⟩:=q8d h
   simp only [decide_eq_false_iff_not] at h0;simp [binV,shOp,h0,h]
  ·obtain ⟨h0,h⟩:=q8d h
   simp only [decide_eq_false_iff_not] at h0;simp [binV,shOp,h0,h]
  ·exact h
 ·split at h
  ·obtain ⟨h0,h⟩:=q8d h
   simp only [decide_eq_false_iff_not] at h0;simp only [binV,strOp,if_neg h0];exact h
  ·exact h
 ·split at h
  ·cases e:eqE P 9 t (.agg _) (.agg _) with
   |none=>rw [e] at h;cases h
   |some q=>rw [e] at h;simp only [binV,eqE_ok P _ _ _ _ _ e];exact h
  ·cases e:eqE P 9 t (.agg _) (.agg _) with
   |none=>rw [e] at h;cases h
   |some q=>rw [e] at h;simp only [binV,eqE_ok P _ _ _ _ _ e];exact h
  ·cases h
 ·rename_i es
  split at h
  ·rename_i ht
   split at h
   ·obtain ⟨h0,h⟩:=qm2 h
    cases es with
    |nil=>simp at h0
    |cons e es=>simp only [binV,eqV,ht,x18q,x0q];exact h
   ·obtain ⟨h0,h⟩:=qm2 h
    cases es with
    |nil=>simp at h0
    |cons e es=>simp only [binV,eqV,ht,x18q,x0q];exact h
   ·cases h
  ·cases h
 ·exact h
def bndE (x:Oq V) (d:Nat) (m:Nat) (k:Nat->Oq β):Oq β :=
 match x with
 |none=>k d
 |some (.c (.int _ i))=>gdE (decide (0<=i)&&decide (i<=m)) (k i.toNat)
 |_=>none
theorem q84 {x:Oq V} {d m:Nat} {k:Nat->Oq β} {r:β} (h:bndE x d m k=some r):∃ n,bnd x d m=some n/\k n=some r:=by
 unfold bndE at h;split at h
 ·exact ⟨d,rfl,h⟩
 ·obtain ⟨h0,h⟩:=qm2 h
  simp only [x6q,y45q] at h0;exact ⟨_,if_pos h0,h⟩
 ·cases h
def strIxE (s:BA) (i:Int) (k:V->Oq β):Oq β:=gdE (decide (0<=i)&&decide (i.toNat<s.size)) (k (.c (.int .u8 (s.data.getD i.toNat 0).toNat)))
theorem q1e0 {s:BA} {i:Int} {k:V->Oq β} {r:β} (h:strIxE s i k=some r):(strIx s i).bind k=some r:=by
 unfold strIxE at h;obtain ⟨h0,h⟩:=qm2 h;simp only [x6q,y45q] at h0;unfold strIx;rw [if_pos h0.1];have e:s[i.toNat]?=some (s.data.getD i.toNat 0):=by
  rw [getElem?_pos s i.toNat h0.2];congr 1;have h1:i.toNat<s.data.size:=h0.2
  simp only [Array.getD,h1,dite_true];rfl
 rw [e];exact h
def atE (e:TypeId) (es:List (List C)) (n:Nat) (k:List C->Oq β):Oq β :=
 match shapeT P 5 e with
 |some ks=>forceKs ks λks=>gdE (decide (n<es.length)&&isE ks 0 (es.getD n [])) (k (decE ks 0 (es.getD n [])))
 |none=>none
theorem atE_ok {e:TypeId} {es:List (List C)} {n:Nat} {k:List C->Oq β} {r:β} (h:atE P e es n k=some r):∃ el,es[n]?=some el/\k el=some r:=by
 unfold atE at h;split at h
 ·rw [qld] at h
  obtain ⟨h0,h⟩:=qm2 h;simp only [x6q,y45q] at h0;rw [qat h0.2] at h;refine ⟨_,?_,h⟩;rw [y1q h0.1];simp [y1q h0.1]
 ·cases h
def isStrs:List V->Bool
 |[]=>true
 |.c (.str _)::l=>isStrs l
 |_=>false
def strsE {γ:Type}:List V->(List BA->Oq γ)->Oq γ
 |[],k=>k []
 |.c (.str s)::l,k=>strsE l λl'=>k (s::l')
 |_,_=>none
theorem q1ev {γ:Type}:∀ {cs:List V} {k:List BA->Oq γ} {r:γ},strsE cs k=some r->∃ l,cs=l.map (λs=>V.c (.str s))/\k l=some r
 |[],k,r,h=>⟨[],rfl,h⟩
 |v::cs,k,r,h=>by
  cases v with
  |c x =>
   cases x with
   |str s =>simp only [strsE] at h;obtain ⟨l',h1,h2⟩:=q1ev h;exact ⟨s::l',by rw [h1];rfl,h2⟩
   |_=>simp [strsE] at h
  |_=>simp [strsE] at h
def isInts:List V->Bool
 |[]=>true
 |.c (.int .i64 _)::l=>isInts l
 |_=>false
def intsE {γ:Type}:List V->(List Int->Oq γ)->Oq γ
 |[],k=>k []
 |.c (.int .i64 n)::l,k=>intsE l λl'=>k (n::l')
 |_,_=>none
theorem qpj {γ:Type}:∀ {cs:List V} {k:List Int->Oq γ} {r:γ},intsE cs k=some r->∃ l,cs=l.map (λn=>V.c (.int .i64 n))/\k l=some r
 |[],k,r,h=>⟨[],rfl,h⟩
 |v::cs,k,r,h=>by
  cases v with
  |c x =>
   cases x with
   |int q n =>
    cases q with
    |i64 =>simp only [intsE] at h;obtain ⟨l',h1,h2⟩:=qpj h;exact ⟨n::l',by rw [h1];rfl,h2⟩
    |_=>simp [intsE] at h
   |_=>simp [intsE] at h
  |_=>simp [intsE] at h
def arrE (len:Nat) (e:TypeId) (cs:List V) (i:Int) (k:V->Oq β) (d:Oq β):Oq β:=match isStrs cs,szO P e,aggB P e with
 |true,some 1,some false=>strsE cs λl=>gdE (decide (0<=i)&&decide (i<len)&&decide (i.toNat<l.length)) (k (.c (.str (l.getD i.toNat ByteArray.empty))))
 |false,some 1,some false=>bif isInts cs then (intsE cs λl=>gdE (decide (0<=i)&&decide (i<len)&&decide (i.toNat<l.length)) (k (.c (.int .i64 (l.getD i.toNat 0))))) else d
 |_,_,_=>d
theorem q4b {len:Nat} {e:TypeId} {cs:List V} {i:Int} {k:V->Oq β} {d:Oq β} {r:β} (h:arrE P len e cs i k d=some r):d=some r∨((szO P e).bind λz=>if 0<=i/\i<len then partV P e cs (i.toNat*z) else none).bind k=some r:=by
 unfold arrE at h;split at h
 ·rename_i e1 e2 e3
  right;obtain ⟨l,h1,h2⟩:=q1ev h;obtain ⟨h3,h4⟩:=qm2 h2;simp only [x6q,y45q] at h3;obtain ⟨⟨a1,a2⟩,a3⟩:=h3;rw [e2];simp only [x0q];rw [if_pos ⟨a1,a2⟩];unfold partV;rw [e3,e2];simp only [x0q,x1q,x21q];subst h1;have e4:(l.map λs=>V.c (.str s))[i.toNat*1]?=some (V.c (.str (l.getD i.toNat ByteArray.empty))):=by rw [Nat.mul_one,x14q,y1q a3,x2q,y1q a3];rfl
  rw [e4];exact h4
 ·rename_i e1 e2 e3
  cases hi:isInts cs with
  |false=>rw [hi] at h;exact .inl h
  |true =>
  rw [hi,x22q] at h;right;obtain ⟨l,h1,h2⟩:=qpj h;obtain ⟨h3,h4⟩:=qm2 h2;simp only [x6q,y45q] at h3;obtain ⟨⟨a1,a2⟩,a3⟩:=h3;rw [e2];simp only [x0q];rw [if_pos ⟨a1,a2⟩];unfold partV;rw [e3,e2];simp only [x0q,x1q,x21q];subst h1;have e4:(l.map λn=>V.c (.int .i64 n))[i.toNat*1]?=some (V.c (.int .i64 (l.getD i.toNat 0))):=by rw [Nat.mul_one,x14q,y1q a3,x2q,y1q a3];rfl
  rw [e4];exact h4
 ·exact .inl h
def ev0E (r:Operand->V) (o:Op) (k:V->Oq β):Oq β :=
 match o with
 |.pick c a b=>match r c with|.c (.bool q)=>brE q (k (r a)) (k (r b))|_=>none
 |.binOp op t x y _=>binE P op t (r x) (r y) k
 |.indexAddr t x ix =>
  match P.underlying t,r x,r ix with
  |some (.slice e),.row id n,.c (.int _ i)=>(szO P e).bind λz=>gdE (decide (0<=i)&&decide (i<n)) (k (.rptr id z i.toNat 0))
  |some (.slice e),.c (.sl es),.c (.int _ i)=>(szO P e).bind λz=>gdE (decide (0<=i)) (atE P e es i.toNat λel=>if el.length=z then k (.eptr el 0) else none)
  |some (.array len e),.ptr id off,.c (.int _ i)=>(szO P e).bind λz=>gdE (decide (0<=i)&&decide (i<len)) (k (.ptr id (off+i.toNat*z)))
  |_,_,_=>none
 |.index t x ix =>
  match P.underlying t,r x,r ix with
  |some .string,.c (.str s),.c (.int _ i)=>strIxE s i k
  |some (.array len e),.agg cs,.c (.int _ i)=>arrE P len e cs i k ((ev0 P r (.index t x ix)).bind k)
  |_,_,_=>(ev0 P r (.index t x ix)).bind k
 |.slice t x lo hi none =>
  match P.underlying t,r x with
  |some .string,.c (.str s)=>bndE (hi.map r) s.size s.size λh=>bndE (lo.map r) 0 h λl=>k (.c (.str (s.extract l h)))
  |_,_=>none
 |o=>(ev0 P r o).bind k
theorem qel {r:Operand->V} {o:Op} {k:V->Oq β} {x:β} (h:ev0E P r o k=some x):(ev0 P r o).bind k=some x:=by
 unfold ev0E at h;split at h
 ·split at h
  ·rename_i q e
   simp only [ev0,e];cases q <;> exact h
  ·cases h
 ·exact q7x P h
 ·unfold ev0
  split at h
  ·rename_i e1 e2 e3
   simp only [e1,e2,e3];cases hz:szO P _ with
   |none=>rw [hz] at h;cases h
   |some z =>rw [hz] at h;simp only [x0q] at h ⊢;obtain ⟨h0,h⟩:=qm2 h;simp only [x6q,y45q] at h0;rw [if_pos h0];exact h
  ·rename_i e1 e2 e3
   simp only [e1,e2,e3];cases hz:szO P _ with
   |none=>rw [hz] at h;cases h
   |some z =>
    rw [hz] at h;simp only [x0q] at h ⊢;obtain ⟨h0,h⟩:=qm2 h;simp only [y45q] at h0;rw [if_pos h0];obtain ⟨el,h1,h⟩:=atE_ok P h;rw [h1];simp only [x0q];split at h
    ·rename_i h2
     rw [if_pos h2];exact h
    ·cases h
  ·rename_i e1 e2 e3
   simp only [e1,e2,e3];cases hz:szO P _ with
   |none=>rw [hz] at h;cases h
   |some z =>rw [hz] at h;simp only [x0q] at h ⊢;obtain ⟨h0,h⟩:=qm2 h;simp only [x6q,y45q] at h0;rw [if_pos h0];exact h
  ·cases h
 ·split at h
  ·rename_i e1 e2 e3
   unfold ev0;simp only [e1,e2,e3];exact q1e0 h
  ·rename_i e1 e2 e3
   rcases q4b P h with h|h
   ·exact h
   ·unfold ev0
    simp only [e1,e2,e3];exact h
  ·exact h
 ·split at h
  ·rename_i e1 e2
   unfold ev0;simp only [e1,e2];obtain ⟨u,h1,h⟩:=q84 h;obtain ⟨l,h2,h⟩:=q84 h;rw [h1];simp only [x0q,h2,x18q];exact h
  ·cases h
 ·exact h
end
def isP:List K1->Nat->List C->Bool
 |[],_,_=>true
 |k::ks,i,el=>isK k (el.getD i .ne)&&isP ks (i+1) el
theorem qau:∀ (ks:List K1) (i:Nat) (el:List C),isP ks i el=true->i+ks.length<=el.length->decE ks i el=(el.drop i).take ks.length
 |[],i,el,_,_=>by simp [decE]
 |k::ks,i,el,h,hl=>by
  simp only [isP,x6q] at h;simp only [x9q] at hl;rw [decE,qar h.1,qau ks (i+1) el h.2 (by omega)]
  have hi:i<el.length:=by omega
  rw [List.drop_eq_getElem_cons hi,x9q,List.take_succ_cons];simp [y1q hi]
section
variable (P:Program) {β:Type}
def partE (t:TypeId) (el:List C) (off z:Nat) (k:V->Oq β):Oq β :=
 match shapeT P 5 t,aggB P t with
 |some ks,some b=>forceKs ks λks=>if szO P t=some ks.length/\off+ks.length<=z then gdE (isP ks off el) (match b with|true=>k (.agg ((decE ks off el).map .c))|false=>match decE ks off el with|[x]=>k (.c x)|_=>none) else none
 |_,_=>none
theorem qwt {t:TypeId} {el:List C} {off:Nat} {k:V->Oq β} {r:β} (h:partE P t el off el.length k=some r):(partV P t (el.map .c) off).bind k=some r:=by
 unfold partE at h;split at h
 ·rename_i ks b h1 h2
  rw [qld] at h;split at h
  ·rename_i h3
   obtain ⟨h0,h⟩:=qm2 h;rw [qau ks off el h0 h3.2] at h;unfold partV;rw [h2,h3.1];simp only [x0q];cases b with
   |true =>simp only [x20q,y36q,if_pos h3.2,x0q];rw [←List.map_drop,←List.map_take];exact h
   |false =>
    simp only at h;split at h
    ·rename_i x hx
     have hn:ks.length=1∨ks.length≠1:=by omega
     have hl:((el.drop off).take ks.length).length=1:=by rw [hx];rfl
     simp only [y48q,y35q] at hl;have ho:off<el.length:=by omega
     have e:el[off]?=some x:=by
      rw [List.drop_eq_getElem_cons ho] at hx;have hk:ks.length=(ks.length - 1)+1:=by omega
      rw [hk,List.take_succ_cons] at hx;injection hx with hx _
      rw [y1q ho,hx]
     simp only [x1q,x21q,x14q,e,x18q,x0q];exact h
    ·cases h
  ·cases h
 ·cases h
def loadE (h:Nat->Oq B) (t:TypeId) (a:V) (k:V->Oq β):Oq β :=
 match a with
 |.rptr id z i off=>match h id with
  |some (.row es)=>gdE (decide (i<es.length)&&(es.getD i []).length==z) (partE P t (es.getD i []) off z k)
  |some (.tab es q v)=>if z=1/\off=0 then gdE (decide (i<es.length)) (brE (i==q) ((partV P t [v] 0).bind k) (gdE ((es.getD i []).length==1) (partE P t (es.getD i []) 0 1 k))) else none
  |_=>none
 |a=>(loadV P h t a).bind k
theorem qm3 {α:Type} {l:List α} {n:Nat} {d:α} (h:n<l.length):l[n]?=some (l.getD n d):=by rw [y1q h];simp [y1q h]
theorem qs1 {h:Nat->Oq B} {t:TypeId} {a:V} {k:V->Oq β} {r:β} (hh:loadE P h t a k=some r):(loadV P h t a).bind k=some r:=by
 unfold loadE at hh;split at hh
 ·rename_i id z i off
  split at hh
  ·rename_i e
   obtain ⟨h0,hh⟩:=qm2 hh;simp only [x6q,y45q,beq_iff_eq] at h0;simp only [loadV,e,qm3 (d:=[]) h0.1,y15q,if_pos h0.2];rw [←h0.2] at hh;exact qwt P hh
  ·rename_i es q v e
   split at hh
   case isFalse=>cases hh
   rename_i hz;obtain ⟨rfl,rfl⟩:=hz;obtain ⟨h0,hh⟩:=qm2 hh;simp only [y45q] at h0;simp only [loadV,e,qm3 (d:=[]) h0,y15q,and_self,if_true];by_cases hq':i=q
   ·have:(i==q)=true:=by simpa using hq'
    simp only [this,brE] at hh;simp only [hq',x20q];exact hh
   ·have:(i==q)=false:=by simpa using hq'
    simp only [this,brE] at hh;obtain ⟨h1,hh⟩:=qm2 hh;simp only [beq_iff_eq] at h1;simp only [hq',x21q,h1,x20q];rw [←h1] at hh;exact qwt P hh
  ·cases hh
 ·exact hh
def forceEs (l:List (List C)) (k:List (List C)->Oq β):Oq β:=match l with
 |[]=>k []
 |x::l=>forceCs x λx=>forceEs l λl=>k (x::l)
theorem qla:∀ (l:List (List C)) (k:List (List C)->Oq β),forceEs l k=k l
 |[],_=>rfl
 |x::l,k=>by rw [forceEs,ql9,qla]
def forceRw (l:List B) (k:List B->Oq β):Oq β:=match l with
 |[.row es]=>forceEs es λes=>k [.row es]
 |l=>k l
theorem qlj (l:List B) (k:List B->Oq β):forceRw l k=k l:=by
 unfold forceRw;split
 ·rw [qla]
 ·rfl
def bytesL (s:BA):List (List C):=s.data.toList.map λb=>[byteC b]
def convE (h:Nat->Oq B) (r:Operand->V) (base:Nat) (src dst:TypeId) (x:Operand) (k:V×List B×List Nat->Oq β):Oq β :=
 match P.underlying src,P.underlying dst with
 |some .string,some (.slice e)=>match P.underlying e,r x with
  |some (.int .u8),.c (.str s)=>if szO P e=some 1 then gdE (decide (s.size<=9223372036854775807)&&!(s.size==0)) (k (.row base s.size,[.row (bytesL s)],[])) else none
  |_,_=>none
 |some (.slice e),some .string=>match P.underlying e with
  |some (.int .u8)=>(frzC h (r x)).bind λy=>match y.1 with
   |.sl es=>(bytesOf es).bind λl=>k (.c (.str ⟨l.toArray⟩),[],[])
   |_=>none
  |_=>none
 |_,_=>none
theorem qa9 {call:FuncId->List V->Oq (V×List B)} {h:Nat->Oq B} {r:Operand->V} {base:Nat} {src dst:TypeId} {x:Operand} {k:V×List B×List Nat->Oq β} {q:β} (hh:convE P h r base src dst x k=some q):(ev1 P call h r base (.convert src dst x)).bind k=some q:=by
 unfold convE at hh;unfold ev1;split at hh
 ·rename_i e h1 h2
  split at hh
  ·rename_i s h3 h4
   split at hh
   case isFalse=>cases hh
   rename_i h5;obtain ⟨h6,hh⟩:=qm2 hh;simp only [x6q,y45q,Bool.not_eq_true',beq_eq_false_iff_ne,ne_eq] at h6;simp only [h1,h2,h3,h4,h5,h6.1,h6.2,and_self,x20q,x21q,x0q];exact hh
  ·cases hh
 ·rename_i e h1 h2
  split at hh
  ·rename_i h3
   simp only [h1,h2,h3];cases hf:frzC h (r x) with
   |none=>rw [hf] at hh;cases hh
   |some y =>
    rw [hf] at hh;simp only [x0q] at hh ⊢;split at hh
    ·rename_i es h4
     cases hb:bytesOf es with
     |none=>rw [hb] at hh;cases hh
     |some l=>rw [hb] at hh;simp only [x0q] at hh;simp only [h4,hb,x18q,x0q];exact hh
    ·cases hh
  ·cases hh
 ·cases hh
def ev1E (callE:FuncId->List V->(V×List B->Oq β)->Oq β) (h:Nat->Oq B) (r:Operand->V) (base:Nat) (o:Op) (k:V×List B×List Nat->Oq β):Oq β :=
 match o with
 |.load t a=>loadE P h t (r a) λv=>k (v,[],[])
 |.makeSlice t l c =>
  match P.underlying t,r l,r c with
  |some (.slice e),.c (.int _ n),.c (.int _ m)=>(P.info? e).bind λi=>gdE (decide (n=m)&&decide (0<=n)&&decide (n*i.bytes<=140737488355328)&&decide (n<=9223372036854775807)) (if 0<i.size then
    (zeroV P e).bind λz=>z.cells.bind λzc=>(frzL h zc).bind λz'=>if z'.1.length=i.size/\z'.2=[] then forceCs z'.1 λzl=>k (.row base n.toNat,[mkB P e i.size n.toNat (List.replicate n.toNat zl)],[]) else none
   else none)
  |_,_,_=>none
 |.slice t x lo hi mx =>
  match P.underlying t with
  |some (.slice e)=>(frzC h (r x)).bind λy=>match y.1 with
   |.sl es=>(szO P e).bind λz=>bndE (mx.map r) es.length es.length λm=>bndE (hi.map r) es.length m λu=>bndE (lo.map r) 0 u λl =>
     match mx with
     |none=>gdE (es.all (λel=>el.length==z)) (k (.c (.sl ((es.drop l).take (u - l))),[],y.2))
     |some _=>if hi.isNone then none else brE (l==m) (k (.c .zs,[],[])) (gdE (es.all (λel=>el.length==z)) (k (.c (.sl ((es.drop l).take (u - l))),[],y.2)))
   |_=>none
  |_=>none
 |.call { callee:=.value f,args,.. } =>
  match r f with
  |.fn g caps=>(bodyOf P (cFn g)).bind λ_=>(frzAs h (args.toList.map r)).bind λx=>(frzPs h caps).bind λy =>
    callE (cFn g) (cAr g x.1 y.1) λz=>if z.2.length<=8 then k (z.1.ren (λi=>base+i),z.2,bif lendB z then [] else x.2++y.2) else none
  |_=>none
 |.convert src dst x=>convE P h r base src dst x k
 |.buildSlice t len parts=>(ev1 P (λ_ _=>none) h r base (.buildSlice t len parts)).bind λx=>forceRw x.2.1 λbs=>k (x.1,bs,x.2.2)
 |.call { callee:=.builtin .append,args,argTypes } =>
  match argTypes.toList,args.toList with
  |[t,t'],[s,x]=>match P.underlying t,P.underlying t',r s with
   |some (.slice e),some (.slice _),.c .zs=>(P.info? e).bind λi=>if 0<i.size/\i.zero.map (λz=>z.cells.size)=some i.size then
     (frzC h (r x)).bind λy=>match y.1 with
     |.sl xs=>gdE (xs.all (λel=>el.length==i.size)&&decide ((xs.length+xs.length / 4+192)*i.bytes<=281474976710656)&&decide (xs.length<=9223372036854775807)) (k (.row base xs.length,[.row xs],y.2))
     |_=>none
    else none
   |_,_,_=>none
  |_,_=>none
 |o=>(ev1 P (λ_ _=>none) h r base o).bind k
theorem qeo {call:FuncId->List V->Oq (V×List B)} {callE:FuncId->List V->(V×List B->Oq β)->Oq β} (hc:∀ f a k r,callE f a k=some r->(call f a).bind k=some r)
  {h:Nat->Oq B} {r:Operand->V} {base:Nat} {o:Op} {k:V×List B×List Nat->Oq β} {x:β} (hh:ev1E P callE h r base o k=some x):(ev1 P call h r base o).bind k=some x:=by
 unfold ev1E at hh;split at hh
 ·have:=qs1 P hh
  simp only [ev1];cases e:loadV P h _ (r _) with
  |none=>rw [e] at this;cases this
  |some v=>rw [e] at this;exact this
 ·unfold ev1
  split at hh
  ·rename_i e1 e2 e3
   simp only [e1,e2,e3];cases hz:P.info? _ with
   |none=>rw [hz] at hh;cases hh
   |some i =>
    rw [hz] at hh;simp only [x0q] at hh ⊢;obtain ⟨h0,hh⟩:=qm2 hh;simp only [x6q,y45q] at h0;split at hh
    ·rename_i h1
     rw [if_pos ⟨h0.1.1.1,h0.1.1.2,h0.1.2,h0.2,h1⟩];cases a1:zeroV P _ with
     |none=>rw [a1] at hh;cases hh
     |some z =>
      rw [a1] at hh;simp only [x0q] at hh ⊢;cases a2:z.cells with
      |none=>rw [a2] at hh;cases hh
      |some zc =>
       rw [a2] at hh;simp only [x0q] at hh ⊢;cases a3:frzL h zc with
       |none=>rw [a3] at hh;cases hh
       |some z' =>
        rw [a3] at hh;simp only [x0q] at hh ⊢;split at hh
        ·rename_i h2
         rw [if_pos h2];rw [ql9] at hh;exact hh
        ·cases hh
    ·cases hh
  ·cases hh
 ·unfold ev1
  split at hh
  ·rename_i e1
   simp only [e1];cases a1:frzC h (r _) with
   |none=>rw [a1] at hh;cases hh
   |some y =>
    rw [a1] at hh;simp only [x0q] at hh ⊢;split at hh
    ·rename_i es e2
     simp only [e2];cases hz:szO P _ with
     |none=>rw [hz] at hh;cases hh
     |some z =>
      rw [hz] at hh;simp only [x0q] at hh ⊢;obtain ⟨m,b1,hh⟩:=q84 hh;obtain ⟨u,b2,hh⟩:=q84 hh;obtain ⟨l,b3,hh⟩:=q84 hh;simp only [b1,b2,b3,x0q];split at hh
      ·obtain ⟨h0,hh⟩:=qm2 hh
       simp only [Option.isSome_none,x1q,false_and,x21q,h0,x20q];exact hh
      ·split at hh
       ·cases hh
       ·rename_i hn
        simp only [Option.isSome_some,true_and,hn];by_cases hl:l=m
        ·simp only [hl,x19q,brE,x20q] at hh ⊢
         exact hh
        ·have:(l==m)=false:=by simpa using hl
         simp only [this,brE] at hh;obtain ⟨h0,hh⟩:=qm2 hh;simp only [hl,x21q,h0,x20q];exact hh
    ·cases hh
  ·cases hh
 ·unfold ev1
  split at hh
  ·rename_i e1
   simp only [e1];cases a1:bodyOf P _ with
   |none=>rw [a1] at hh;cases hh
   |some z =>
    rw [a1] at hh;simp only [x0q] at hh ⊢;cases a2:frzAs h _ with
    |none=>rw [a2] at hh;cases hh
    |some x1 =>
     rw [a2] at hh;simp only [x0q] at hh ⊢;cases a3:frzPs h _ with
     |none=>rw [a3] at hh;cases hh
     |some y1 =>
      rw [a3] at hh;simp only [x0q] at hh ⊢;have hh:=hc _ _ _ _ hh
      cases a4:call _ (cAr _ x1.1 y1.1) with
      |none=>rw [a4] at hh;cases hh
      |some z1 =>
       rw [a4] at hh;simp only [x0q] at hh ⊢;split at hh
       ·rename_i h2
        rw [if_pos h2];exact hh
       ·cases hh
  ·cases hh
 ·exact qa9 P hh
 ·simp only [qlj] at hh
  exact hh
 ·unfold ev1
  split at hh
  ·rename_i e1 e2
   simp only [e1,e2];split at hh
   ·rename_i e3 e4 e5
    simp only [e3,e4,e5];cases hz:P.info? _ with
    |none=>rw [hz] at hh;cases hh
    |some i =>
     rw [hz] at hh;simp only [x0q] at hh ⊢;split at hh
     case isFalse=>cases hh
     rename_i h1;rw [if_pos h1];cases a1:frzC h (r _) with
     |none=>rw [a1] at hh;cases hh
     |some y =>
      rw [a1] at hh;simp only [x0q] at hh ⊢;split at hh
      ·rename_i xs e6
       simp only [e6];obtain ⟨h0,hh⟩:=qm2 hh;simp only [x6q,y45q] at h0;rw [if_pos ⟨h0.1.1,h0.1.2,h0.2⟩];exact hh
      ·cases hh
   ·cases hh
  ·cases hh
 ·rename_i hn1 hn2 hn3 hn4 hn5 hn6 hn7
  have e:ev1 P (λ_ _=>none) h r base o=ev1 P call h r base o:=by
   unfold ev1;split <;> first|rfl|skip
   rename_i f args _ _;exact (hn4 _ _ _ rfl).elim
  rw [e] at hh;exact hh
def convB (r:Operand->V) (base:Nat) (src dst:TypeId) (x:Operand) (k:V×List B×List Nat->Oq β):Oq β :=
 match P.underlying src,P.underlying dst with
 |some .string,some (.slice e)=>match P.underlying e,r x with
  |some (.int .u8),.c (.str s)=>if szO P e=some 1 then gdE (decide (s.size<=9223372036854775807)) (brE (s.size==0) (k (.c (.sl []),[],[])) (k (.row base s.size,[.row (bytesL s)],[]))) else none
  |_,_=>none
 |_,_=>none
theorem qa8 {call:FuncId->List V->Oq (V×List B)} {h:Nat->Oq B} {r:Operand->V} {base:Nat} {src dst:TypeId} {x:Operand} {k:V×List B×List Nat->Oq β} {q:β} (hh:convB P r base src dst x k=some q):(ev1 P call h r base (.convert src dst x)).bind k=some q:=by
 unfold convB at hh;unfold ev1;split at hh
 ·rename_i e h1 h2
  split at hh
  ·rename_i s h3 h4
   split at hh
   case isFalse=>cases hh
   rename_i h5;obtain ⟨h6,hh⟩:=qm2 hh;simp only [y45q] at h6;by_cases h7:s.size=0
   ·have h8:(s.size==0)=true:=by simpa using h7
    rw [h8] at hh;simp only [brE] at hh;simp only [h1,h2,h3,h4,h5,h7,and_self,Nat.zero_le,x20q,x0q];exact hh
   ·have h8:(s.size==0)=false:=by simpa using h7
    rw [h8] at hh;simp only [brE] at hh;simp only [h1,h2,h3,h4,h5,h6,h7,and_self,x20q,x21q,x0q];exact hh
  ·cases hh
 ·cases hh
def ev1Q (q:Bool) (callE:FuncId->List V->(V×List B->Oq β)->Oq β) (h:Nat->Oq B) (r:Operand->V) (base:Nat) (o:Op) (k:V×List B×List Nat->Oq β):Oq β :=
 match q,o with
 |true,.convert src dst x=>match P.underlying src with
  |some .string=>convB P r base src dst x k
  |_=>convE P h r base src dst x k
 |_,o=>ev1E P callE h r base o k
theorem qep {q:Bool} {call:FuncId->List V->Oq (V×List B)} {callE:FuncId->List V->(V×List B->Oq β)->Oq β} (hc:∀ f a k r,callE f a k=some r->(call f a).bind k=some r)
  {h:Nat->Oq B} {r:Operand->V} {base:Nat} {o:Op} {k:V×List B×List Nat->Oq β} {x:β} (hh:ev1Q P q callE h r base o k=some x):(ev1 P call h r base o).bind k=some x:=by
 unfold ev1Q at hh;split at hh
 ·split at hh
  ·exact qa8 P hh
  ·exact qa9 P hh
 ·exact qeo P hc hh
end
end Go.Proofs.YtmlcmoaonaomfaaGreatDoor
