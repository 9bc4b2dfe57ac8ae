/- The machine without fuel. -/
import Derived.Test.YtfakibajjibjjaaGreatDoorDSound
namespace Go.Proofs.YtfakibajjibjjaaGreatDoor
open Go.RowKit
section
variable {P:Program} {cn:Nat→FuncId→List V→Option (V×List B)} {c0:FuncId→List V→Option (V×List B)}
def Ult {α:Type} (x:Nat→Option α) (r:α):Prop:=∃ N,∀ n,N≤n→x n=some r
theorem Ult.const {α:Type} {x:Option α} {r:α} (h:x=some r):Ult (fun _=>x) r:=⟨0,fun _ _=>h⟩
theorem Ult.bind {α β:Type} {x:Nat→Option α} {f:Nat→α→Option β} {a:α} {b:β} (h1:Ult x a) (h2:Ult (fun n=>f n a) b):Ult (fun n=>(x n).bind (f n)) b:=by
 obtain ⟨N,h1⟩:=h1
 obtain ⟨M,h2⟩:=h2
 exact ⟨max N M,fun n hn=>by simp only [h1 n (by omega),Option.bind_some];exact h2 n (by omega)⟩
theorem Ult.map {α β:Type} {x:Nat→Option α} {f:α→β} {a:α} (h1:Ult x a):Ult (fun n=>(x n).map f) (f a):=by
 obtain ⟨N,h1⟩:=h1
 exact ⟨N,fun n hn=>by simp only [h1 n hn,Option.map_some]⟩
theorem qe8 (hc:∀ f args r,c0 f args=some r→Ult (fun n=>cn n f args) r) {hv:Nat→Option B} {r:Operand→V} {base:Nat} {o:Op} {x:V×List B×List Nat} (h:ev1 P c0 hv r base o=some x):Ult (fun n=>ev1 P (cn n) hv r base o) x:=by
 unfold ev1 at h
 split at h
 case h_9 f args ats =>
  split at h
  ·rename_i g caps hf
   cases hb:bodyOf P (cFn g) with
   |none=>rw [hb] at h;cases h
   |some fn =>
    rw [hb] at h
    simp only [Option.bind_some] at h
    cases hx:frzAs hv (args.toList.map r) with
    |none=>rw [hx] at h;cases h
    |some x' =>
     rw [hx] at h
     simp only [Option.bind_some] at h
     cases hy:frzPs hv caps with
     |none=>rw [hy] at h;cases h
     |some y =>
      rw [hy] at h
      simp only [Option.bind_some] at h
      cases hz:c0 (cFn g) (cAr g x'.1 y.1) with
      |none=>rw [hz] at h;cases h
      |some z =>
       rw [hz] at h
       simp only [Option.bind_some] at h
       obtain ⟨N,hN⟩:=hc (cFn g) _ z hz
       refine ⟨N,fun n hn=>?_⟩
       simp only [ev1,hf,hb,hx,hy,hN n hn,Option.bind_some]
       exact h
  ·cases h
 all_goals first
  |(exact Ult.const h)
  |(cases h;done)
def KApp (k0:FuncId→Option (List V→St→Option (V×St))) (kn:Nat→FuncId→Option (List V→St→Option (V×St))):Prop :=
 ∀ f,(k0 f=none∧∀ n,kn n f=none)∨∃ (g:List V→St→Option (V×St)) (gn:Nat→List V→St→Option (V×St)),k0 f=some g∧(∀ n,kn n f=some (gn n))∧∀ args s r,g args s=some r→Ult (fun n=>gn n args s) r
theorem qma {k0:FuncId→Option (List V→St→Option (V×St))} {kn:Nat→FuncId→Option (List V→St→Option (V×St))} (hk:KApp k0 kn) (r:Operand→V) (o:Op) :
  (ioOf P k0 r o=none∧∀ n,ioOf P (kn n) r o=none)∨∃ (f:FuncId) (g:List V→St→Option (V×St)) (gn:Nat→List V→St→Option (V×St)) (args:List V),ioOf P k0 r o=some (f,g,args)∧(∀ n,ioOf P (kn n) r o=some (f,gn n,args))∧∀ args s r,g args s=some r→Ult (fun n=>gn n args s) r:=by
 by_cases h:∃ f args ats,o=.call { callee:=.value f,args:=args,argTypes:=ats }
 ·obtain ⟨f,args,ats,rfl⟩:=h
  simp only [ioOf]
  split
  ·rename_i g caps _
   cases bodyOf P (cFn g) with
   |none=>exact .inl ⟨rfl,fun _=>rfl⟩
   |some fn =>
    simp only [Option.bind_some]
    rcases hk (cFn g) with ⟨h1,h2⟩|⟨g',gn,h1,h2,h3⟩
    ·exact .inl ⟨by rw [h1];rfl,fun n=>by rw [h2 n];rfl⟩
    ·exact .inr ⟨cFn g,g',gn,_,by rw [h1];rfl,fun n=>by rw [h2 n];rfl,h3⟩
  ·exact .inl ⟨rfl,fun _=>rfl⟩
 ·refine .inl ⟨?_,fun n=>?_⟩ <;> · unfold ioOf;split;(exact absurd ⟨_,_,_,rfl⟩ h);rfl
theorem qk3 {g:List V→St→Option (V×St)} {gn:Nat→List V→St→Option (V×St)} (h3:∀ args s r,g args s=some r→Ult (fun n=>gn n args s) r) {args:List V} {N:Nat} {lv:List Nat} {base:Nat} {s:St} {y:V×(Nat→Option B)×(Nat→Bool)} (h:heapD g args N lv base s=some y):Ult (fun n=>heapD (gn n) args N lv base s) y:=by
 unfold heapD at h ⊢
 cases hg:g args { t:=fun _=>.any,h:=onlyB (reach s.h args) s.h,sh:=s.sh,nx:=N,lr:=fun _=>[],lw:=fun _=>[],og:=ogK (reach s.h args) lv s } with
 |none=>rw [hg] at h;cases h
 |some x =>
  rw [hg] at h
  simp only [Option.bind_some] at h
  exact (h3 _ _ _ hg).bind (Ult.const h)
theorem KApp.no:KApp (fun _=>none) (fun _ _=>none):=fun _=>.inl ⟨rfl,fun _=>rfl⟩
section
variable {k0:FuncId→Option (List V→St→Option (V×St))} {kn:Nat→FuncId→Option (List V→St→Option (V×St))} {io:FuncId→Bool} {lvf:Nat→List Nat} {N:Nat}
theorem qth (hc:∀ f args r,c0 f args=some r→Ult (fun n=>cn n f args) r) (hk:KApp k0 kn) {nt:Nat} {ops:Array Oper} {hv:Nat→Option B} {base:Nat} {o:Oper} {s s':St} (h:opD P ⟨c0,io,k0,lvf,N⟩ nt ops hv base o s=some s'):Ult (fun n=>opD P ⟨cn n,io,kn n,lvf,N⟩ nt ops hv base o s) s':=by
 unfold opD at h ⊢
 split at h
 case isFalse=>cases h
 rename_i hd
 simp only [hd,if_true]
 cases hw:wantedV ops s.t o with
 |none=>rw [hw] at h;cases h
 |some b =>
  rw [hw] at h
  simp only [Option.bind_some] at h ⊢
  cases b with
  |false=>exact Ult.const h
  |true =>
   simp only [if_true] at h ⊢
   generalize kindB P io ops o.op=kk at h ⊢
   rcases kk with _|_|kk
   ·exact Ult.const h
   ·simp only [Nat.zero_add] at h ⊢
    cases he:ev1 P c0 hv (rho s.t) base o.op with
    |none=>rw [he] at h;cases h
    |some x =>
     rw [he] at h
     simp only [Option.bind_some] at h
     exact (qe8 hc he).bind (Ult.const h)
   ·simp only [ev2H] at h ⊢
    cases hio:isIo io o.op with
    |false =>
     simp only [hio,cond_false] at h ⊢
     exact Ult.const h
    |true =>
     simp only [hio,cond_true] at h ⊢
     rcases qma (P:=P) hk (rho s.t) o.op with ⟨h1,h2⟩|⟨f,g,gn,args,h1,h2,h3⟩
     ·rw [h1] at h;cases h
     ·simp only [h1,h2,Option.bind_some] at h ⊢
      cases hy:heapD g args N (lvf base) base s with
      |none=>rw [hy] at h;cases h
      |some y =>
       rw [hy] at h
       injection h with h;subst h
       exact (qk3 h3 hy).map
theorem q10m (hc:∀ f args r,c0 f args=some r→Ult (fun n=>cn n f args) r) (hk:KApp k0 kn) {nt:Nat} {ops:Array Oper} {an:Nat→Nat} {rb j:Nat} {o:Oper} {s s':St} (h:stepD P ⟨c0,io,k0,lvf,N⟩ nt ops an rb j o s=some s'):Ult (fun n=>stepD P ⟨cn n,io,kn n,lvf,N⟩ nt ops an rb j o s) s':=by
 unfold stepD at h ⊢
 split at h
 case isFalse=>cases h
 rename_i hd
 simp only [hd,if_true]
 cases he:opD P ⟨c0,io,k0,lvf,N⟩ nt ops (visB s.h rb (an j)) (rb+8*j) o s with
 |none=>rw [he] at h;cases h
 |some s1 =>
  rw [he] at h
  injection h with h;subst h
  exact (qth hc hk he).map
theorem qvs (hc:∀ f args r,c0 f args=some r→Ult (fun n=>cn n f args) r) (hk:KApp k0 kn) {nt:Nat} {ops:Array Oper} {an:Nat→Nat} {rb:Nat}:∀ (l:List Nat) {s s':St},runD P ⟨c0,io,k0,lvf,N⟩ nt ops an rb l s=some s'→Ult (fun n=>runD P ⟨cn n,io,kn n,lvf,N⟩ nt ops an rb l s) s'
 |[],s,s',h=>Ult.const h
 |j::l,s,s',h=>by
  simp only [runD] at h ⊢
  cases ho:ops[j]? with
  |none=>rw [ho] at h;cases h
  |some o =>
   rw [ho] at h
   simp only [Option.bind_some] at h ⊢
   cases hs:stepD P ⟨c0,io,k0,lvf,N⟩ nt ops an rb j o s with
   |none=>rw [hs] at h;cases h
   |some s1 =>
    rw [hs] at h
    exact (q10m hc hk hs).bind (qvs hc hk l h)
end
theorem qw0 (hc:∀ f args r,c0 f args=some r→Ult (fun n=>cn n f args) r) {k0:FuncId→Option (List V→St→Option (V×St))} {kn:Nat→FuncId→Option (List V→St→Option (V×St))} (hk:KApp k0 kn) {lv:Nat→List Nat} {nt:Nat} {ops:Array Oper}:∀ (l:List Oper) {jj base:Nat} {s s':St},runN P c0 k0 lv nt ops l jj base s=some s'→Ult (fun n=>runN P (cn n) (kn n) lv nt ops l jj base s) s'
 |[],_,_,s,s',h=>Ult.const h
 |o::l,jj,base,s,s',h=>by
  rcases qma (P:=P) hk (rho s.t) o.op with ⟨h1,h2⟩|⟨f,g,gn,args,h1,h2,h3⟩
  ·simp only [runN,h1,h2] at h ⊢
   cases hs:opD P (hp0 c0) nt ops s.h base o s with
   |none=>rw [hs] at h;cases h
   |some s1 =>
    rw [hs] at h
    exact (qth hc KApp.no hs).bind (qw0 hc hk l h)
  ·simp only [runN,h1,h2] at h ⊢
   split at h
   case isFalse=>cases h
   rename_i hd
   simp only [hd,if_true]
   cases hw:wantedV ops s.t o with
   |none=>rw [hw] at h;cases h
   |some b =>
    rw [hw] at h
    simp only [Option.bind_some] at h ⊢
    cases b with
    |false=>exact qw0 hc hk l h
    |true =>
     simp only [if_true] at h ⊢
     cases hy:heapD g args base (lv jj) base s with
     |none=>rw [hy] at h;cases h
     |some y =>
      rw [hy] at h
      simp only [Option.bind_some] at h
      exact (qk3 h3 hy).bind (qw0 hc hk l h)
theorem q10e {c0:CT} {cn:Nat→CT} (hc:∀ f args r,c0.call f args=some r→Ult (fun n=>(cn n).call f args) r) (hk:KApp c0.ch (fun n=>(cn n).ch)) (hio:∀ n,(cn n).io=c0.io) {live:Nat→List Nat} {nt:Nat} {an:Nat→Code→St→Option (Nat×St)} {a0:Code→St→Option (Nat×St)} (ha:∀ c s r,a0 c s=some r→Ult (fun n=>an n c s) r) :
  ∀ (c:Code) (s:St) (r:Nat×St),stepC P live c0 nt a0 c s=some r→Ult (fun n=>stepC P live (cn n) nt (an n) c s) r:=by
 intro c
 induction c with
 |region id ops draw =>
  intro s r h
  cases draw with
  |false =>
   simp only [stepC] at h ⊢
   cases hr:runN P c0.call c0.ch (fun j=>live (3000000+1000*id+j)) nt ops ops.toList 0 s.nx s with
   |none=>rw [hr] at h;cases h
   |some s' =>
    rw [hr] at h
    injection h with h;subst h
    exact (qw0 hc hk _ hr).map
  |true =>
   simp only [stepC] at h ⊢
   split at h
   ·rename_i hd
    simp only [hio,hd,if_true]
    cases hr:runD P ⟨c0.call,ioR live id c0.io,c0.ch,lvD (ioR live id c0.io) (fun j=>live (3000000+1000*id+j)) ops s.nx,s.nx+8*ops.size⟩ nt ops (anOf ops) s.nx (List.range ops.size) { s with lr:=fun _=>[],lw:=fun _=>[] } with
    |none=>rw [hr] at h;cases h
    |some s' =>
     rw [hr] at h
     injection h with h;subst h
     exact (qvs hc hk _ hr).map
   ·cases h
 |seq x y ihx ihy =>
  intro s r h
  simp only [stepC] at h ⊢
  cases hx:stepC P live c0 nt a0 x s with
  |none=>rw [hx] at h;cases h
  |some r1 =>
   rw [hx] at h
   simp only [Option.bind_some] at h
   refine (ihx s r1 hx).bind ?_
   split at h
   ·rename_i h0;simp only [h0,if_true];exact ihy _ r h
   ·rename_i h0;simp only [h0,if_false];exact Ult.const h
 |cond c x y ihx ihy =>
  intro s r h
  simp only [stepC] at h ⊢
  split at h
  ·rename_i q hq
   cases q with
   |true=>simp only [if_true] at h ⊢;exact ihx s r h
   |false=>simp only [Bool.false_eq_true,if_false] at h ⊢;exact ihy s r h
  ·cases h
 |block id c ih =>
  intro s r h
  simp only [stepC] at h ⊢
  cases hx:stepC P live c0 nt a0 c s with
  |none=>rw [hx] at h;cases h
  |some r1 =>
   rw [hx] at h
   injection h with h;subst h
   exact (ih s r1 hx).map
 |loop c ih =>
  intro s r h
  simp only [stepC] at h ⊢
  cases hx:stepC P live c0 nt a0 c (canon (((fstRegion c).map fun id=>live (2*id)).getD []) (shareS (shq live c) s)) with
  |none=>rw [hx] at h;cases h
  |some r1 =>
   rw [hx] at h
   simp only [Option.bind_some] at h
   refine (ih _ r1 hx).bind ?_
   split at h
   ·rename_i h0;simp only [h0,if_true];exact ha _ _ _ h
   ·rename_i h0;simp only [h0,if_false];exact Ult.const h
 |_=>intro s r h;exact Ult.const h
theorem q7z {fz:FuncId→Bool} {X:FuncId→List V→Option (V×List B)} {en:Nat→FuncId→Nat→Code→St→Option (Nat×St)} {e0:FuncId→Nat→Code→St→Option (Nat×St)} (he:∀ f nt c s r,e0 f nt c s=some r→Ult (fun n=>en n f nt c s) r) {f:FuncId} {args:List V} {r:V×List B} (h:callD P fz X e0 f args=some r):Ult (fun n=>callD P fz X (en n) f args) r:=by
 unfold callD at h ⊢
 split at h
 ·exact Ult.const h
 ·cases hb:bodyOf P f with
  |none=>rw [hb] at h;cases h
  |some fn =>
   rw [hb] at h
   simp only [Option.bind_some] at h ⊢
   split at h
   case isFalse=>cases h
   rename_i hnt
   simp only [hnt,if_true]
   cases hc:fn.body with
   |none=>rw [hc] at h;cases h
   |some c =>
    rw [hc] at h
    simp only [Option.bind_some] at h ⊢
    cases hx:e0 f fn.ntmps c { t:=fun i=>args.getD i .any,h:=fun _=>none,sh:=fun _=>false,nx:=0,lr:=fun _=>[],lw:=fun _=>[],og:=[] } with
    |none=>rw [hx] at h;cases h
    |some x =>
     rw [hx] at h
     exact (he _ _ _ _ _ hx).bind (Ult.const h)
theorem qvx {fz:FuncId→Bool} {en:Nat→FuncId→Nat→Code→St→Option (Nat×St)} {e0:FuncId→Nat→Code→St→Option (Nat×St)} (he:∀ f nt c s r,e0 f nt c s=some r→Ult (fun n=>en n f nt c s) r) {f:FuncId} {args:List V} {s:St} {r:V×St} (h:runH P fz e0 f args s=some r):Ult (fun n=>runH P fz (en n) f args s) r:=by
 unfold runH at h ⊢
 cases hb:bodyOf P f with
 |none=>simp only [hb] at h;cases h
 |some fn =>
  simp only [hb,Option.bind_some] at h ⊢
  split at h
  case isFalse=>cases h
  rename_i hnt
  simp only [hnt,if_true]
  cases hc:fn.body with
  |none=>rw [hc] at h;cases h
  |some c =>
   rw [hc] at h
   simp only [Option.bind_some] at h ⊢
   cases hx:e0 f fn.ntmps c (canon (List.range args.length) { t:=fun i=>args.getD i .any,h:=s.h,sh:=s.sh,nx:=s.nx,lr:=fun _=>[],lw:=fun _=>[],og:=s.og }) with
   |none=>rw [hx] at h;cases h
   |some x =>
    rw [hx] at h
    exact (he _ _ _ _ _ hx).bind (Ult.const h)
theorem qew {en:Nat→Code→St→Option (Nat×St)} {e0:Code→St→Option (Nat×St)} (he:∀ c s r,e0 c s=some r→Ult (fun n=>en n c s) r):∀ (l:List Code) {s:St} {r:Nat×St},exL e0 l s=some r→Ult (fun n=>exL (en n) l s) r
 |[],_,_,h=>Ult.const h
 |a::l,s,r,h=>by
  simp only [exL] at h ⊢
  cases hx:e0 a s with
  |none=>rw [hx] at h;cases h
  |some x =>
   rw [hx] at h
   simp only [Option.bind_some] at h
   split at h
   case isFalse=>cases h
   rename_i h0
   refine (he a s x hx).bind ?_
   simp only [h0,if_true]
   exact qew he l h
theorem qdx {g:List V→St→Option (V×St)} {gn:Nat→List V→St→Option (V×St)} (h3:∀ args s r,g args s=some r→Ult (fun n=>gn n args s) r) {lv:List Nat} {s s':St} (h:endD g lv s=some s'):Ult (fun n=>endD (gn n) lv s) s':=by
 unfold endD at h ⊢
 cases hl:lastN s.og with
 |none=>rw [hl] at h;cases h
 |some id =>
  rw [hl] at h
  simp only [Option.bind_some] at h ⊢
  cases hy:heapD g [.ptr id 0] s.nx lv s.nx { s with og:=s.og.dropLast } with
  |none=>rw [hy] at h;cases h
  |some y =>
   rw [hy] at h
   simp only [Option.map_some,Option.some.injEq] at h
   subst h
   exact (qk3 h3 hy).map
theorem qvv {fz:FuncId→Bool} {en:Nat→FuncId→Nat→Code→St→Option (Nat×St)} {e0:FuncId→Nat→Code→St→Option (Nat×St)} (he:∀ f nt c s r,e0 f nt c s=some r→Ult (fun n=>en n f nt c s) r) {f:FuncId} {args:List V} {s:St} {r:V×St} (h:runHD P fz e0 f args s=some r):Ult (fun n=>runHD P fz (en n) f args s) r:=by
 unfold runHD at h ⊢
 cases hb:bodyOf P f with
 |none=>simp only [hb] at h;cases h
 |some fn =>
  simp only [hb,Option.bind_some] at h ⊢
  split at h
  case isFalse=>cases h
  rename_i hnt
  simp only [hnt,if_true]
  cases hc:fn.body with
  |none=>rw [hc] at h;cases h
  |some c =>
   rw [hc] at h
   simp only [Option.bind_some] at h ⊢
   cases hd:splitD c with
   |none=>rw [hd] at h;cases h
   |some d =>
    rw [hd] at h
    simp only [Option.bind_some] at h ⊢
    cases hx:exL (e0 f fn.ntmps) d.1 (canon (List.range args.length) (hst args s)) with
    |none=>rw [hx] at h;cases h
    |some x =>
     rw [hx] at h
     simp only [Option.bind_some] at h
     refine (qew (fun c s r hr=>he f fn.ntmps c s r hr) _ hx).bind ?_
     cases hs:defD fn.ntmps d.2.1 d.2.2.1 x with
     |none=>rw [hs] at h;cases h
     |some s1 =>
      rw [hs] at h
      simp only [Option.bind_some] at h ⊢
      cases hy:e0 f fn.ntmps d.2.2.2.2 s1 with
      |none=>rw [hy] at h;cases h
      |some y =>
       rw [hy] at h
       simp only [Option.bind_some] at h
       refine (he _ _ _ _ _ hy).bind ?_
       split at h
       case isFalse=>cases h
       rename_i hq
       simp only [hq,and_self,if_true]
       cases hz:endD (runH P fz e0 d.2.2.2.1) (slotsR fn) y.2 with
       |none=>rw [hz] at h;cases h
       |some s2 =>
        rw [hz] at h
        exact (qdx (fun args s r hr=>qvx he hr) hz).bind (Ult.const h)
theorem q81 {io df fz:FuncId→Bool} {XH:FuncId→Option XRule} {en:Nat→FuncId→Nat→Code→St→Option (Nat×St)} {e0:FuncId→Nat→Code→St→Option (Nat×St)} (he:∀ f nt c s r,e0 f nt c s=some r→Ult (fun n=>en n f nt c s) r):KApp (callH P io df fz XH e0) (fun n=>callH P io df fz XH (en n)):=by
 intro f
 cases hXf:XH f with
 |some g=>exact .inr ⟨runX g,fun _=>runX g,by simp [callH,hXf],fun n=>by simp [callH,hXf],fun args s r h=>Ult.const h⟩
 |none =>
 cases hio:io f with
 |false=>exact .inl ⟨by simp [callH,hio,hXf],fun n=>by simp [callH,hio,hXf]⟩
 |true =>
  cases hdf:df f with
  |true=>exact .inr ⟨runHD P fz e0 f,fun n=>runHD P fz (en n) f,by simp [callH,hio,hXf,hdf],fun n=>by simp [callH,hio,hXf,hdf],fun args s r h=>qvv he h⟩
  |false=>exact .inr ⟨runH P fz e0 f,fun n=>runH P fz (en n) f,by simp [callH,hio,hXf,hdf],fun n=>by simp [callH,hio,hXf,hdf],fun args s r h=>qvx he h⟩
end
section
variable (P:Program) (live:FuncId→Nat→List Nat) (X:XT)
theorem qez:∀ (n:Nat) (f:FuncId) (nt:Nat) (c:Code) (s:St) (r:Nat×St),execD P live X n f nt c s=some r→execD P live X (n+1) f nt c s=some r
 |0,_,_,_,_,_,h=>by cases h
 |n+1,f,nt,c,s,r,h=>by
  have ih:=qez n
  obtain ⟨N,hN⟩:=q10e (P:=P) (cn:=fun _=>⟨callD P (fzL live) X.c (execD P live X (n+1)),ioB live,callH P (ioB live) (dfB live) (fzL live) X.h (execD P live X (n+1))⟩) (c0:=⟨callD P (fzL live) X.c (execD P live X n),ioB live,callH P (ioB live) (dfB live) (fzL live) X.h (execD P live X n)⟩) (an:=fun _=>execD P live X (n+1) f nt) (a0:=execD P live X n f nt)
   (fun g args r hr=>q7z (en:=fun _=>execD P live X (n+1)) (e0:=execD P live X n) (fun f nt c s r h=>Ult.const (ih f nt c s r h)) hr) (q81 (en:=fun _=>execD P live X (n+1)) (e0:=execD P live X n) (fun f nt c s r h=>Ult.const (ih f nt c s r h))) (fun _=>rfl) (fun c s r h=>Ult.const (ih f nt c s r h)) c s r h
  exact hN N (Nat.le_refl _)
theorem qex {n k:Nat} (hk:n≤k) {f:FuncId} {nt:Nat} {c:Code} {s:St} {r:Nat×St} (h:execD P live X n f nt c s=some r):execD P live X k f nt c s=some r:=by
 induction hk with
 |refl=>exact h
 |step _ ih=>exact qez P live X _ f nt c s r ih
open Classical in
noncomputable def Exec (f:FuncId) (nt:Nat) (c:Code) (s:St):Option (Nat×St):=if h:∃ n r,execD P live X n f nt c s=some r then some h.choose_spec.choose else none
theorem qp {n:Nat} {f:FuncId} {nt:Nat} {c:Code} {s:St} {r:Nat×St} (h:execD P live X n f nt c s=some r):Exec P live X f nt c s=some r:=by
 have hex:∃ n r,execD P live X n f nt c s=some r:=⟨n,r,h⟩
 unfold Exec
 rw [dif_pos hex]
 have h1:=hex.choose_spec.choose_spec
 have a:=qex P live X (Nat.le_max_left hex.choose n) h1
 have b:=qex P live X (Nat.le_max_right hex.choose n) h
 rw [a] at b
 exact b
theorem qr {f:FuncId} {nt:Nat} {c:Code} {s:St} {r:Nat×St} (h:Exec P live X f nt c s=some r):Ult (fun n=>execD P live X n f nt c s) r:=by
 unfold Exec at h
 split at h
 ·rename_i hex
  injection h with h
  have h1:=hex.choose_spec.choose_spec
  rw [h] at h1
  exact ⟨hex.choose,fun n hn=>qex P live X hn h1⟩
 ·cases h
noncomputable def Call (f:FuncId) (args:List V):Option (V×List B):=callD P (fzL live) X.c (Exec P live X) f args
noncomputable def CallT:CT:=⟨Call P live X,ioB live,callH P (ioB live) (dfB live) (fzL live) X.h (Exec P live X)⟩
theorem qs {f:FuncId} {nt:Nat} {c:Code} {s:St} {r:Nat×St} (h:stepC P (live f) (CallT P live X) nt (Exec P live X f nt) c s=some r):Exec P live X f nt c s=some r:=by
 obtain ⟨N,hN⟩:=q10e (P:=P) (cn:=fun n=>⟨callD P (fzL live) X.c (execD P live X n),ioB live,callH P (ioB live) (dfB live) (fzL live) X.h (execD P live X n)⟩) (c0:=CallT P live X) (an:=fun n=>execD P live X n f nt) (a0:=Exec P live X f nt)
  (fun g args r hr=>q7z (en:=fun n=>execD P live X n) (e0:=Exec P live X) (fun f nt c s r h=>qr P live X h) hr) (q81 (en:=fun n=>execD P live X n) (e0:=Exec P live X) (fun f nt c s r h=>qr P live X h)) (fun _=>rfl) (fun c s r h=>qr P live X h) c s r h
 exact qp P live X (n:=N+1) (hN N (Nat.le_refl _))
theorem qj (hmo:P.follows .mixedOrders=true) (hX:XOk P X) {f:FuncId} {args:List V} {res:V×List B} (h:Call P live X f args=some res):CallOk P f args res:=by
 obtain ⟨N,hN⟩:=q7z (P:=P) (en:=fun n=>execD P live X n) (e0:=Exec P live X) (fun f nt c s r h=>qr P live X h) h
 exact q85 hmo hX (hN N (Nat.le_refl _))
end
end Go.Proofs.YtfakibajjibjjaaGreatDoor
namespace Go.Proofs.YtfakibajjibjjaaGreatDoor
open Go.RowKit
section
variable (P:Program)
def st0 (args:List V):St:={ t:=fun i=>args.getD i .any,h:=fun _=>none,sh:=fun _=>false,nx:=0,lr:=fun _=>[],lw:=fun _=>[],og:=[] }
def endF (q:Bool) (fn:Func) (x:Nat×St):Option (V×List B):=if x.1≤1 then (resV P fn x.2).bind fun vs=>(finQ q x.2 vs).bind fun y=>if okRes y.1 then some y else none else none
end
section
variable (P:Program)
def byO (t:TypeId):Option Nat:=(P.info? t).map (·.bytes)
def zOk (t:TypeId):Bool:=match P.info? t with|some i=>decide (i.zero.map (fun z=>z.cells.size)=some i.size)|none=>false
variable {P}
end
section
variable {P:Program} {live:FuncId→Nat→List Nat} {X:XT}
theorem qi {f : FuncId} {args : List V} {fn : Func} {c : Code} {x : Nat × St} {r : V × List B} (hX : X.c f args = none) (hf : P.funcs[f]? = some fn) (hb : fn.body = some c) (hn : (fn.name == "runtime.NumGoroutine") = false) (ha : args.length ≤ fn.ntmps)
  (hs:stepC P (live f) (CallT P live X) fn.ntmps (Exec P live X f fn.ntmps) c (st0 args)=some x) (he:endF P (fzL live f) fn x=some r):Call P live X f args=some r:=by
 unfold Call callD
 rw [hX]
 have hbo:bodyOf P f=some fn:=by simp [bodyOf,hf,hb];simpa using hn
 simp only [hbo,Option.bind_some,ha,if_true,hb]
 have:=qs P live X hs
 unfold st0 at this
 rw [this]
 exact he
theorem qh {n:Nat} {f:FuncId} {args:List V} {r:V×List B} (h:callD P (fzL live) X.c (execD P live X n) f args=some r):Call P live X f args=some r:=by
 obtain ⟨N,hN⟩:=q7z (P:=P) (X:=X.c) (en:=fun _=>Exec P live X) (e0:=execD P live X n) (fun f nt c s r h=>Ult.const (qp P live X h)) h
 exact hN N (Nat.le_refl _)
theorem qg {f : FuncId} {args : List V} {fn : Func} {c : Code} {r : V × List B} (hf : P.funcs[f]? = some fn) (hb : fn.body = some c) (hn : (fn.name == "runtime.NumGoroutine") = false) (hX : X.c f args = none) (ha : decide (args.length ≤ fn.ntmps) = true)
  (hs:(stepC P (live f) (CallT P live X) fn.ntmps (Exec P live X f fn.ntmps) c (st0 args)).bind (endF P (fzL live f) fn)=some r):Call P live X f args=some r:=by
 cases hx:stepC P (live f) (CallT P live X) fn.ntmps (Exec P live X f fn.ntmps) c (st0 args) with
 |none=>rw [hx] at hs;cases hs
 |some x=>rw [hx] at hs;exact qi hX hf hb hn (by simpa using ha) hx hs
end
theorem q10h {P:Program} {live:Nat→List Nat} {call:CT} {nt:Nat} {again:Code→St→Option (Nat×St)} {id:Nat} {ops:Array Oper} {s:St} (h:drawOk P (ioR live id call.io) (fun j=>live (3000000+1000*id+j)) ops=true) :
  stepC P live call nt again (.region id ops true) s=(runD P ⟨call.call,ioR live id call.io,call.ch,lvD (ioR live id call.io) (fun j=>live (3000000+1000*id+j)) ops s.nx,s.nx+8*ops.size⟩ nt ops (anOf ops) s.nx (List.range ops.size) { s with lr:=fun _=>[],lw:=fun _=>[] }).map fun s'=>(0,canon (live (2*id+1)) { s' with nx:=s.nx+8*ops.size }):=by
 simp only [stepC,h,if_true]
theorem q10j {P:Program} {live:Nat→List Nat} {call:CT} {nt:Nat} {again:Code→St→Option (Nat×St)} {id:Nat} {ops:Array Oper} {s:St} :
  stepC P live call nt again (.region id ops false) s=(runN P call.call call.ch (fun j=>live (3000000+1000*id+j)) nt ops ops.toList 0 s.nx s).map fun s'=>(0,canon (live (2*id+1)) s'):=rfl
theorem q10k {P:Program} {live:Nat→List Nat} {call:CT} {nt:Nat} {again:Code→St→Option (Nat×St)} {a b:Code} {s:St}:stepC P live call nt again (.seq a b) s=(stepC P live call nt again a s).bind fun x=>if x.1=0 then stepC P live call nt again b (cutS live b x.2) else some x:=rfl
theorem q10g {P:Program} {live:Nat→List Nat} {call:CT} {nt:Nat} {again:Code→St→Option (Nat×St)} {c:Operand} {a b:Code} {s:St} {q:Bool} (h:rho s.t c=.c (.bool q)):stepC P live call nt again (.cond c a b) s=if q then stepC P live call nt again a s else stepC P live call nt again b s:=by simp only [stepC,h]
theorem q10f {P:Program} {live:Nat→List Nat} {call:CT} {nt:Nat} {again:Code→St→Option (Nat×St)} {id:Nat} {c:Code} {s:St}:stepC P live call nt again (.block id c) s=(stepC P live call nt again c s).bind fun x=>some (if x.1=id+2 then (0,x.2) else x):=by simp only [stepC];cases stepC P live call nt again c s <;> rfl
def tb:List (Nat×V)→Nat→V
 |[],_=>.any
 |(j,v)::l,i=>if i=j then v else tb l i
def mkS (t:List (Nat×V)) (h:List (Option B)) (sh:List Bool) (og:List Nat):St:={ t:=tb t,h:=fun j=>(h[j]?).getD none,sh:=fun j=>(sh[j]?).getD false,nx:=h.length,lr:=fun _=>[],lw:=fun _=>[],og:=og }
def canT (live:List Nat) (s:St) (r:Nat→Option Nat):List (Nat×V):=live.map fun i=>(i,aggO r (nilA (s.nx+200*i) (s.t i)))
def canL (live:List Nat) (s:St):List Nat:=reach (nilH s.nx s.h) ((live.map fun i=>nilA (s.nx+200*i) (s.t i))++s.og.map fun id=>.ptr id 0)
def canO (s:St) (r:Nat→Option Nat):List Nat:=s.og.map fun id=>(r id).getD 0
theorem tb_map (g:Nat→V):∀ (l:List Nat) (i:Nat),tb (l.map fun i=>(i,g i)) i=if i∈l then g i else .any
 |[],i=>by simp [tb]
 |j::l,i=>by
  simp only [List.map_cons,tb,tb_map g l i,List.mem_cons]
  by_cases h:i=j
  ·subst h;simp
  ·simp [h]
theorem q8a (live:List Nat) (s:St):canon live s=mkS (canT live s (fun id=>pos id (canL live s))) ((canL live s).map fun id=>(nilH s.nx s.h id).map (B.renO (fun id=>pos id (canL live s)))) ((canL live s).map (nilSh s.nx s.sh)) (canO s (fun id=>pos id (canL live s))):=by
 unfold canon mkS
 simp only
 congr 1
 ·funext i
  rw [canT,tb_map]
  rfl
 ·funext j
  rw [List.getElem?_map]
  show (((canL live s)[j]?).bind (nilH s.nx s.h)).map _=_
  cases (canL live s)[j]? <;> rfl
 ·funext j
  rw [List.getElem?_map]
  rfl
 ·simp [canL]
inductive K1 where
 |int (k:IntKind)
 |bool
 |str
 |sl
def qm6:C→Int
 |.int _ n=>n
 |_=>0
def q76:C→Bool
 |.bool b=>b
 |_=>false
def q10v:C→ByteArray
 |.str s=>s
 |_=>default
def slOf:C→List (List C)
 |.sl es=>es
 |_=>[]
def decC:K1→C→C
 |.int k,c=>.int k (qm6 c)
 |.bool,c=>.bool (q76 c)
 |.str,c=>.str (q10v c)
 |.sl,c=>.sl (slOf c)
def isK:K1→C→Bool
 |.int k,.int k' _=>decide (k=k')
 |.bool,.bool _=>true
 |.str,.str _=>true
 |.sl,.sl _=>true
 |_,_=>false
theorem qbz {k:K1} {c:C} (h:isK k c=true):decC k c=c:=by
 cases k <;> cases c <;> simp_all [isK,decC,qm6,q76,q10v,slOf]
def decE:List K1→Nat→List C→List C
 |[],_,_=>[]
 |k::ks,i,el=>decC k (el.getD i .ne)::decE ks (i+1) el
def isE:List K1→Nat→List C→Bool
 |[],i,el=>el.length==i
 |k::ks,i,el=>isK k (el.getD i .ne)&&isE ks (i+1) el
theorem qc0:∀ (ks:List K1) (i:Nat) (el:List C),isE ks i el=true→decE ks i el=el.drop i
 |[],i,el,h=>by
  simp only [isE,beq_iff_eq] at h
  simp [decE,←h]
 |k::ks,i,el,h=>by
  simp only [isE,Bool.and_eq_true] at h
  rw [decE,qbz h.1,qc0 ks (i+1) el h.2]
  have hi:i<el.length:=by
   by_cases hi:i<el.length
   ·exact hi
   ·have:=h.1
    rw [List.getD_eq_getElem?_getD,List.getElem?_eq_none (by omega)] at this
    cases k <;> simp [isK] at this
  rw [List.drop_eq_getElem_cons hi]
  simp [List.getD_eq_getElem?_getD,List.getElem?_eq_getElem hi]
theorem qc1 {ks:List K1} {el:List C} (h:isE ks 0 el=true):decE ks 0 el=el:=by rw [qc0 ks 0 el h];rfl
section
variable (P:Program)
def shapeT:Nat→TypeId→Option (List K1)
 |0,_=>none
 |d+1,t=>match P.underlying t with
  |some .bool=>some [.bool]
  |some (.int k)=>some [.int k]
  |some .string=>some [.str]
  |some (.slice _)=>some [.sl]
  |some (.struct fs)=>fs.toList.foldr (fun f r=>(shapeT d f.type).bind fun a=>r.map (a++·)) (some [])
  |_=>none
end
section
variable {β:Type}
def brE (q:Bool) (a b:Option β):Option β:=match q with|true=>a|false=>b
def gdE (q:Bool) (a:Option β):Option β:=match q with|true=>a|false=>none
theorem qiu {q:Bool} {a:Option β} {r:β} (h:gdE q a=some r):q=true∧a=some r:=by cases q <;> simp_all [gdE]
def forceK (x:K1) (k:K1→Option β):Option β:=match x with
 |.int a=>k (.int a)
 |.bool=>k .bool
 |.str=>k .str
 |.sl=>k .sl
theorem qh6 (x:K1) (k:K1→Option β):forceK x k=k x:=by cases x <;> rfl
def forceKs (l:List K1) (k:List K1→Option β):Option β:=match l with
 |[]=>k []
 |x::l=>forceK x fun x=>forceKs l fun l=>k (x::l)
theorem qh7:∀ (l:List K1) (k:List K1→Option β),forceKs l k=k l
 |[],_=>rfl
 |x::l,k=>by rw [forceKs,qh6,qh7]
def forceC (x:C) (k:C→Option β):Option β:=match x with
 |.int a n=>k (.int a n)
 |.bool b=>k (.bool b)
 |.str s=>k (.str s)
 |.sl es=>k (.sl es)
 |.nilS=>k .nilS
 |.ne=>k .ne
 |.zs=>k .zs
 |.nilP=>k .nilP
 |.nilF=>k .nilF
theorem qh2 (x:C) (k:C→Option β):forceC x k=k x:=by cases x <;> rfl
def forceCs (l:List C) (k:List C→Option β):Option β:=match l with
 |[]=>k []
 |x::l=>forceC x fun x=>forceCs l fun l=>k (x::l)
theorem qh3:∀ (l:List C) (k:List C→Option β),forceCs l k=k l
 |[],_=>rfl
 |x::l,k=>by rw [forceCs,qh2,qh3]
def forceV1 (v:V) (k:V→Option β):Option β:=match v with
 |.any=>k .any
 |.c x=>forceC x fun x=>k (.c x)
 |.agg cs=>k (.agg cs)
 |.tup vs=>k (.tup vs)
 |.row id n=>k (.row id n)
 |.ptr id off=>k (.ptr id off)
 |.rptr id a i off=>k (.rptr id a i off)
 |.eptr cs off=>forceCs cs fun cs=>k (.eptr cs off)
 |.fn f caps=>k (.fn f caps)
 |.mp id=>k (.mp id)
 |.rowE id=>k (.rowE id)
theorem qhg (v:V) (k:V→Option β):forceV1 v k=k v:=by cases v <;> simp only [forceV1,qh2,qh3]
def forceL1 (l:List V) (k:List V→Option β):Option β:=match l with
 |[]=>k []
 |x::l=>forceV1 x fun x=>forceL1 l fun l=>k (x::l)
theorem qh8:∀ (l:List V) (k:List V→Option β),forceL1 l k=k l
 |[],_=>rfl
 |x::l,k=>by rw [forceL1,qhg,qh8]
def forceV2 (v:V) (k:V→Option β):Option β:=match v with
 |.agg cs=>forceL1 cs fun cs=>k (.agg cs)
 |.fn f caps=>forceL1 caps fun caps=>k (.fn f caps)
 |v=>forceV1 v k
theorem qhh (v:V) (k:V→Option β):forceV2 v k=k v:=by cases v <;> simp only [forceV2,qhg,qh8]
def forceL2 (l:List V) (k:List V→Option β):Option β:=match l with
 |[]=>k []
 |x::l=>forceV2 x fun x=>forceL2 l fun l=>k (x::l)
theorem qh9:∀ (l:List V) (k:List V→Option β),forceL2 l k=k l
 |[],_=>rfl
 |x::l,k=>by rw [forceL2,qhh,qh9]
def forceV (v:V) (k:V→Option β):Option β:=match v with
 |.tup vs=>forceL2 vs fun vs=>k (.tup vs)
 |v=>forceV2 v k
theorem qhi (v:V) (k:V→Option β):forceV v k=k v:=by cases v <;> simp only [forceV,qhh,qh9]
end
end Go.Proofs.YtfakibajjibjjaaGreatDoor
