/- Codes between values of the machine and plain data; functions and loops as plain functions. -/
import Derived.Test.YtmlcmoaonaomfaaGreatDoorZ16
namespace Go.Proofs.YtmlcmoaonaomfaaGreatDoor
open Go.RowKit
structure Cod (ρ τ:Type):Type 1 where
 enc:τ->ρ
 dec:(β:Type)->ρ->(τ->Oq β)->Oq β
 ok:∀ {β:Type} {r:ρ} {k:τ->Oq β} {b:β},dec β r k=some b->∃ x,r=enc x/\k x=some b
 inj:∀ {x y:τ},enc x=enc y->x=y
structure EC (τ:Type) where
 enc:τ->List C
 dec:List C->τ
 is:List C->Bool
 enc_dec:∀ {c:List C},is c=true->enc (dec c)=c
 dec_enc:∀ (x:τ),dec (enc x)=x
 is_enc:∀ (x:τ),is (enc x)=true
def cInt (k:IntKind):Cod C Int where
 enc n:=.int k n
 dec _ r f:=match r with|.int k' n=>if k'=k then f n else none|_=>none
 ok h:=by
  split at h
  ·split at h
   ·rename_i e;subst e;exact ⟨_,rfl,h⟩
   ·cases h
  ·cases h
 inj h:=by injection h
def cBool:Cod C Bool where
 enc n:=.bool n
 dec _ r f:=match r with|.bool n=>f n|_=>none
 ok h:=by split at h;exact ⟨_,rfl,h⟩;cases h
 inj h:=by injection h
def cStr:Cod C BA where
 enc n:=.str n
 dec _ r f:=match r with|.str n=>f n|_=>none
 ok h:=by split at h;exact ⟨_,rfl,h⟩;cases h
 inj h:=by injection h
theorem EC.map_dec {τ:Type} (e:EC τ):∀ {es:List (List C)},es.all e.is=true->(es.map e.dec).map e.enc=es
 |[],_=>rfl
 |c::es,h=>by
  simp only [x17q,x6q] at h
  simp only [List.map_cons,e.enc_dec h.1,e.map_dec h.2]
theorem EC.map_enc {τ:Type} (e:EC τ) (xs:List τ):(xs.map e.enc).map e.dec=xs:=by
 induction xs with
 |nil=>rfl
 |cons x xs ih=>simp only [List.map_cons,e.dec_enc,ih]
theorem EC.all_enc {τ:Type} (e:EC τ) (xs:List τ):(xs.map e.enc).all e.is=true:=by
 induction xs with
 |nil=>rfl
 |cons x xs ih=>simp only [List.map_cons,x17q,e.is_enc,ih,x4q]
def EC.encL {τ:Type} (e:EC τ) (xs:List τ):List (List C):=xs.map e.enc
def EC.decL {τ:Type} (e:EC τ) (es:List (List C)):List τ:=es.map e.dec
def EC.isL {τ:Type} (e:EC τ) (es:List (List C)):Bool:=es.all e.is
@[simp] theorem EC.decL_encL {τ:Type} (e:EC τ) (xs:List τ):e.decL (e.encL xs)=xs:=e.map_enc xs
@[simp] theorem EC.isL_encL {τ:Type} (e:EC τ) (xs:List τ):e.isL (e.encL xs)=true:=e.all_enc xs
theorem EC.encL_decL {τ:Type} (e:EC τ) {es:List (List C)} (h:e.isL es=true):e.encL (e.decL es)=es:=e.map_dec h
theorem EC.encL_inj {τ:Type} (e:EC τ) {xs ys:List τ} (h:e.encL xs=e.encL ys):xs=ys:=by rw [←e.decL_encL xs,h,e.decL_encL]
def cSl {τ:Type} (e:EC τ):Cod C (List τ) where
 enc xs:=.sl (e.encL xs)
 dec _ r f:=match r with|.sl es=>gdE (e.isL es) (f (e.decL es))|_=>none
 ok h:=by
  split at h
  ·obtain ⟨h0,h⟩:=qk4 h
   exact ⟨_,by rw [e.encL_decL h0],h⟩
  ·cases h
 inj h:=by injection h with h;exact e.encL_inj h
def vC {τ:Type} (c:Cod C τ):Cod V τ where
 enc x:=.c (c.enc x)
 dec β r f:=match r with|.c y=>c.dec β y f|_=>none
 ok h:=by
  split at h
  ·obtain ⟨x,e,h⟩:=c.ok h
   exact ⟨x,by rw [e],h⟩
  ·cases h
 inj h:=by injection h with h;exact c.inj h
def qpl {ρ τ:Type} (c:Cod ρ τ):Cod (List ρ) τ where
 enc x:=[c.enc x]
 dec β r f:=match r with|[y]=>c.dec β y f|_=>none
 ok h:=by
  split at h
  ·obtain ⟨x,e,h⟩:=c.ok h
   exact ⟨x,by rw [e],h⟩
  ·cases h
 inj h:=by injection h with h _;exact c.inj h
def qpk {ρ:Type}:Cod (List ρ) Unit where
 enc _:=[]
 dec _ r f:=match r with|[]=>f ()|_=>none
 ok h:=by split at h;exact ⟨_,rfl,h⟩;cases h
 inj _:=rfl
def qpj {ρ τ σ:Type} (c:Cod ρ τ) (d:Cod (List ρ) σ):Cod (List ρ) (τ×σ) where
 enc x:=c.enc x.1::d.enc x.2
 dec β r f:=match r with|y::l=>c.dec β y λa=>d.dec β l λb=>f (a,b)|_=>none
 ok h:=by
  split at h
  ·obtain ⟨x,e,h⟩:=c.ok h
   obtain ⟨z,e',h⟩:=d.ok h
   exact ⟨(x,z),by rw [e,e'],h⟩
  ·cases h
 inj h:=by
  rename_i x y
  injection h with h1 h2
  exact Prod.ext (c.inj h1) (d.inj h2)
def vAgg {τ:Type} (c:Cod (List V) τ):Cod V τ where
 enc x:=.agg (c.enc x)
 dec β r f:=match r with|.agg y=>c.dec β y f|_=>none
 ok h:=by
  split at h
  ·obtain ⟨x,e,h⟩:=c.ok h
   exact ⟨x,by rw [e],h⟩
  ·cases h
 inj h:=by injection h with h;exact c.inj h
def vTup {τ:Type} (c:Cod (List V) τ):Cod V τ where
 enc x:=.tup (c.enc x)
 dec β r f:=match r with|.tup y=>c.dec β y f|_=>none
 ok h:=by
  split at h
  ·obtain ⟨x,e,h⟩:=c.ok h
   exact ⟨x,by rw [e],h⟩
  ·cases h
 inj h:=by injection h with h;exact c.inj h
def vRow (i:Nat):Cod V Nat where
 enc n:=.row i n
 dec _ r f:=match r with|.row j n=>if j=i then f n else none|_=>none
 ok h:=by
  split at h
  ·split at h
   ·rename_i e;subst e;exact ⟨_,rfl,h⟩
   ·cases h
  ·cases h
 inj h:=by injection h
def vPtr (i o:Nat):Cod V Unit where
 enc _:=.ptr i o
 dec _ r f:=match r with|.ptr j q=>if j=i/\q=o then f () else none|_=>none
 ok h:=by
  split at h
  ·split at h
   ·rename_i e;rw [e.1,e.2];exact ⟨_,rfl,h⟩
   ·cases h
  ·cases h
 inj _:=rfl
def vEptr {τ:Type} (c:Cod (List C) τ) (o:Nat):Cod V τ where
 enc x:=.eptr (c.enc x) o
 dec β r f:=match r with|.eptr y q=>if q=o then c.dec β y f else none|_=>none
 ok h:=by
  split at h
  ·split at h
   ·rename_i e;subst e
    obtain ⟨x,e,h⟩:=c.ok h
    exact ⟨x,by rw [e],h⟩
   ·cases h
  ·cases h
 inj h:=by injection h with h;exact c.inj h
def vFn {τ:Type} (g:Nat) (c:Cod (List V) τ):Cod V τ where
 enc x:=.fn g (c.enc x)
 dec β r f:=match r with|.fn q y=>if q=g then c.dec β y f else none|_=>none
 ok h:=by
  split at h
  ·split at h
   ·rename_i e;subst e
    obtain ⟨x,e,h⟩:=c.ok h
    exact ⟨x,by rw [e],h⟩
   ·cases h
  ·cases h
 inj h:=by injection h with _ h;exact c.inj h
def bRow {τ:Type} (e:EC τ):Cod B (List τ) where
 enc xs:=.row (e.encL xs)
 dec _ r f:=match r with|.row es=>gdE (e.isL es) (f (e.decL es))|_=>none
 ok h:=by
  split at h
  ·obtain ⟨h0,h⟩:=qk4 h
   exact ⟨_,by rw [e.encL_decL h0],h⟩
  ·cases h
 inj h:=by injection h with h;exact e.encL_inj h
def bBox {τ:Type} (c:Cod (List V) τ):Cod B τ where
 enc x:=.box (c.enc x)
 dec β r f:=match r with|.box y=>c.dec β y f|_=>none
 ok h:=by
  split at h
  ·obtain ⟨x,e,h⟩:=c.ok h
   exact ⟨x,by rw [e],h⟩
  ·cases h
 inj h:=by injection h with h;exact c.inj h
def qu4 {ρ τ:Type} (c:Cod ρ τ):Cod (Oq ρ) τ where
 enc x:=some (c.enc x)
 dec β r f:=match r with|some y=>c.dec β y f|_=>none
 ok h:=by
  split at h
  ·obtain ⟨x,e,h⟩:=c.ok h
   exact ⟨x,by rw [e],h⟩
  ·cases h
 inj h:=by injection h with h;exact c.inj h
def cPair {ρ ρ' τ σ:Type} (c:Cod ρ τ) (d:Cod ρ' σ):Cod (ρ×ρ') (τ×σ) where
 enc x:=(c.enc x.1,d.enc x.2)
 dec β r f:=match r with|(y,l)=>c.dec β y λa=>d.dec β l λb=>f (a,b)
 ok h:=by
  obtain ⟨x,e,h⟩:=c.ok h
  obtain ⟨z,e',h⟩:=d.ok h
  exact ⟨(x,z),by rw [←e,←e'],h⟩
 inj h:=by
  injection h with h1 h2
  exact Prod.ext (c.inj h1) (d.inj h2)
def cFst {ρ τ σ:Type} (u:σ) (hu:∀ y:σ,y=u) (c:Cod ρ (τ×σ)):Cod ρ τ where
 enc x:=c.enc (x,u)
 dec β r f:=c.dec β r λx=>f x.1
 ok h:=by
  obtain ⟨⟨x,y⟩,e,h⟩:=c.ok h
  exact ⟨x,by rw [e,hu y],h⟩
 inj h:=by have:=c.inj h;injection this
def cFstU {ρ τ:Type} (c:Cod ρ (τ×Unit)):Cod ρ τ:=cFst () (λ_=>rfl) c
structure SC (τ:Type):Type 1 where
 c:Cod LS τ
 inj:∀ {x y:τ},(c.enc x).st=(c.enc y).st->x=y
theorem q1f7:∀ {keys:List Nat} {a:List V} {i:Nat} {v:V},keys.Nodup->a.length=keys.length->(∃ k:Nat,keys[k]?=some i/\a[k]?=some v)->tb (keys.zip a) i=v
 |[],a,i,v,_,_,⟨k,h,_⟩=>by simp at h
 |j::keys,[],i,v,_,hl,_=>by simp at hl
 |j::keys,b::a,i,v,hn,hl,⟨k,h1,h2⟩=>by
  simp only [List.zip_cons_cons,tb]
  cases k with
  |zero=>simp at h1 h2;simp [h1,h2]
  |succ k =>
   simp at h1 h2
   have hi:i∈keys:=List.mem_of_getElem? h1
   have hne:i≠j:=λe=>(List.nodup_cons.1 hn).1 (e ▸ hi)
   rw [if_neg hne]
   exact q1f7 (List.nodup_cons.1 hn).2 (by simpa using hl) ⟨k,h1,h2⟩
theorem st_inj {keys:List Nat} {a b:List V} {h h':List (Oq B)} {sh sh':List Bool} {og og':List Nat} (hn:keys.Nodup) (ha:a.length=keys.length) (hb:b.length=keys.length) (e:LS.st ⟨keys.zip a,h,sh,og⟩=LS.st ⟨keys.zip b,h',sh',og'⟩):a=b/\h=h':=by
 have e1:tb (keys.zip a)=tb (keys.zip b):=congrArg St.t e
 have e2:(λj=>(h[j]?).getD none)=(λj=>(h'[j]?).getD none):=congrArg St.h e
 have e3:h.length=h'.length:=congrArg St.nx e
 constructor
 ·apply List.ext_getElem (by omega)
  intro i hi hi'
  have hk:i<keys.length:=by omega
  have c1:=q1f7 (i:=keys[i]) (v:=a[i]) hn ha ⟨i,List.getElem?_eq_getElem hk,List.getElem?_eq_getElem hi⟩
  have c2:=q1f7 (i:=keys[i]) (v:=b[i]) hn hb ⟨i,List.getElem?_eq_getElem hk,List.getElem?_eq_getElem hi'⟩
  rw [←c1,e1,c2]
 ·apply List.ext_getElem e3
  intro i hi hi'
  have:=congrFun e2 i
  simp only [List.getElem?_eq_getElem hi,List.getElem?_eq_getElem hi',Option.getD_some] at this
  exact this
def unz:List (Nat×V)->List V
 |[]=>[]
 |(_,v)::l=>v::unz l
def keysB:List Nat->List (Nat×V)->Bool
 |[],[]=>true
 |i::l,(j,_)::l'=>i==j&&keysB l l'
 |_,_=>false
theorem q1f8:∀ {keys:List Nat} {t:List (Nat×V)},keysB keys t=true->keys.zip (unz t)=t
 |[],[],_=>rfl
 |[],_::_,h=>by simp [keysB] at h
 |_::_,[],h=>by simp [keysB] at h
 |i::l,(j,v)::l',h=>by
  simp only [keysB,x6q,beq_iff_eq] at h
  simp only [unz,List.zip_cons_cons,q1f8 h.2,h.1]
def shB:List Bool->List Bool->Bool
 |[],[]=>true
 |true::l,true::l'=>shB l l'
 |false::l,false::l'=>shB l l'
 |_,_=>false
theorem shB_eq:∀ {a b:List Bool},shB a b=true->a=b
 |[],[],_=>rfl
 |true::a,true::b,h=>by rw [shB_eq (a:=a) (b:=b) h]
 |false::a,false::b,h=>by rw [shB_eq (a:=a) (b:=b) h]
 |[],_::_,h=>by simp [shB] at h
 |true::_,[],h=>by simp [shB] at h
 |false::_,[],h=>by simp [shB] at h
 |true::_,false::_,h=>by simp [shB] at h
 |false::_,true::_,h=>by simp [shB] at h
def nlB:List Nat->List Nat->Bool
 |[],[]=>true
 |i::l,j::l'=>i==j&&nlB l l'
 |_,_=>false
theorem nlB_eq:∀ {a b:List Nat},nlB a b=true->a=b
 |[],[],_=>rfl
 |i::a,j::b,h=>by
  simp only [nlB,x6q,beq_iff_eq] at h
  rw [h.1,nlB_eq h.2]
 |[],_::_,h=>by simp [nlB] at h
 |_::_,[],h=>by simp [nlB] at h
def sLS {τ σ:Type} (keys:List Nat) (ct:Cod (List V) τ) (ch:Cod (List (Oq B)) σ) (sh:List Bool) (og:List Nat) (hn:keys.Nodup) (hl:∀ x,(ct.enc x).length=keys.length):SC (τ×σ) where
 c:={
  enc:=λx=>⟨keys.zip (ct.enc x.1),ch.enc x.2,sh,og⟩
  dec:=λβ s f=>match s with|⟨t,h,sh',og'⟩=>if keysB keys t&&shB sh sh'&&nlB og og' then ct.dec β (unz t) λa=>ch.dec β h λb=>f (a,b) else none
  ok:=λh=>by
   rename_i s k b
   obtain ⟨t,h0,sh',og'⟩:=s
   simp only at h
   split at h
   ·rename_i hk
    rw [x6q,x6q] at hk
    obtain ⟨x,e,h⟩:=ct.ok h
    obtain ⟨z,e',h⟩:=ch.ok h
    exact ⟨(x,z),by simp only [←e,←e',q1f8 hk.1.1,shB_eq hk.1.2,nlB_eq hk.2],h⟩
   ·cases h
  inj:=λh=>by
   rename_i x y
   injection h with h1 h2 _ _
   have h1':=(st_inj (h:=[]) (h':=[]) (sh:=[]) (sh':=[]) (og:=[]) (og':=[]) hn (hl x.1) (hl y.1) (by rw [h1])).1
   exact Prod.ext (ct.inj h1') (ch.inj h2) }
 inj h:=by
  rename_i x y
  obtain ⟨h1,h2⟩:=st_inj hn (hl x.1) (hl y.1) h
  exact Prod.ext (ct.inj h1) (ch.inj h2)
structure OC (ω:Type):Type 1 where
 enc:ω->Nat×LS
 dec:(β:Type)->Nat×LS->(ω->Oq β)->Oq β
 ok:∀ {β:Type} {r:Nat×LS} {k:ω->Oq β} {b:β},dec β r k=some b->∃ x,r=enc x/\k x=some b
 inj:∀ {x y:ω},(enc x).1=(enc y).1->(enc x).2.st=(enc y).2.st->x=y
 go:(β:Type)->ω->(Nat×LS->Oq β)->Oq β
 go_eq:∀ (β:Type) (x:ω) (k:Nat×LS->Oq β),go β x k=k (enc x)
def oAt {τ:Type} (n:Nat) (s:SC τ):OC τ where
 enc x:=(n,s.c.enc x)
 dec β r f:=if r.1=n then s.c.dec β r.2 f else none
 ok h:=by
  rename_i r k b
  split at h
  ·rename_i e
   obtain ⟨x,e',h⟩:=s.c.ok h
   exact ⟨x,by rw [←e,←e'],h⟩
  ·cases h
 inj _ h:=s.inj h
 go _ x k:=k (n,s.c.enc x)
 go_eq _ _ _:=rfl
def oOr {τ σ:Type} (n:Nat) (s:SC τ) (o:OC σ) (hd:∀ x,(o.enc x).1≠n):OC (τ⊕σ) where
 enc x:=match x with|.inl x=>(n,s.c.enc x)|.inr y=>o.enc y
 dec β r f:=if r.1=n then s.c.dec β r.2 λx=>f (.inl x) else o.dec β r λx=>f (.inr x)
 ok h:=by
  rename_i r k b
  split at h
  ·rename_i e
   obtain ⟨x,e',h⟩:=s.c.ok h
   exact ⟨.inl x,by simp only [←e,←e'],h⟩
  ·obtain ⟨x,e',h⟩:=o.ok h
   exact ⟨.inr x,e',h⟩
 inj h1 h2:=by
  rename_i x y
  cases x with
  |inl x=>cases y with
   |inl y=>exact congrArg Sum.inl (s.inj h2)
   |inr y=>exact absurd h1.symm (hd y)
  |inr x=>cases y with
   |inl y=>exact absurd h1 (hd x)
   |inr y=>exact congrArg Sum.inr (o.inj h1 h2)
 go β x k:=match x with|.inl x=>k (n,s.c.enc x)|.inr y=>o.go β y k
 go_eq β x k:=by cases x with|inl x=>rfl|inr y=>exact o.go_eq β y k
def isAnyV:V->Bool
 |.any=>true
 |_=>false
theorem st_ne {a b:St} (q:Nat) (h:isAnyV (a.t q)≠isAnyV (b.t q)):a≠b:=λe=>h (by rw [e])
def oOrK {τ σ : Type} (n : Nat) (ks : List Nat) (s : SC τ) (o : OC σ) (hd : ∀ x y, (o.enc y).1 ≠ n ∨ (s.c.enc x).st ≠ (o.enc y).2.st) : OC (τ ⊕ σ) where
  enc x := match x with | .inl x => (n, s.c.enc x) | .inr y => o.enc y
  dec β r f := if (r.1 == n && keysB ks r.2.t) = true then s.c.dec β r.2 λx => f (.inl x) else o.dec β r λx => f (.inr x)
  ok h := by
    rename_i r k b
    split at h
    · rename_i e
      rw [x6q, beq_iff_eq] at e
      obtain ⟨x, e', h⟩ := s.c.ok h
      exact ⟨.inl x, by simp only [← e.1, ← e'], h⟩
    · obtain ⟨x, e', h⟩ := o.ok h
      exact ⟨.inr x, e', h⟩
  inj h1 h2 := by
    rename_i x y
    cases x with
    | inl x => cases y with
      | inl y => exact congrArg Sum.inl (s.inj h2)
      | inr y => rcases hd x y with e | e
                 · exact absurd h1.symm e
                 · exact absurd h2 e
    | inr x => cases y with
      | inl y => rcases hd y x with e | e
                 · exact absurd h1 e
                 · exact absurd h2.symm e
      | inr y => exact congrArg Sum.inr (o.inj h1 h2)
  go β x k := match x with | .inl x => k (n, s.c.enc x) | .inr y => o.go β y k
  go_eq β x k := by cases x with | inl x => rfl | inr y => exact o.go_eq β y k
section
variable (P:Program) (live:FuncId->Nat->List Nat) (X:XT)
noncomputable def fS {τ ρ:Type} (f:FuncId) (ca:Cod (List V) τ) (cr:Cod (V×List B) ρ) (x:τ):Oq ρ:=pick λr=>Call P live X f (ca.enc x)=some (cr.enc r)
noncomputable def lS {σ ω:Type} (f nt:Nat) (c:Code) (s:SC σ) (o:OC ω) (x:σ):Oq ω:=pick λr=>loopFrom P live X f nt c (s.c.enc x).st=some ((o.enc r).1,(o.enc r).2.st)
variable {P live X}
theorem qg5 {τ ρ:Type} {f:FuncId} {ca:Cod (List V) τ} {cr:Cod (V×List B) ρ} {x:τ} {r:ρ} (h:fS P live X f ca cr x=some r):Call P live X f (ca.enc x)=some (cr.enc r):=qv3 (p:=λr=>Call P live X f (ca.enc x)=some (cr.enc r)) h
theorem fS_of {τ ρ:Type} {f:FuncId} {ca:Cod (List V) τ} {cr:Cod (V×List B) ρ} {x:τ} {r:ρ} (h:Call P live X f (ca.enc x)=some (cr.enc r)):fS P live X f ca cr x=some r:=qv2 h λb hb=>by
 rw [h] at hb
 injection hb with hb
 exact (cr.inj hb).symm
theorem lS_of {σ ω:Type} {f nt:Nat} {c:Code} {s:SC σ} {o:OC ω} {x:σ} {r:ω} (h:loopFrom P live X f nt c (s.c.enc x).st=some ((o.enc r).1,(o.enc r).2.st)):lS P live X f nt c s o x=some r:=qv2 h λb hb=>by
 rw [h] at hb
 injection hb with hb
 injection hb with h1 h2
 exact (o.inj h1 h2).symm
theorem qpm {σ ω:Type} {f nt:Nat} {c:Code} {s:SC σ} {o:OC ω} {x:σ} {r:ω} (h:lS P live X f nt c s o x=some r):loopFrom P live X f nt c (s.c.enc x).st=some ((o.enc r).1,(o.enc r).2.st):=qv3 (p:=λr=>loopFrom P live X f nt c (s.c.enc x).st=some ((o.enc r).1,(o.enc r).2.st)) h
variable (P live X)
structure Ent:Type 1 where
 f:Nat
 key:List Nat
 run:(β:Type)->List V->(V×List B->Oq β)->Oq β
 ok:∀ {β:Type} {a:List V} {k:V×List B->Oq β} {r:β},run β a k=some r->(Call P live X f a).bind k=some r
def keyOf:List V->List Nat
 |[]=>[]
 |.fn f _::l=>f::keyOf l
 |_::l=>keyOf l
def keyEq:List Nat->List Nat->Bool
 |[],[]=>true
 |i::l,j::l'=>i==j&&keyEq l l'
 |_,_=>false
def look (β:Type):List (Ent P live X)->FuncId->List V->(V×List B->Oq β)->Oq β
 |[],_,_,_=>none
 |e::es,f,a,k=>bif f==e.f&&keyEq e.key (keyOf a) then e.run β a k else look β es f a k
theorem qr2 {β:Type}:∀ (es:List (Ent P live X)) (f:FuncId) (a:List V) (k:V×List B->Oq β) (r:β),look P live X β es f a k=some r->(Call P live X f a).bind k=some r
 |[],_,_,_,_,h=>by cases h
 |e::es,f,a,k,r,h=>by
  unfold look at h
  cases hb:f==e.f&&keyEq e.key (keyOf a) with
  |true =>
   rw [hb] at h
   rw [x6q] at hb
   have:f=e.f:=by simpa using hb.1
   subst this
   exact e.ok h
  |false=>rw [hb] at h;exact qr2 es f a k r h
def entS {τ ρ:Type} (f:FuncId) (key:List Nat) (ca:Cod (List V) τ) (cr:Cod (V×List B) ρ) (g:τ->Oq ρ) (hg:∀ x r,g x=some r->Call P live X f (ca.enc x)=some (cr.enc r)):Ent P live X where
 f:=f
 key:=key
 run β a k:=ca.dec β a λx=>(g x).bind λr=>k (cr.enc r)
 ok h:=by
  obtain ⟨x,e,h'⟩:=ca.ok h
  clear h
  have h:=h'
  subst e
  cases hx:g x with
  |none=>rw [hx] at h;cases h
  |some r=>rw [hx] at h;rw [hg x r hx];exact h
def keyC:C->Nat
 |.int _ _=>1|.bool _=>2|.str _=>3|.sl _=>4|.nilS=>5|.ne=>6|.zs=>7|.nilP=>8|.nilF=>9
def keyV0:V->List Nat
 |.c x=>[1,keyC x]
 |.row id _=>[2,id]
 |.ptr id off=>[3,id,off]
 |.rptr id k _ off=>[4,id,k,off]
 |.eptr cs off=>[5,cs.length,off]
 |_=>[0]
def keyV:V->List Nat
 |.agg cs=>7::cs.length::cs.flatMap keyV0
 |.fn f cs=>6::f::cs.length::cs.flatMap keyV0
 |.mp id=>[8,id]
 |v=>keyV0 v
def keyB:Oq B->List Nat
 |some (.box cs)=>1::cs.length::cs.flatMap keyV
 |some (.row _)=>[2]
 |some (.tab _ _ v)=>3::keyV v
 |some (.mp _)=>[4]
 |none=>[0]
def keyLS (s:LS):List Nat:=s.t.flatMap (λp=>p.1::keyV p.2)++(s.h.flatMap keyB++s.og)
noncomputable def heapD1 (f:FuncId) (fn:Func) (c:Code) (st:St):Oq (V×St):=(splitD c).bind λd=>(exL (Exec P live X f fn.ntmps) d.1 st).bind λx =>
 (defD fn.ntmps d.2.1 d.2.2.1 x).bind λs1=>(Exec P live X f fn.ntmps d.2.2.2.2 s1).bind λy =>
  if y.1<=1/\y.2.og.length=s1.og.length then (endD (runH P (fzL live) (Exec P live X) d.2.2.2.1) (slotsR fn) y.2).bind λs2=>(resV P fn s2).bind λvs=>(finH (fzL live f) s2 vs).map λz=>(oneOrTup ((List.range z.1.length).map (endN z.1 z.2).t),endN z.1 z.2) else none
noncomputable def heapFrom (f:FuncId) (st:St):Oq (V×St):=(bodyOf P f).bind λfn=>fn.body.bind λc=>bif dfB live f then heapD1 P live X f fn c st else (Exec P live X f fn.ntmps c st).bind λx=>if x.1<=1 then (resV P fn x.2).bind λvs=>(finH (fzL live f) x.2 vs).map λz=>(oneOrTup ((List.range z.1.length).map (endN z.1 z.2).t),endN z.1 z.2) else none
structure HEnt:Type 1 where
 f:Nat
 key:List Nat
 run:(β:Type)->LS->(V×St->Oq β)->Oq β
 ok:∀ {β:Type} {s:LS} {k:V×St->Oq β} {r:β},run β s k=some r->∃ x,heapFrom P live X f s.st=some x/\k x=some r
def lookHK (β:Type):List (HEnt P live X)->FuncId->LS->(V×St->Oq β)->Oq β
 |[],_,_,_=>none
 |e::es,f,s,k=>bif f==e.f&&nlB e.key (keyLS s) then e.run β s k else lookHK β es f s k
theorem qqz {β:Type}:∀ (es:List (HEnt P live X)) (f:FuncId) (s:LS) (k:V×St->Oq β) (r:β),lookHK P live X β es f s k=some r->∃ x,heapFrom P live X f s.st=some x/\k x=some r
 |[],_,_,_,_,h=>by cases h
 |e::es,f,s,k,r,h=>by
  unfold lookHK at h
  cases hb:f==e.f&&nlB e.key (keyLS s) with
  |true =>
   rw [hb] at h
   rw [x6q] at hb
   have:f=e.f:=by simpa using hb.1
   subst this
   exact e.ok h
  |false=>rw [hb] at h;exact qqz es f s k r h
def lookHE (β:Type) (es:List (HEnt P live X)) (f:FuncId) (a:List V) (s:St) (k:V×St->Oq β):Oq β :=
 (bodyOf P f).bind λfn=>if a.length<=fn.ntmps then canK (List.range a.length) (hst a s) λls=>lookHK P live X β es f ls k else none
theorem qqy {β:Type} (es:List (HEnt P live X)) (f:FuncId) (a:List V) (s:St) (k:V×St->Oq β) (r:β) (h:lookHE P live X β es f a s k=some r):∃ x,(bif dfB live f then runHD P (fzL live) (Exec P live X) f a s else runH P (fzL live) (Exec P live X) f a s)=some x/\k x=some r:=by
 unfold lookHE at h
 cases hb:bodyOf P f with
 |none=>rw [hb] at h;cases h
 |some fn =>
  rw [hb] at h
  simp only [x0q] at h
  split at h
  case isFalse=>cases h
  rename_i hn
  obtain ⟨l1,h1,h2⟩:=q92 h
  obtain ⟨x,h3,h4⟩:=qqz P live X es f l1 k r h2
  refine ⟨x,?_,h4⟩
  rw [←h1] at h3
  unfold heapFrom at h3
  rw [hb] at h3
  cases hdf:dfB live f with
  |true =>
   rw [hdf] at h3
   simp only [x22q] at h3 ⊢
   unfold runHD
   rw [hb]
   simp only [x0q,hn,x20q] at h3 ⊢
   exact h3
  |false =>
   rw [hdf] at h3
   simp only [cond_false] at h3 ⊢
   unfold runH
   rw [hb]
   simp only [x0q,hn,x20q] at h3 ⊢
   exact h3
def runXE (β:Type) (R:XRule) (a:List V) (s:St) (k:V×St->Oq β):Oq β :=
 if a.length=R.n then canK (List.range a.length) (hst a s) λls=>R.run β ls.st λx=>canK (List.range x.1.length) { x.2 with t:=λi=>x.1.getD i .any } λl2=>k (oneOrTup ((List.range x.1.length).map l2.st.t),l2.st) else none
theorem q14k {β:Type} (R:XRule) (a:List V) (s:St) (k:V×St->Oq β) (r:β) (h:runXE β R a s k=some r):∃ x,runX R a s=some x/\k x=some r:=by
 unfold runXE at h
 split at h
 case isFalse=>cases h
 rename_i hn
 obtain ⟨l1,h1,h2⟩:=q92 h
 rw [R.ok] at h2
 cases hx:R.run (List V×St) l1.st some with
 |none=>rw [hx] at h2;cases h2
 |some x =>
  rw [hx] at h2
  simp only [x0q] at h2
  obtain ⟨l2,h3,h4⟩:=q92 h2
  refine ⟨_,?_,h4⟩
  unfold runX
  have e:endN x.1 x.2=l2.st:=h3
  rw [if_pos hn,h1,hx,x18q,e]
def lookH (β:Type) (hs:List (HEnt P live X)) (f:FuncId):Oq (List V->St->(V×St->Oq β)->Oq β) :=
 match X.h f with
 |some R=>some (runXE β R)
 |none=>bif ioB live f then some (lookHE P live X β hs f) else none
theorem qr0 {β:Type} (hs:List (HEnt P live X)):KE (CallT P live X).ch (lookH P live X β hs):=by
 intro f
 cases hXf:X.h f with
 |some R=>exact .inr ⟨runX R,runXE β R,by simp only [CallT,callH,hXf],by simp only [lookH,hXf],λa s k r h=>q14k R a s k r h⟩
 |none =>
 cases hio:ioB live f with
 |false=>exact .inl ⟨by simp only [CallT,callH,hXf,hio,cond_false],by simp only [lookH,hXf,hio,cond_false]⟩
 |true =>
  cases hdf:dfB live f with
  |true=>exact .inr ⟨runHD P (fzL live) (Exec P live X) f,lookHE P live X β hs f,by simp only [CallT,callH,hXf,hio,hdf,x22q],by simp only [lookH,hXf,hio,x22q],λa s k r h=>by have:=qqy P live X hs f a s k r h;rwa [hdf,cond_true] at this⟩
  |false=>exact .inr ⟨runH P (fzL live) (Exec P live X) f,lookHE P live X β hs f,by simp only [CallT,callH,hXf,hio,hdf,x22q,cond_false],by simp only [lookH,hXf,hio,x22q],λa s k r h=>by have:=qqy P live X hs f a s k r h;rwa [hdf,cond_false] at this⟩
noncomputable def semL (f nt:Nat) (g:Bool) (c:Code) (s:St):Oq (Nat×St):=match g with
 |true=>stepC P (live f) (CallT P live X) nt (Exec P live X f nt) c (cutS (live f) c s)
 |false=>stepC P (live f) (CallT P live X) nt (Exec P live X f nt) (.loop c) s
structure LEnt (f nt:Nat):Type 1 where
 g:Bool
 id:Nat
 c:Code
 run:(β:Type)->LS->(Nat×LS->Oq β)->Oq β
 ok:∀ {β:Type} {s:LS} {k:Nat×LS->Oq β} {r:β},run β s k=some r->∃ n s',semL P live X f nt g c s.st=some (n,s'.st)/\k (n,s')=some r
def bEq:Bool->Bool->Bool
 |true,true=>true
 |false,false=>true
 |_,_=>false
theorem q55 {a b:Bool}:bEq a b=true ↔ a=b:=by cases a <;> cases b <;> simp [bEq]
def lookL (β:Type) {f nt:Nat}:List (LEnt P live X f nt)->Bool->Nat->LS->(Nat×LS->Oq β)->Oq β
 |[],_,_,_,_=>none
 |e::es,g,id,s,k=>bif bEq g e.g&&id==e.id then e.run β s k else lookL β es g id s k
def allL {f nt:Nat} (es:List (LEnt P live X f nt)) (g:Bool):List Code->Prop
 |[]=>True
 |L::Ls=>(∃ e,es.find? (λe=>bEq g e.g&&fstRegion L==some e.id)=some e/\e.c=L)/\allL es g Ls
theorem qr1 {β:Type} {f nt:Nat} {g:Bool}:∀ (es:List (LEnt P live X f nt)) (L:Code) (e:LEnt P live X f nt),es.find? (λe=>bEq g e.g&&fstRegion L==some e.id)=some e->e.c=L->∀ id,fstRegion L=some id->∀ s k r,lookL P live X β es g id s k=some r->∃ n s',semL P live X f nt g L s.st=some (n,s'.st)/\k (n,s')=some r
 |[],L,e,h,_,_,_,_,_,_,_=>by simp at h
 |e0::es,L,e,h,hc,id,hid,s,k,r,hr=>by
  rw [List.find?_cons] at h
  unfold lookL at hr
  rw [hid] at h
  by_cases hi:(bEq g e0.g&&id==e0.id)=true
  ·have hi':(bEq g e0.g&&some id==some e0.id)=true:=by simpa using hi
   rw [hi'] at h
   simp only [Option.some.injEq] at h
   subst h
   rw [hi,x22q] at hr
   obtain ⟨n,s',h1,h2⟩:=e0.ok hr
   rw [x6q] at hi
   rw [hc,←q55.1 hi.1] at h1
   exact ⟨n,s',h1,h2⟩
  ·have h1:(bEq g e0.g&&id==e0.id)=false:=by simpa using hi
   have h2:(bEq g e0.g&&some id==some e0.id)=false:=by simpa using hi
   rw [h2] at h
   rw [h1,cond_false] at hr
   exact qr1 es L e (by rw [hid];exact h) hc id hid s k r hr
theorem q2g {β:Type} {f nt:Nat} {g:Bool} {es:List (LEnt P live X f nt)}:∀ {Ls:List Code},allL P live X es g Ls->∀ L∈Ls,∀ id,fstRegion L=some id->∀ s k r,lookL P live X β es g id s k=some r->∃ n s',semL P live X f nt g L s.st=some (n,s'.st)/\k (n,s')=some r
 |[],_,L,hL=>by simp at hL
 |L0::Ls,h,L,hL=>by
  rcases List.mem_cons.1 hL with e|hL
  ·subst e
   obtain ⟨⟨e,h1,h2⟩,_⟩:=h
   exact qr1 P live X es L e h1 h2
  ·exact q2g h.2 L hL
def qqh {σ ω:Type} {f nt:Nat} (id:Nat) (c:Code) (s:SC σ) (o:OC ω) (g:σ->Oq ω) (hg:∀ x r,g x=some r->loopFrom P live X f nt c (s.c.enc x).st=some ((o.enc r).1,(o.enc r).2.st)):LEnt P live X f nt where
 g:=false
 id:=id
 c:=c
 run β ls k:=canK (headOf live f c) (headS live f c ls.st) λls=>s.c.dec β ls λx=>(g x).bind λr=>o.go β r k
 ok h:=by
  obtain ⟨l1,h1,h2⟩:=q92 h
  obtain ⟨x,e,h3⟩:=s.c.ok h2
  clear h h2
  have h:=h3
  subst e
  simp only [o.go_eq] at h
  cases hx:g x with
  |none=>rw [hx] at h;cases h
  |some r =>
   rw [hx] at h
   refine ⟨_,_,?_,h⟩
   simp only [semL]
   rw [q18d,h1]
   exact hg x r hx
variable {P live X}
theorem qg7 {τ ρ:Type} {f:FuncId} {ca:Cod (List V) τ} {cr:Cod (V×List B) ρ} {x:τ} {r:ρ} {fn:Func} {c:Code} {es:List (Ent P live X)} {hs:List (HEnt P live X)} (ls:List (LEnt P live X f fn.ntmps))
  (hf : P.funcs[f]? = some fn) (hb : fn.body = some c) (hn : (fn.name == "runtime.NumGoroutine") = false) (hX : X.c f (ca.enc x) = none) (ha : decide ((ca.enc x).length ≤ fn.ntmps) = true) (hd : allDraw P (ioB live) (live f) c = true) (hl : allL P live X ls false (loopsOf (live f) c)) (hg : allL P live X ls true (segsOf (live f) c))
  {t:Oq ρ} (ht:codeL P (ioB live) (live f) (look P live X ρ es) (lookH P live X ρ hs) fn.ntmps (lookL P live X ρ ls false) (lookL P live X ρ ls true) c ⟨en (ca.enc x) 0,[],[],[]⟩ (λy=>(endF P (fzL live f) fn (y.1,y.2.st)).bind λz=>cr.dec ρ z some)=t) (h:t=some r):fS P live X f ca cr x=some r:=by
 refine fS_of ?_
 rw [h] at ht
 obtain ⟨n,s',h1,h2⟩:=qb7 P (call:=CallT P live X) (λf a k r=>qr2 P live X es f a k r) (qr0 P live X hs) c hd (q2g P live X hl) (q2g P live X hg) _ _ _ ht
 refine qe hf hb hn hX ha ?_
 rw [st0_eq,h1]
 cases he:endF P (fzL live f) fn (n,s'.st) with
 |none=>simp only [he] at h2;cases h2
 |some z =>
  simp only [he,x0q] at h2
  obtain ⟨y,e,h2⟩:=cr.ok h2
  injection h2 with h2
  simp only [x0q,he,e,h2]
theorem qpn {σ ω:Type} {f nt:Nat} {c:Code} {s:SC σ} {o:OC ω} {x:σ} {r:ω} {es:List (Ent P live X)} {hs:List (HEnt P live X)} (ls:List (LEnt P live X f nt)) (hd:allDraw P (ioB live) (live f) c=true) (hl:allL P live X ls false (loopsOf (live f) c)) (hg:allL P live X ls true (segsOf (live f) c))
  {t:Oq ω} (ht:codeL P (ioB live) (live f) (look P live X ω es) (lookH P live X ω hs) nt (lookL P live X ω ls false) (lookL P live X ω ls true) c (s.c.enc x) (λy=>match y with
   |(0,l)=>canK (headOf live f c) (headS live f c l.st) λl=>s.c.dec ω l λx=>lS P live X f nt c s o x
   |(n+1,l)=>o.dec ω (n+1,l) some)=t) (h:t=some r):lS P live X f nt c s o x=some r:=by
 refine lS_of ?_
 rw [h] at ht
 obtain ⟨n,s',h1,h2⟩:=qb7 P (call:=CallT P live X) (λf a k r=>qr2 P live X es f a k r) (qr0 P live X hs) c hd (q2g P live X hl) (q2g P live X hg) _ _ _ ht
 unfold loopFrom
 rw [h1]
 simp only [x0q]
 cases n with
 |zero =>
  simp only [x20q]
  obtain ⟨l1,e1,h4⟩:=q92 h2
  obtain ⟨y,e2,h5⟩:=s.c.ok h4
  subst e2
  have h3:=qpm h5
  apply qn
  rw [q18d,e1]
  exact h3
 |succ n =>
  simp only [Nat.succ_ne_zero,x21q]
  obtain ⟨y,e,h2⟩:=o.ok h2
  injection h2 with h2
  rw [←h2,←e]
end
structure HC (ρ:Type):Type 1 where
 enc:ρ->V×LS
 dec:(β:Type)->V×LS->(ρ->Oq β)->Oq β
 ok:∀ {β:Type} {r:V×LS} {k:ρ->Oq β} {b:β},dec β r k=some b->∃ x,r=enc x/\k x=some b
 inj:∀ {x y:ρ},(enc x).1=(enc y).1->(enc x).2.st=(enc y).2.st->x=y
def hPair {τ σ:Type} (c:Cod V τ) (s:SC σ):HC (τ×σ) where
 enc x:=(c.enc x.1,s.c.enc x.2)
 dec β r f:=match r with|(y,l)=>c.dec β y λa=>s.c.dec β l λb=>f (a,b)
 ok h:=by
  obtain ⟨x,e,h⟩:=c.ok h
  obtain ⟨z,e',h⟩:=s.c.ok h
  exact ⟨(x,z),by rw [←e,←e'],h⟩
 inj h1 h2:=Prod.ext (c.inj h1) (s.inj h2)
section
variable (P:Program) (live:FuncId->Nat->List Nat) (X:XT)
noncomputable def hS {σ ρ:Type} (f:FuncId) (s:SC σ) (o:HC ρ) (x:σ):Oq ρ:=pick λr=>heapFrom P live X f (s.c.enc x).st=some ((o.enc r).1,(o.enc r).2.st)
noncomputable def hentS {σ ρ:Type} (f:FuncId) (key:List Nat) (s:SC σ) (o:HC ρ) (g:σ->Oq ρ) (hg:∀ x r,g x=some r->heapFrom P live X f (s.c.enc x).st=some ((o.enc r).1,(o.enc r).2.st)):HEnt P live X where
 f:=f
 key:=key
 run β ls k:=s.c.dec β ls λx=>(g x).bind λr=>k ((o.enc r).1,(o.enc r).2.st)
 ok h:=by
  obtain ⟨x,e,h3⟩:=s.c.ok h
  cases hx:g x with
  |none=>rw [hx] at h3;cases h3
  |some r =>
   rw [hx] at h3
   refine ⟨_,?_,h3⟩
   rw [e]
   exact hg x r hx
variable {P live X}
theorem hS_of {σ ρ:Type} {f:FuncId} {s:SC σ} {o:HC ρ} {x:σ} {r:ρ} (h:heapFrom P live X f (s.c.enc x).st=some ((o.enc r).1,(o.enc r).2.st)):hS P live X f s o x=some r:=qv2 h λb hb=>by
 rw [h] at hb
 injection hb with hb
 injection hb with h1 h2
 exact (o.inj h1 h2).symm
theorem qkg {σ ρ:Type} {f:FuncId} {s:SC σ} {o:HC ρ} {x:σ} {r:ρ} (h:hS P live X f s o x=some r):heapFrom P live X f (s.c.enc x).st=some ((o.enc r).1,(o.enc r).2.st):=qv3 (p:=λr=>heapFrom P live X f (s.c.enc x).st=some ((o.enc r).1,(o.enc r).2.st)) h
theorem qkh {σ ρ:Type} {f:FuncId} {s:SC σ} {o:HC ρ} {x:σ} {r:ρ} {fn:Func} {c:Code} {es:List (Ent P live X)} {hs:List (HEnt P live X)} (ls:List (LEnt P live X f fn.ntmps))
  (hb:bodyOf P f=some fn) (hc:fn.body=some c) (hdf:dfB live f=false) (hd:allDraw P (ioB live) (live f) c=true) (hl:allL P live X ls false (loopsOf (live f) c)) (hg:allL P live X ls true (segsOf (live f) c))
  {t:Oq ρ} (ht:codeL P (ioB live) (live f) (look P live X ρ es) (lookH P live X ρ hs) fn.ntmps (lookL P live X ρ ls false) (lookL P live X ρ ls true) c (s.c.enc x) (λy=>if y.1<=1 then (resV P fn y.2.st).bind λvs=>(finH (fzL live f) y.2.st vs).bind λz=>canK (List.range z.1.length) { z.2 with t:=λi=>z.1.getD i .any } λls=>o.dec ρ (oneOrTup ((List.range z.1.length).map ls.st.t),ls) some else none)=t) (h:t=some r):hS P live X f s o x=some r:=by
 refine hS_of ?_
 rw [h] at ht
 obtain ⟨n,s',h1,h2⟩:=qb7 P (call:=CallT P live X) (λf a k r=>qr2 P live X es f a k r) (qr0 P live X hs) c hd (q2g P live X hl) (q2g P live X hg) _ _ _ ht
 have h3:=qn P live X h1
 unfold heapFrom
 rw [hb]
 simp only [x0q,hc,hdf,cond_false,h3]
 simp only at h2
 split at h2
 case isFalse=>cases h2
 rename_i hn
 simp only [hn,x20q]
 cases hv:resV P fn s'.st with
 |none=>rw [hv] at h2;cases h2
 |some vs =>
  rw [hv] at h2
  simp only [x0q] at h2 ⊢
  cases hz:finH (fzL live f) s'.st vs with
  |none=>rw [hz] at h2;cases h2
  |some z =>
  rw [hz] at h2
  simp only [x0q] at h2
  obtain ⟨l1,e1,h2⟩:=q92 h2
  obtain ⟨y,e,h2⟩:=o.ok h2
  injection h2 with h2
  subst h2
  have e1':endN z.1 z.2=l1.st:=e1
  simp only [x18q,←e,e1']
end
def spD (c:Code):List Code×Nat×Nat×Nat×Code:=(splitD c).getD ([],0,0,0,.skip)
section
variable (P:Program) {β:Type}
def codeLs (io:FuncId->Bool) (live:Nat->List Nat) (callE:FuncId->List V->(V×List B->Oq β)->Oq β) (chE:FuncId->Oq (List V->St->(V×St->Oq β)->Oq β)) (nt:Nat) (loopE segE:Nat->LS->(Nat×LS->Oq β)->Oq β):List Code->LS->(LS->Oq β)->Oq β
 |[],s,k=>k s
 |a::l,s,k=>codeL P io live callE chE nt loopE segE a s λx=>match x with
  |(0,s)=>codeLs io live callE chE nt loopE segE l s k
  |(_+1,_)=>none
def defE (nt k p:Nat) (s:LS) (kk:LS->Oq β):Oq β:=match tb s.t p,tb s.t k with
 |.ptr id 0,.any=>if k<nt then kk ⟨s.t,s.h,s.sh,s.og++[id]⟩ else none
 |_,_=>none
def endE (r:Oq (List V->St->(V×St->Oq β)->Oq β)) (lv:List Nat) (s:St) (kk:St->Oq β):Oq β:=match r,lastN s.og with
 |some g,some id=>heapE g [.ptr id 0] s.nx lv s.nx { s with og:=s.og.dropLast } λy=>kk { s with h:=y.2.1,sh:=y.2.2,nx:=s.nx+8,og:=s.og.dropLast }
 |_,_=>none
def codeLD (io:FuncId->Bool) (live:Nat->List Nat) (callE:FuncId->List V->(V×List B->Oq β)->Oq β) (chE:FuncId->Oq (List V->St->(V×St->Oq β)->Oq β)) (nt:Nat) (loopE segE:Nat->LS->(Nat×LS->Oq β)->Oq β) (lv:List Nat) (d:List Code×Nat×Nat×Nat×Code) (s:LS) (k:St->Oq β):Oq β :=
 codeLs P io live callE chE nt loopE segE d.1 s λs0=>defE nt d.2.1 d.2.2.1 s0 λs1=>codeL P io live callE chE nt loopE segE d.2.2.2.2 s1 λy=>if y.1<=1/\y.2.og.length=s1.og.length then endE (chE d.2.2.2.1) lv y.2.st k else none
end
section
variable {P:Program} {live:FuncId->Nat->List Nat} {X:XT}
theorem qb8 {f nt:Nat} {β:Type} {es:List (Ent P live X)} {hs:List (HEnt P live X)} {ls:List (LEnt P live X f nt)}:∀ (l:List Code) (hd:l.all (allDraw P (ioB live) (live f))=true) (hl:∀ a∈l,∀ L∈loopsOf (live f) a,∀ id,fstRegion L=some id->∀ s k r,lookL P live X β ls false id s k=some r->∃ n s',semL P live X f nt false L s.st=some (n,s'.st)/\k (n,s')=some r) (hg:∀ a∈l,∀ L∈segsOf (live f) a,∀ id,fstRegion L=some id->∀ s k r,lookL P live X β ls true id s k=some r->∃ n s',semL P live X f nt true L s.st=some (n,s'.st)/\k (n,s')=some r) (s:LS) (k:LS->Oq β) (r:β),codeLs P (ioB live) (live f) (look P live X β es) (lookH P live X β hs) nt (lookL P live X β ls false) (lookL P live X β ls true) l s k=some r->∃ s',exL (Exec P live X f nt) l s.st=some (0,s'.st)/\k s'=some r
 |[],_,_,_,s,k,r,h=>⟨s,rfl,h⟩
 |a::l,hd,hl,hg,s,k,r,h=>by
  simp only [x17q,x6q] at hd
  simp only [codeLs] at h
  obtain ⟨n,s',h1,h2⟩:=qb7 P (call:=CallT P live X) (λf a k r=>qr2 P live X es f a k r) (qr0 P live X hs) a hd.1 (hl a (by simp)) (hg a (by simp)) _ _ _ h
  have h3:=qn P live X h1
  cases n with
  |succ n=>cases h2
  |zero =>
   obtain ⟨s2,h4,h5⟩:=qb8 l hd.2 (λa ha=>hl a (by simp [ha])) (λa ha=>hg a (by simp [ha])) s' k r h2
   refine ⟨s2,?_,h5⟩
   simp only [exL,h3,x0q,x20q]
   exact h4
theorem qce {β:Type} {nt k p:Nat} {s:LS} {kk:LS->Oq β} {r:β} (h:defE nt k p s kk=some r):∃ s1,defD nt k p (0,s.st)=some s1.st/\kk s1=some r:=by
 unfold defE at h
 split at h
 case h_2=>cases h
 rename_i id e1 e2
 split at h
 case isFalse=>cases h
 rename_i hk
 refine ⟨_,?_,h⟩
 have e1':s.st.t p=.ptr id 0:=e1
 have e2':s.st.t k=.any:=e2
 unfold defD
 simp only [x20q,e1',e2',hk]
 rfl
theorem qdj {β:Type} {g:List V->St->Oq (V×St)} {gE:List V->St->(V×St->Oq β)->Oq β} (h3:∀ args s k r,gE args s k=some r->∃ x,g args s=some x/\k x=some r) {lv:List Nat} {s:St} {kk:St->Oq β} {r:β} (h:endE (some gE) lv s kk=some r):∃ s2,endD g lv s=some s2/\kk s2=some r:=by
 unfold endE at h
 split at h
 case h_2=>cases h
 rename_i g' id e1 e2
 injection e1 with e1
 subst e1
 have h4:=qm8 h3 h
 unfold endD
 rw [e2]
 simp only [x0q]
 cases hy:heapD g [.ptr id 0] s.nx lv s.nx { s with og:=s.og.dropLast } with
 |none=>rw [hy] at h4;cases h4
 |some y =>
  rw [hy] at h4
  exact ⟨_,rfl,h4⟩
theorem qki {σ ρ:Type} {f:FuncId} {s:SC σ} {o:HC ρ} {x:σ} {r:ρ} {fn:Func} {c:Code} {es:List (Ent P live X)} {hs:List (HEnt P live X)} (ls:List (LEnt P live X f fn.ntmps))
  (hb:bodyOf P f=some fn) (hc:fn.body=some c) (hdf:dfB live f=true) (hsp:splitD c=some (spD c)) (hX:X.h (spD c).2.2.2.1=none) (hio:ioB live (spD c).2.2.2.1=true) (hdg:dfB live (spD c).2.2.2.1=false)
  (hd:((spD c).1.all (allDraw P (ioB live) (live f))&&allDraw P (ioB live) (live f) (spD c).2.2.2.2)=true) (hl:allL P live X ls false ((spD c).1.flatMap (loopsOf (live f))++loopsOf (live f) (spD c).2.2.2.2)) (hg:allL P live X ls true ((spD c).1.flatMap (segsOf (live f))++segsOf (live f) (spD c).2.2.2.2))
  {t:Oq ρ} (ht:codeLD P (ioB live) (live f) (look P live X ρ es) (lookH P live X ρ hs) fn.ntmps (lookL P live X ρ ls false) (lookL P live X ρ ls true) (slotsR fn) (spD c) (s.c.enc x) (λz=>(resV P fn z).bind λvs=>(finH (fzL live f) z vs).bind λz=>canK (List.range z.1.length) { z.2 with t:=λi=>z.1.getD i .any } λls=>o.dec ρ (oneOrTup ((List.range z.1.length).map ls.st.t),ls) some)=t) (h:t=some r):hS P live X f s o x=some r:=by
 refine hS_of ?_
 rw [h] at ht
 rw [x6q] at hd
 unfold codeLD at ht
 obtain ⟨s0,h1,h2⟩:=qb8 (spD c).1 hd.1 (λa ha L hL=>q2g P live X hl L (List.mem_append_left _ (List.mem_flatMap.2 ⟨a,ha,hL⟩))) (λa ha L hL=>q2g P live X hg L (List.mem_append_left _ (List.mem_flatMap.2 ⟨a,ha,hL⟩))) _ _ _ ht
 obtain ⟨s1,h3,h4⟩:=qce h2
 obtain ⟨n,s',h5,h6⟩:=qb7 P (call:=CallT P live X) (λf a k r=>qr2 P live X es f a k r) (qr0 P live X hs) (spD c).2.2.2.2 hd.2 (λL hL=>q2g P live X hl L (List.mem_append_right _ hL)) (λL hL=>q2g P live X hg L (List.mem_append_right _ hL)) _ _ _ h4
 have h7:=qn P live X h5
 simp only at h6
 split at h6
 case isFalse=>cases h6
 rename_i hq
 have hlk:lookH P live X ρ hs (spD c).2.2.2.1=some (lookHE P live X ρ hs (spD c).2.2.2.1):=by simp only [lookH,hX,hio,x22q]
 rw [hlk] at h6
 obtain ⟨s2,h8,h9⟩:=qdj (g:=runH P (fzL live) (Exec P live X) (spD c).2.2.2.1) (λa s k r h=>by have:=qqy P live X hs (spD c).2.2.2.1 a s k r h;rwa [hdg,cond_false] at this) h6
 unfold heapFrom heapD1
 rw [hb]
 simp only [x0q,hc,hdf,x22q]
 rw [hsp]
 simp only [x0q,h1,h3,h7]
 have hq':n<=1/\s'.st.og.length=s1.st.og.length:=hq
 rw [if_pos hq']
 simp only [h8,x0q]
 cases hv:resV P fn s2 with
 |none=>rw [hv] at h9;cases h9
 |some vs =>
  rw [hv] at h9
  simp only [x0q] at h9 ⊢
  cases hz:finH (fzL live f) s2 vs with
  |none=>rw [hz] at h9;cases h9
  |some z =>
  rw [hz] at h9
  simp only [x0q] at h9
  obtain ⟨l1,e1,h9⟩:=q92 h9
  obtain ⟨y,e,h9⟩:=o.ok h9
  injection h9 with h9
  subst h9
  have e1':endN z.1 z.2=l1.st:=e1
  simp only [x18q,←e,e1']
end
abbrev x25q:=@EC.decL_encL
abbrev x26q:=@EC.isL_encL
end Go.Proofs.YtmlcmoaonaomfaaGreatDoor
