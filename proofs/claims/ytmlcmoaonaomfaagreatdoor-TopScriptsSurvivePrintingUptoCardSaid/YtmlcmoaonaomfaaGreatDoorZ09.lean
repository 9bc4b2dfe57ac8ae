/- Codes between values of the machine and plain data; functions and loops as plain functions. -/
import Derived.Test.YtmlcmoaonaomfaaGreatDoorZ08
import Derived.Test.YtmlcmoaonaomfaaGreatDoorChecked
namespace Go.Proofs.YtmlcmoaonaomfaaGreatDoor
open Go.RowKit
structure Cod (ρ τ:Type):Type 1 where
 enc:τ->ρ
 dec:(β:Type)->ρ->(τ->Oq β)->Oq β
 ok:∀ {β:Type} {r:ρ} {k:τ->Oq β} {b:β},dec β r k=some b->∃ x,r=enc x/\k x=some b
 inj:∀ {x y:τ},enc x=enc y->x=y
structure EC (τ:Type) where
 enc:τ->List C
 dec:List C->τ
 is:List C->Bool
 enc_dec:∀ {c:List C},is c=true->enc (dec c)=c
 dec_enc:∀ (x:τ),dec (enc x)=x
 is_enc:∀ (x:τ),is (enc x)=true
def cInt (k:IntKind):Cod C Int where
 enc n:=.int k n
 dec _ r f:=match r with|.int k' n=>if k'=k then f n else none|_=>none
 ok h:=by
  split at h
  ·split at h
   ·rename_i e;subst e;exact ⟨_,rfl,h⟩
   ·cases h
  ·cases h
 inj h:=by injection h
def cBool:Cod C Bool where
 enc n:=.bool n
 dec _ r f:=match r with|.bool n=>f n|_=>none
 ok h:=by split at h;exact ⟨_,rfl,h⟩;cases h
 inj h:=by injection h
def cStr:Cod C BA where
 enc n:=.str n
 dec _ r f:=match r with|.str n=>f n|_=>none
 ok h:=by split at h;exact ⟨_,rfl,h⟩;cases h
 inj h:=by injection h
theorem EC.map_dec {τ:Type} (e:EC τ):∀ {es:List (List C)},es.all e.is=true->(es.map e.dec).map e.enc=es
 |[],_=>rfl
 |c::es,h=>by simp only [x17q,x6q] at h;simp only [y20q,e.enc_dec h.1,e.map_dec h.2]
theorem EC.map_enc {τ:Type} (e:EC τ) (xs:List τ):(xs.map e.enc).map e.dec=xs:=by
 induction xs with
 |nil=>rfl
 |cons x xs ih=>simp only [y20q,e.dec_enc,ih]
theorem EC.all_enc {τ:Type} (e:EC τ) (xs:List τ):(xs.map e.enc).all e.is=true:=by
 induction xs with
 |nil=>rfl
 |cons x xs ih=>simp only [y20q,x17q,e.is_enc,ih,x4q]
def EC.encL {τ:Type} (e:EC τ) (xs:List τ):List (List C):=xs.map e.enc
def EC.decL {τ:Type} (e:EC τ) (es:List (List C)):List τ:=es.map e.dec
def EC.isL {τ:Type} (e:EC τ) (es:List (List C)):Bool:=es.all e.is
@[simp] theorem EC.decL_encL {τ:Type} (e:EC τ) (xs:List τ):e.decL (e.encL xs)=xs:=e.map_enc xs
@[simp] theorem EC.isL_encL {τ:Type} (e:EC τ) (xs:List τ):e.isL (e.encL xs)=true:=e.all_enc xs
theorem EC.encL_decL {τ:Type} (e:EC τ) {es:List (List C)} (h:e.isL es=true):e.encL (e.decL es)=es:=e.map_dec h
theorem EC.encL_inj {τ:Type} (e:EC τ) {xs ys:List τ} (h:e.encL xs=e.encL ys):xs=ys:=by rw [←e.decL_encL xs,h,e.decL_encL]
def cSl {τ:Type} (e:EC τ):Cod C (List τ) where
 enc xs:=.sl (e.encL xs)
 dec _ r f:=match r with|.sl es=>gdE (e.isL es) (f (e.decL es))|_=>none
 ok h:=by
  split at h
  ·obtain ⟨h0,h⟩:=qm2 h
   exact ⟨_,by rw [e.encL_decL h0],h⟩
  ·cases h
 inj h:=by injection h with h;exact e.encL_inj h
def vC {τ:Type} (c:Cod C τ):Cod V τ where
 enc x:=.c (c.enc x)
 dec β r f:=match r with|.c y=>c.dec β y f|_=>none
 ok h:=by
  split at h
  ·obtain ⟨x,e,h⟩:=c.ok h
   exact ⟨x,by rw [e],h⟩
  ·cases h
 inj h:=by injection h with h;exact c.inj h
def qqt {ρ τ:Type} (c:Cod ρ τ):Cod (List ρ) τ where
 enc x:=[c.enc x]
 dec β r f:=match r with|[y]=>c.dec β y f|_=>none
 ok h:=by
  split at h
  ·obtain ⟨x,e,h⟩:=c.ok h
   exact ⟨x,by rw [e],h⟩
  ·cases h
 inj h:=by injection h with h _;exact c.inj h
def qqs {ρ:Type}:Cod (List ρ) Unit where
 enc _:=[]
 dec _ r f:=match r with|[]=>f ()|_=>none
 ok h:=by split at h;exact ⟨_,rfl,h⟩;cases h
 inj _:=rfl
def qqr {ρ τ σ:Type} (c:Cod ρ τ) (d:Cod (List ρ) σ):Cod (List ρ) (τ×σ) where
 enc x:=c.enc x.1::d.enc x.2
 dec β r f:=match r with|y::l=>c.dec β y λa=>d.dec β l λb=>f (a,b)|_=>none
 ok h:=by
  split at h
  ·obtain ⟨x,e,h⟩:=c.ok h
   obtain ⟨z,e',h⟩:=d.ok h;exact ⟨(x,z),by rw [e,e'],h⟩
  ·cases h
 inj h:=by
  rename_i x y;injection h with h1 h2
  exact Prod.ext (c.inj h1) (d.inj h2)
def vAgg {τ:Type} (c:Cod (List V) τ):Cod V τ where
 enc x:=.agg (c.enc x)
 dec β r f:=match r with|.agg y=>c.dec β y f|_=>none
 ok h:=by
  split at h
  ·obtain ⟨x,e,h⟩:=c.ok h
   exact ⟨x,by rw [e],h⟩
  ·cases h
 inj h:=by injection h with h;exact c.inj h
def vTup {τ:Type} (c:Cod (List V) τ):Cod V τ where
 enc x:=.tup (c.enc x)
 dec β r f:=match r with|.tup y=>c.dec β y f|_=>none
 ok h:=by
  split at h
  ·obtain ⟨x,e,h⟩:=c.ok h
   exact ⟨x,by rw [e],h⟩
  ·cases h
 inj h:=by injection h with h;exact c.inj h
def vRow (i:Nat):Cod V Nat where
 enc n:=.row i n
 dec _ r f:=match r with|.row j n=>if j=i then f n else none|_=>none
 ok h:=by
  split at h
  ·split at h
   ·rename_i e;subst e;exact ⟨_,rfl,h⟩
   ·cases h
  ·cases h
 inj h:=by injection h
def vPtr (i o:Nat):Cod V Unit where
 enc _:=.ptr i o
 dec _ r f:=match r with|.ptr j q=>if j=i/\q=o then f () else none|_=>none
 ok h:=by
  split at h
  ·split at h
   ·rename_i e;rw [e.1,e.2];exact ⟨_,rfl,h⟩
   ·cases h
  ·cases h
 inj _:=rfl
def vMp (i:Nat):Cod V Unit where
 enc _:=.mp i
 dec _ r f:=match r with|.mp j=>if j=i then f () else none|_=>none
 ok h:=by
  split at h
  ·split at h
   ·rename_i e;rw [e];exact ⟨_,rfl,h⟩
   ·cases h
  ·cases h
 inj _:=rfl
def vEptr {τ:Type} (c:Cod (List C) τ) (o:Nat):Cod V τ where
 enc x:=.eptr (c.enc x) o
 dec β r f:=match r with|.eptr y q=>if q=o then c.dec β y f else none|_=>none
 ok h:=by
  split at h
  ·split at h
   ·rename_i e;subst e
    obtain ⟨x,e,h⟩:=c.ok h;exact ⟨x,by rw [e],h⟩
   ·cases h
  ·cases h
 inj h:=by injection h with h;exact c.inj h
def vFn {τ:Type} (g:Nat) (c:Cod (List V) τ):Cod V τ where
 enc x:=.fn g (c.enc x)
 dec β r f:=match r with|.fn q y=>if q=g then c.dec β y f else none|_=>none
 ok h:=by
  split at h
  ·split at h
   ·rename_i e;subst e
    obtain ⟨x,e,h⟩:=c.ok h;exact ⟨x,by rw [e],h⟩
   ·cases h
  ·cases h
 inj h:=by injection h with _ h;exact c.inj h
def bRow {τ:Type} (e:EC τ):Cod B (List τ) where
 enc xs:=.row (e.encL xs)
 dec _ r f:=match r with|.row es=>gdE (e.isL es) (f (e.decL es))|_=>none
 ok h:=by
  split at h
  ·obtain ⟨h0,h⟩:=qm2 h
   exact ⟨_,by rw [e.encL_decL h0],h⟩
  ·cases h
 inj h:=by injection h with h;exact e.encL_inj h
def bBox {τ:Type} (c:Cod (List V) τ):Cod B τ where
 enc x:=.box (c.enc x)
 dec β r f:=match r with|.box y=>c.dec β y f|_=>none
 ok h:=by
  split at h
  ·obtain ⟨x,e,h⟩:=c.ok h
   exact ⟨x,by rw [e],h⟩
  ·cases h
 inj h:=by injection h with h;exact c.inj h
def bMap:Cod B (List (BA×BA)) where
 enc l:=.mp l
 dec _ r f:=match r with|.mp l=>f l|_=>none
 ok h:=by
  split at h
  ·exact ⟨_,rfl,h⟩
  ·cases h
 inj h:=by injection h
def bTab {τ σ:Type} (e:EC τ) (c:Cod V σ):Cod B (List τ×Nat×σ) where
 enc x:=.tab (e.encL x.1) x.2.1 (c.enc x.2.2)
 dec β r f:=match r with|.tab es i v=>gdE (e.isL es) (c.dec β v λa=>f (e.decL es,i,a))|_=>none
 ok h:=by
  split at h
  ·obtain ⟨h0,h⟩:=qm2 h
   obtain ⟨x,e',h⟩:=c.ok h;exact ⟨(_,_,x),by rw [←e',e.encL_decL h0],h⟩
  ·cases h
 inj h:=by
  rename_i x y;injection h with h1 h2 h3
  exact Prod.ext (e.encL_inj h1) (Prod.ext h2 (c.inj h3))
def qvh {ρ τ:Type} (c:Cod ρ τ):Cod (Oq ρ) τ where
 enc x:=some (c.enc x)
 dec β r f:=match r with|some y=>c.dec β y f|_=>none
 ok h:=by
  split at h
  ·obtain ⟨x,e,h⟩:=c.ok h
   exact ⟨x,by rw [e],h⟩
  ·cases h
 inj h:=by injection h with h;exact c.inj h
def cPair {ρ ρ' τ σ:Type} (c:Cod ρ τ) (d:Cod ρ' σ):Cod (ρ×ρ') (τ×σ) where
 enc x:=(c.enc x.1,d.enc x.2)
 dec β r f:=match r with|(y,l)=>c.dec β y λa=>d.dec β l λb=>f (a,b)
 ok h:=by obtain ⟨x,e,h⟩:=c.ok h;obtain ⟨z,e',h⟩:=d.ok h;exact ⟨(x,z),by rw [←e,←e'],h⟩
 inj h:=by injection h with h1 h2;exact Prod.ext (c.inj h1) (d.inj h2)
def cFst {ρ τ σ:Type} (u:σ) (hu:∀ y:σ,y=u) (c:Cod ρ (τ×σ)):Cod ρ τ where
 enc x:=c.enc (x,u)
 dec β r f:=c.dec β r λx=>f x.1
 ok h:=by obtain ⟨⟨x,y⟩,e,h⟩:=c.ok h;exact ⟨x,by rw [e,hu y],h⟩
 inj h:=by have:=c.inj h;injection this
def cFstU {ρ τ:Type} (c:Cod ρ (τ×Unit)):Cod ρ τ:=cFst () (λ_=>rfl) c
structure SC (τ:Type):Type 1 where
 c:Cod LS τ
 inj:∀ {x y:τ},(c.enc x).st=(c.enc y).st->x=y
theorem q1kl:∀ {keys:List Nat} {a:List V} {i:Nat} {v:V},keys.Nodup->a.length=keys.length->(∃ k:Nat,keys[k]?=some i/\a[k]?=some v)->tb (keys.zip a) i=v
 |[],a,i,v,_,_,⟨k,h,_⟩=>by simp at h
 |j::keys,[],i,v,_,hl,_=>by simp at hl
 |j::keys,b::a,i,v,hn,hl,⟨k,h1,h2⟩=>by
  simp only [List.zip_cons_cons,tb];cases k with
  |zero=>simp at h1 h2;simp [h1,h2]
  |succ k =>
   simp at h1 h2;have hi:i∈keys:=y10q h1
   have hne:i≠j:=λe=>(List.nodup_cons.1 hn).1 (e ▸ hi);rw [if_neg hne];exact q1kl (List.nodup_cons.1 hn).2 (by simpa using hl) ⟨k,h1,h2⟩
theorem st_inj {keys:List Nat} {a b:List V} {h h':List (Oq B)} {sh sh':List Bool} {og og':List Nat} (hn:keys.Nodup) (ha:a.length=keys.length) (hb:b.length=keys.length) (e:LS.st ⟨keys.zip a,h,sh,og⟩=LS.st ⟨keys.zip b,h',sh',og'⟩):a=b/\h=h':=by
 have e1:tb (keys.zip a)=tb (keys.zip b):=congrArg St.t e;have e2:(λj=>(h[j]?).getD none)=(λj=>(h'[j]?).getD none):=congrArg St.h e
 have e3:h.length=h'.length:=congrArg St.nx e;constructor
 ·apply List.ext_getElem (by omega)
  intro i hi hi';have hk:i<keys.length:=by omega
  have c1:=q1kl (i:=keys[i]) (v:=a[i]) hn ha ⟨i,y1q hk,y1q hi⟩;have c2:=q1kl (i:=keys[i]) (v:=b[i]) hn hb ⟨i,y1q hk,y1q hi'⟩
  rw [←c1,e1,c2]
 ·apply List.ext_getElem e3
  intro i hi hi';have:=congrFun e2 i
  simp only [y1q hi,y1q hi',Option.getD_some] at this;exact this
def unz:List (Nat×V)->List V
 |[]=>[]
 |(_,v)::l=>v::unz l
def keysB:List Nat->List (Nat×V)->Bool
 |[],[]=>true
 |i::l,(j,_)::l'=>i==j&&keysB l l'
 |_,_=>false
theorem q1km:∀ {keys:List Nat} {t:List (Nat×V)},keysB keys t=true->keys.zip (unz t)=t
 |[],[],_=>rfl
 |[],_::_,h=>by simp [keysB] at h
 |_::_,[],h=>by simp [keysB] at h
 |i::l,(j,v)::l',h=>by simp only [keysB,x6q,beq_iff_eq] at h;simp only [unz,List.zip_cons_cons,q1km h.2,h.1]
def shB:List Bool->List Bool->Bool
 |[],[]=>true
 |true::l,true::l'=>shB l l'
 |false::l,false::l'=>shB l l'
 |_,_=>false
theorem shB_eq:∀ {a b:List Bool},shB a b=true->a=b
 |[],[],_=>rfl
 |true::a,true::b,h=>by rw [shB_eq (a:=a) (b:=b) h]
 |false::a,false::b,h=>by rw [shB_eq (a:=a) (b:=b) h]
 |[],_::_,h=>by simp [shB] at h
 |true::_,[],h=>by simp [shB] at h
 |false::_,[],h=>by simp [shB] at h
 |true::_,false::_,h=>by simp [shB] at h
 |false::_,true::_,h=>by simp [shB] at h
def nlB:List Nat->List Nat->Bool
 |[],[]=>true
 |i::l,j::l'=>i==j&&nlB l l'
 |_,_=>false
theorem nlB_eq:∀ {a b:List Nat},nlB a b=true->a=b
 |[],[],_=>rfl
 |i::a,j::b,h=>by simp only [nlB,x6q,beq_iff_eq] at h;rw [h.1,nlB_eq h.2]
 |[],_::_,h=>by simp [nlB] at h
 |_::_,[],h=>by simp [nlB] at h
def sLS {τ σ:Type} (keys:List Nat) (ct:Cod (List V) τ) (ch:Cod (List (Oq B)) σ) (sh:List Bool) (og:List Nat) (hn:keys.Nodup) (hl:∀ x,(ct.enc x).length=keys.length):SC (τ×σ) where
 c:={
  enc:=λx=>⟨keys.zip (ct.enc x.1),ch.enc x.2,sh,og⟩
  dec:=λβ s f=>match s with|⟨t,h,sh',og'⟩=>if keysB keys t&&shB sh sh'&&nlB og og' then ct.dec β (unz t) λa=>ch.dec β h λb=>f (a,b) else none
  ok:=λh=>by
   rename_i s k b;obtain ⟨t,h0,sh',og'⟩:=s;simp only at h;split at h
   ·rename_i hk
    rw [x6q,x6q] at hk;obtain ⟨x,e,h⟩:=ct.ok h;obtain ⟨z,e',h⟩:=ch.ok h;exact ⟨(x,z),by simp only [←e,←e',q1km hk.1.1,shB_eq hk.1.2,nlB_eq hk.2],h⟩
   ·cases h
  inj:=λh=>by
   rename_i x y;injection h with h1 h2 _ _
   have h1':=(st_inj (h:=[]) (h':=[]) (sh:=[]) (sh':=[]) (og:=[]) (og':=[]) hn (hl x.1) (hl y.1) (by rw [h1])).1
   exact Prod.ext (ct.inj h1') (ch.inj h2) }
 inj h:=by rename_i x y;obtain ⟨h1,h2⟩:=st_inj hn (hl x.1) (hl y.1) h;exact Prod.ext (ct.inj h1) (ch.inj h2)
structure OC (ω:Type):Type 1 where
 enc:ω->Nat×LS
 dec:(β:Type)->Nat×LS->(ω->Oq β)->Oq β
 ok:∀ {β:Type} {r:Nat×LS} {k:ω->Oq β} {b:β},dec β r k=some b->∃ x,r=enc x/\k x=some b
 inj:∀ {x y:ω},(enc x).1=(enc y).1->(enc x).2.st=(enc y).2.st->x=y
 go:(β:Type)->ω->(Nat×LS->Oq β)->Oq β
 go_eq:∀ (β:Type) (x:ω) (k:Nat×LS->Oq β),go β x k=k (enc x)
def oAt {τ:Type} (n:Nat) (s:SC τ):OC τ where
 enc x:=(n,s.c.enc x)
 dec β r f:=if r.1=n then s.c.dec β r.2 f else none
 ok h:=by
  rename_i r k b;split at h
  ·rename_i e
   obtain ⟨x,e',h⟩:=s.c.ok h;exact ⟨x,by rw [←e,←e'],h⟩
  ·cases h
 inj _ h:=s.inj h
 go _ x k:=k (n,s.c.enc x)
 go_eq _ _ _:=rfl
def oOr {τ σ:Type} (n:Nat) (s:SC τ) (o:OC σ) (hd:∀ x,(o.enc x).1≠n):OC (τ⊕σ) where
 enc x:=match x with|.inl x=>(n,s.c.enc x)|.inr y=>o.enc y
 dec β r f:=if r.1=n then s.c.dec β r.2 λx=>f (.inl x) else o.dec β r λx=>f (.inr x)
 ok h:=by
  rename_i r k b;split at h
  ·rename_i e
   obtain ⟨x,e',h⟩:=s.c.ok h;exact ⟨.inl x,by simp only [←e,←e'],h⟩
  ·obtain ⟨x,e',h⟩:=o.ok h
   exact ⟨.inr x,e',h⟩
 inj h1 h2:=by
  rename_i x y;cases x with
  |inl x=>cases y with
   |inl y=>exact congrArg Sum.inl (s.inj h2)
   |inr y=>exact absurd h1.symm (hd y)
  |inr x=>cases y with
   |inl y=>exact absurd h1 (hd x)
   |inr y=>exact congrArg Sum.inr (o.inj h1 h2)
 go β x k:=match x with|.inl x=>k (n,s.c.enc x)|.inr y=>o.go β y k
 go_eq β x k:=by cases x with|inl x=>rfl|inr y=>exact o.go_eq β y k
def isAnyV:V->Bool
 |.any=>true
 |_=>false
theorem st_ne {a b:St} (q:Nat) (h:isAnyV (a.t q)≠isAnyV (b.t q)):a≠b:=λe=>h (by rw [e])
def oOrK {τ σ : Type} (n : Nat) (ks : List Nat) (s : SC τ) (o : OC σ) (hd : ∀ x y, (o.enc y).1 ≠ n ∨ (s.c.enc x).st ≠ (o.enc y).2.st) : OC (τ ⊕ σ) where
  enc x := match x with | .inl x => (n, s.c.enc x) | .inr y => o.enc y
  dec β r f := if (r.1 == n && keysB ks r.2.t) = true then s.c.dec β r.2 λx => f (.inl x) else o.dec β r λx => f (.inr x)
  ok h := by
    rename_i r k b;split at h
    · rename_i e
      rw [x6q, beq_iff_eq] at e;obtain ⟨x, e', h⟩ := s.c.ok h;exact ⟨.inl x, by simp only [← e.1, ← e'], h⟩
    · obtain ⟨x, e', h⟩ := o.ok h
      exact ⟨.inr x, e', h⟩
  inj h1 h2 := by
    rename_i x y;cases x with
    | inl x => cases y with
      | inl y => exact congrArg Sum.inl (s.inj h2)
      | inr y => rcases hd x y with e | e
                 · exact absurd h1.symm e
                 · exact absurd h2 e
    | inr x => cases y with
      | inl y => rcases hd y x with e | e
                 · exact absurd h1 e
                 · exact absurd h2.symm e
      | inr y => exact congrArg Sum.inr (o.inj h1 h2)
  go β x k := match x with | .inl x => k (n, s.c.enc x) | .inr y => o.go β y k
  go_eq β x k := by cases x with | inl x => rfl | inr y => exact o.go_eq β y k
section
variable (P:Program) (live:FuncId->Nat->List Nat) (X:XT)
noncomputable def fS {τ ρ:Type} (f:FuncId) (ca:Cod (List V) τ) (cr:Cod (V×List B) ρ) (x:τ):Oq ρ:=pick λr=>Call P live X f (ca.enc x)=some (cr.enc r)
noncomputable def lS {σ ω:Type} (f nt:Nat) (c:Code) (s:SC σ) (o:OC ω) (x:σ):Oq ω:=pick λr=>loopFrom P live X f nt c (s.c.enc x).st=some ((o.enc r).1,(o.enc r).2.st)
variable {P live X}
theorem qi4 {τ ρ:Type} {f:FuncId} {ca:Cod (List V) τ} {cr:Cod (V×List B) ρ} {x:τ} {r:ρ} (h:fS P live X f ca cr x=some r):Call P live X f (ca.enc x)=some (cr.enc r):=qyf (p:=λr=>Call P live X f (ca.enc x)=some (cr.enc r)) h
theorem fS_of {τ ρ:Type} {f:FuncId} {ca:Cod (List V) τ} {cr:Cod (V×List B) ρ} {x:τ} {r:ρ} (h:Call P live X f (ca.enc x)=some (cr.enc r)):fS P live X f ca cr x=some r:=qye h λb hb=>by
 rw [h] at hb;injection hb with hb
 exact (cr.inj hb).symm
theorem lS_of {σ ω:Type} {f nt:Nat} {c:Code} {s:SC σ} {o:OC ω} {x:σ} {r:ω} (h:loopFrom P live X f nt c (s.c.enc x).st=some ((o.enc r).1,(o.enc r).2.st)):lS P live X f nt c s o x=some r:=qye h λb hb=>by
 rw [h] at hb;injection hb with hb
 injection hb with h1 h2;exact (o.inj h1 h2).symm
theorem qqu {σ ω:Type} {f nt:Nat} {c:Code} {s:SC σ} {o:OC ω} {x:σ} {r:ω} (h:lS P live X f nt c s o x=some r):loopFrom P live X f nt c (s.c.enc x).st=some ((o.enc r).1,(o.enc r).2.st):=qyf (p:=λr=>loopFrom P live X f nt c (s.c.enc x).st=some ((o.enc r).1,(o.enc r).2.st)) h
variable (P live X)
structure Ent:Type 1 where
 f:Nat
 key:List Nat
 run:(β:Type)->List V->(V×List B->Oq β)->Oq β
 ok:∀ {β:Type} {a:List V} {k:V×List B->Oq β} {r:β},run β a k=some r->(Call P live X f a).bind k=some r
def keyOf:List V->List Nat
 |[]=>[]
 |.fn f _::l=>f::keyOf l
 |_::l=>keyOf l
def keyEq:List Nat->List Nat->Bool
 |[],[]=>true
 |i::l,j::l'=>i==j&&keyEq l l'
 |_,_=>false
def look (β:Type):List (Ent P live X)->FuncId->List V->(V×List B->Oq β)->Oq β
 |[],_,_,_=>none
 |e::es,f,a,k=>bif f==e.f&&keyEq e.key (keyOf a) then e.run β a k else look β es f a k
theorem qse {β:Type}:∀ (es:List (Ent P live X)) (f:FuncId) (a:List V) (k:V×List B->Oq β) (r:β),look P live X β es f a k=some r->(Call P live X f a).bind k=some r
 |[],_,_,_,_,h=>by cases h
 |e::es,f,a,k,r,h=>by
  unfold look at h;cases hb:f==e.f&&keyEq e.key (keyOf a) with
  |true =>
   rw [hb] at h;rw [x6q] at hb;have:f=e.f:=by simpa using hb.1
   subst this;exact e.ok h
  |false=>rw [hb] at h;exact qse es f a k r h
def entS {τ ρ:Type} (f:FuncId) (key:List Nat) (ca:Cod (List V) τ) (cr:Cod (V×List B) ρ) (g:τ->Oq ρ) (hg:∀ x r,g x=some r->Call P live X f (ca.enc x)=some (cr.enc r)):Ent P live X where
 f:=f
 key:=key
 run β a k:=ca.dec β a λx=>(g x).bind λr=>k (cr.enc r)
 ok h:=by
  obtain ⟨x,e,h'⟩:=ca.ok h;clear h;have h:=h'
  subst e;cases hx:g x with
  |none=>rw [hx] at h;cases h
  |some r=>rw [hx] at h;rw [hg x r hx];exact h
def keyC:C->Nat
 |.int _ _=>1|.bool _=>2|.str _=>3|.sl _=>4|.nilS=>5|.ne=>6|.zs=>7|.nilP=>8|.nilF=>9
def keyV0:V->List Nat
 |.c x=>[1,keyC x]
 |.row id _=>[2,id]
 |.ptr id off=>[3,id,off]
 |.rptr id k _ off=>[4,id,k,off]
 |.eptr cs off=>[5,cs.length,off]
 |_=>[0]
def keyV:V->List Nat
 |.agg cs=>7::cs.length::cs.flatMap keyV0
 |.fn f cs=>6::f::cs.length::cs.flatMap keyV0
 |.mp id=>[8,id]
 |v=>keyV0 v
def keyB:Oq B->List Nat
 |some (.box cs)=>1::cs.length::cs.flatMap keyV
 |some (.row _)=>[2]
 |some (.tab _ _ v)=>3::keyV v
 |some (.mp _)=>[4]
 |none=>[0]
def keyLS (s:LS):List Nat:=s.t.flatMap (λp=>p.1::keyV p.2)++(s.h.flatMap keyB++s.og)
noncomputable def heapD1 (f:FuncId) (fn:Func) (c:Code) (st:St):Oq (V×St):=(splitD c).bind λd=>(exL (Exec P live X f fn.ntmps) d.1 st).bind λx =>
 (defD fn.ntmps d.2.1 d.2.2.1 x).bind λs1=>(Exec P live X f fn.ntmps d.2.2.2.2 s1).bind λy =>
  if y.1<=1/\y.2.og.length=s1.og.length then (endD (runH P (fzL live) (Exec P live X) d.2.2.2.1) (slotsR fn) y.2).bind λs2=>(resV P fn s2).bind λvs=>(finH (fzL live f) s2 vs).map λz=>(oneOrTup ((List.range z.1.length).map (endN z.1 z.2).t),endN z.1 z.2) else none
noncomputable def heapFrom (f:FuncId) (st:St):Oq (V×St):=(bodyOf P f).bind λfn=>fn.body.bind λc=>bif dfB live f then heapD1 P live X f fn c st else (Exec P live X f fn.ntmps c st).bind λx=>if x.1<=1 then (resV P fn x.2).bind λvs=>(finH (fzL live f) x.2 vs).map λz=>(oneOrTup ((List.range z.1.length).map (endN z.1 z.2).t),endN z.1 z.2) else none
structure HEnt:Type 1 where
 f:Nat
 key:List Nat
 run:(β:Type)->LS->(V×St->Oq β)->Oq β
 ok:∀ {β:Type} {s:LS} {k:V×St->Oq β} {r:β},run β s k=some r->∃ x,heapFrom P live X f s.st=some x/\k x=some r
def lookHK (β:Type):List (HEnt P live X)->FuncId->LS->(V×St->Oq β)->Oq β
 |[],_,_,_=>none
 |e::es,f,s,k=>bif f==e.f&&nlB e.key (keyLS s) then e.run β s k else lookHK β es f s k
theorem qsb {β:Type}:∀ (es:List (HEnt P live X)) (f:FuncId) (s:LS) (k:V×St->Oq β) (r:β),lookHK P live X β es f s k=some r->∃ x,heapFrom P live X f s.st=some x/\k x=some r
 |[],_,_,_,_,h=>by cases h
 |e::es,f,s,k,r,h=>by
  unfold lookHK at h;cases hb:f==e.f&&nlB e.key (keyLS s) with
  |true =>
   rw [hb] at h;rw [x6q] at hb;have:f=e.f:=by simpa using hb.1
   subst this;exact e.ok h
  |false=>rw [hb] at h;exact qsb es f s k r h
def lookHE (β:Type) (es:List (HEnt P live X)) (f:FuncId) (a:List V) (s:St) (k:V×St->Oq β):Oq β :=
 (bodyOf P f).bind λfn=>if a.length<=fn.ntmps then canK (List.range a.length) (hst a s) λls=>lookHK P live X β es f ls k else none
theorem qsa {β:Type} (es:List (HEnt P live X)) (f:FuncId) (a:List V) (s:St) (k:V×St->Oq β) (r:β) (h:lookHE P live X β es f a s k=some r):∃ x,(bif dfB live f then runHD P (fzL live) (Exec P live X) f a s else runH P (fzL live) (Exec P live X) f a s)=some x/\k x=some r:=by
 unfold lookHE at h;cases hb:bodyOf P f with
 |none=>rw [hb] at h;cases h
 |some fn =>
  rw [hb] at h;simp only [x0q] at h;split at h
  case isFalse=>cases h
  rename_i hn;obtain ⟨l1,h1,h2⟩:=q98 h;obtain ⟨x,h3,h4⟩:=qsb P live X es f l1 k r h2;refine ⟨x,?_,h4⟩;rw [←h1] at h3;unfold heapFrom at h3;rw [hb] at h3;cases hdf:dfB live f with
  |true =>rw [hdf] at h3;simp only [x22q] at h3 ⊢;unfold runHD;rw [hb];simp only [x0q,hn,x20q] at h3 ⊢;exact h3
  |false =>rw [hdf] at h3;simp only [cond_false] at h3 ⊢;unfold runH;rw [hb];simp only [x0q,hn,x20q] at h3 ⊢;exact h3
def runXE (β:Type) (R:XRule) (a:List V) (s:St) (k:V×St->Oq β):Oq β :=
 if a.length=R.n then canK (List.range a.length) (hst a s) λls=>R.run β ls.st λx=>canK (List.range x.1.length) { x.2 with t:=λi=>x.1.getD i .any } λl2=>k (oneOrTup ((List.range x.1.length).map l2.st.t),l2.st) else none
theorem q1bs {β:Type} (R:XRule) (a:List V) (s:St) (k:V×St->Oq β) (r:β) (h:runXE β R a s k=some r):∃ x,runX R a s=some x/\k x=some r:=by
 unfold runXE at h;split at h
 case isFalse=>cases h
 rename_i hn;obtain ⟨l1,h1,h2⟩:=q98 h;rw [R.ok] at h2;cases hx:R.run (List V×St) l1.st some with
 |none=>rw [hx] at h2;cases h2
 |some x =>
  rw [hx] at h2;simp only [x0q] at h2;obtain ⟨l2,h3,h4⟩:=q98 h2;refine ⟨_,?_,h4⟩;unfold runX;have e:endN x.1 x.2=l2.st:=h3
  rw [if_pos hn,h1,hx,x18q,e]
def lookH (β:Type) (hs:List (HEnt P live X)) (f:FuncId):Oq (List V->St->(V×St->Oq β)->Oq β) :=
 match X.h f with
 |some R=>some (runXE β R)
 |none=>bif ioB live f then some (lookHE P live X β hs f) else none
theorem qsc {β:Type} (hs:List (HEnt P live X)):KE (CallT P live X).ch (lookH P live X β hs):=by
 intro f;cases hXf:X.h f with
 |some R=>exact .inr ⟨runX R,runXE β R,by simp only [CallT,callH,hXf],by simp only [lookH,hXf],λa s k r h=>q1bs R a s k r h⟩
 |none =>
 cases hio:ioB live f with
 |false=>exact .inl ⟨by simp only [CallT,callH,hXf,hio,cond_false],by simp only [lookH,hXf,hio,cond_false]⟩
 |true =>
  cases hdf:dfB live f with
  |true=>exact .inr ⟨runHD P (fzL live) (Exec P live X) f,lookHE P live X β hs f,by simp only [CallT,callH,hXf,hio,hdf,x22q],by simp only [lookH,hXf,hio,x22q],λa s k r h=>by have:=qsa P live X hs f a s k r h;rwa [hdf,cond_true] at this⟩
  |false=>exact .inr ⟨runH P (fzL live) (Exec P live X) f,lookHE P live X β hs f,by simp only [CallT,callH,hXf,hio,hdf,x22q,cond_false],by simp only [lookH,hXf,hio,x22q],λa s k r h=>by have:=qsa P live X hs f a s k r h;rwa [hdf,cond_false] at this⟩
noncomputable def semL (f nt:Nat) (g:Bool) (c:Code) (s:St):Oq (Nat×St):=match g with
 |true=>stepC P (live f) (CallT P live X) nt (Exec P live X f nt) c (cutS (live f) c s)
 |false=>stepC P (live f) (CallT P live X) nt (Exec P live X f nt) (.loop c) s
structure LEnt (f nt:Nat):Type 1 where
 g:Bool
 id:Nat
 c:Code
 run:(β:Type)->LS->(Nat×LS->Oq β)->Oq β
 ok:∀ {β:Type} {s:LS} {k:Nat×LS->Oq β} {r:β},run β s k=some r->∃ n s',semL P live X f nt g c s.st=some (n,s'.st)/\k (n,s')=some r
def bEq:Bool->Bool->Bool
 |true,true=>true
 |false,false=>true
 |_,_=>false
theorem q5f {a b:Bool}:bEq a b=true ↔ a=b:=by cases a <;> cases b <;> simp [bEq]
def lookL (β:Type) {f nt:Nat}:List (LEnt P live X f nt)->Bool->Nat->LS->(Nat×LS->Oq β)->Oq β
 |[],_,_,_,_=>none
 |e::es,g,id,s,k=>bif bEq g e.g&&id==e.id then e.run β s k else lookL β es g id s k
def allL {f nt:Nat} (es:List (LEnt P live X f nt)) (g:Bool):List Code->Prop
 |[]=>True
 |L::Ls=>(∃ e,es.find? (λe=>bEq g e.g&&fstRegion L==some e.id)=some e/\e.c=L)/\allL es g Ls
theorem qsd {β:Type} {f nt:Nat} {g:Bool}:∀ (es:List (LEnt P live X f nt)) (L:Code) (e:LEnt P live X f nt),es.find? (λe=>bEq g e.g&&fstRegion L==some e.id)=some e->e.c=L->∀ id,fstRegion L=some id->∀ s k r,lookL P live X β es g id s k=some r->∃ n s',semL P live X f nt g L s.st=some (n,s'.st)/\k (n,s')=some r
 |[],L,e,h,_,_,_,_,_,_,_=>by simp at h
 |e0::es,L,e,h,hc,id,hid,s,k,r,hr=>by
  rw [List.find?_cons] at h;unfold lookL at hr;rw [hid] at h;by_cases hi:(bEq g e0.g&&id==e0.id)=true
  ·have hi':(bEq g e0.g&&some id==some e0.id)=true:=by simpa using hi
   rw [hi'] at h;simp only [y19q] at h;subst h;rw [hi,x22q] at hr;obtain ⟨n,s',h1,h2⟩:=e0.ok hr;rw [x6q] at hi;rw [hc,←q5f.1 hi.1] at h1;exact ⟨n,s',h1,h2⟩
  ·have h1:(bEq g e0.g&&id==e0.id)=false:=by simpa using hi
   have h2:(bEq g e0.g&&some id==some e0.id)=false:=by simpa using hi
   rw [h2] at h;rw [h1,cond_false] at hr;exact qsd es L e (by rw [hid];exact h) hc id hid s k r hr
theorem q2f {β:Type} {f nt:Nat} {g:Bool} {es:List (LEnt P live X f nt)}:∀ {Ls:List Code},allL P live X es g Ls->∀ L∈Ls,∀ id,fstRegion L=some id->∀ s k r,lookL P live X β es g id s k=some r->∃ n s',semL P live X f nt g L s.st=some (n,s'.st)/\k (n,s')=some r
 |[],_,L,hL=>by simp at hL
 |L0::Ls,h,L,hL=>by
  rcases y32q.1 hL with e|hL
  ·subst e
   obtain ⟨⟨e,h1,h2⟩,_⟩:=h;exact qsd P live X es L e h1 h2
  ·exact q2f h.2 L hL
def lentS {σ ω:Type} {f nt:Nat} (id:Nat) (c:Code) (s:SC σ) (o:OC ω) (g:σ->Oq ω) (hg:∀ x r,g x=some r->loopFrom P live X f nt c (s.c.enc x).st=some ((o.enc r).1,(o.enc r).2.st)):LEnt P live X f nt where
 g:=false
 id:=id
 c:=c
 run β ls k:=canK (headOf live f c) (headS live f c ls.st) λls=>s.c.dec β ls λx=>(g x).bind λr=>o.go β r k
 ok h:=by
  obtain ⟨l1,h1,h2⟩:=q98 h;obtain ⟨x,e,h3⟩:=s.c.ok h2;clear h h2;have h:=h3
  subst e;simp only [o.go_eq] at h;cases hx:g x with
  |none=>rw [hx] at h;cases h
  |some r =>rw [hx] at h;refine ⟨_,_,?_,h⟩;simp only [semL];rw [q1dl,h1];exact hg x r hx
noncomputable def gS {σ ω:Type} (f nt:Nat) (c:Code) (s:SC σ) (o:OC ω) (x:σ):Oq ω:=pick λr=>stepC P (live f) (CallT P live X) nt (Exec P live X f nt) c (s.c.enc x).st=some ((o.enc r).1,(o.enc r).2.st)
def gentS {σ ω:Type} {f nt:Nat} (id:Nat) (c:Code) (hne:(cutL (live f) c).isEmpty=false) (s:SC σ) (o:OC ω) (g:σ->Oq ω) (hg:∀ x r,g x=some r->stepC P (live f) (CallT P live X) nt (Exec P live X f nt) c (s.c.enc x).st=some ((o.enc r).1,(o.enc r).2.st)):LEnt P live X f nt where
 g:=true
 id:=id
 c:=c
 run β ls k:=canK (cutL (live f) c) ls.st λls=>s.c.dec β ls λx=>(g x).bind λr=>o.go β r k
 ok h:=by
  rename_i ls k r0;obtain ⟨l1,h1,h2⟩:=q98 h;obtain ⟨x,e,h3⟩:=s.c.ok h2;clear h h2;have h:=h3
  subst e;simp only [o.go_eq] at h;cases hx:g x with
  |none=>rw [hx] at h;cases h
  |some r =>
   rw [hx] at h;refine ⟨_,_,?_,h⟩;have e2:cutS (live f) c ls.st=canon (cutL (live f) c) ls.st:=by
    unfold cutS;cases hc:cutL (live f) c with
    |nil=>rw [hc] at hne;cases hne
    |cons i l=>rfl
   show stepC P (live f) (CallT P live X) nt (Exec P live X f nt) c (cutS (live f) c ls.st)=_;rw [e2,h1];exact hg x r hx
variable {P live X}
theorem gS_of {σ ω:Type} {f nt:Nat} {c:Code} {s:SC σ} {o:OC ω} {x:σ} {r:ω} (h:stepC P (live f) (CallT P live X) nt (Exec P live X f nt) c (s.c.enc x).st=some ((o.enc r).1,(o.enc r).2.st)):gS P live X f nt c s o x=some r:=qye h λb hb=>by
 rw [h] at hb;injection hb with hb
 injection hb with h1 h2;exact (o.inj h1 h2).symm
theorem qly {σ ω:Type} {f nt:Nat} {c:Code} {s:SC σ} {o:OC ω} {x:σ} {r:ω} (h:gS P live X f nt c s o x=some r):stepC P (live f) (CallT P live X) nt (Exec P live X f nt) c (s.c.enc x).st=some ((o.enc r).1,(o.enc r).2.st):=qyf (p:=λr=>stepC P (live f) (CallT P live X) nt (Exec P live X f nt) c (s.c.enc x).st=some ((o.enc r).1,(o.enc r).2.st)) h
theorem qlz {σ ω:Type} {f nt:Nat} {c:Code} {s:SC σ} {o:OC ω} {x:σ} {r:ω} {es:List (Ent P live X)} {hs:List (HEnt P live X)} (ls:List (LEnt P live X f nt)) (hd:allDraw P (ioB live) (live f) c=true) (hl:allL P live X ls false (loopsOf (live f) c)) (hg:allL P live X ls true (segsOf (live f) c))
  {t:Oq ω} (ht:codeL P (ioB live) (live f) (look P live X ω es) (lookH P live X ω hs) nt (lookL P live X ω ls false) (lookL P live X ω ls true) c (s.c.enc x) (λy=>o.dec ω y some)=t) (h:t=some r):gS P live X f nt c s o x=some r:=by
 refine gS_of ?_;rw [h] at ht;obtain ⟨n,s',h1,h2⟩:=q9x P (call:=CallT P live X) (λf a k r=>qse P live X es f a k r) (qsc P live X hs) c hd (q2f P live X hl) (q2f P live X hg) _ _ _ ht;obtain ⟨y,e,h2⟩:=o.ok h2;injection h2 with h2
 rw [h1,←h2,←e]
theorem qi5 {τ ρ:Type} {f:FuncId} {ca:Cod (List V) τ} {cr:Cod (V×List B) ρ} {x:τ} {r:ρ} {fn:Func} {c:Code} {es:List (Ent P live X)} {hs:List (HEnt P live X)} (ls:List (LEnt P live X f fn.ntmps))
  (hf : P.funcs[f]? = some fn) (hb : fn.body = some c) (hn : (fn.name == "runtime.NumGoroutine") = false) (hX : X.c f (ca.enc x) = none) (ha : decide ((ca.enc x).length ≤ fn.ntmps) = true) (hd : allDraw P (ioB live) (live f) c = true) (hl : allL P live X ls false (loopsOf (live f) c)) (hg : allL P live X ls true (segsOf (live f) c))
  {t:Oq ρ} (ht:codeL P (ioB live) (live f) (look P live X ρ es) (lookH P live X ρ hs) fn.ntmps (lookL P live X ρ ls false) (lookL P live X ρ ls true) c ⟨en (ca.enc x) 0,[],[],[]⟩ (λy=>(endF P (fzL live f) fn (y.1,y.2.st)).bind λz=>cr.dec ρ z some)=t) (h:t=some r):fS P live X f ca cr x=some r:=by
 refine fS_of ?_;rw [h] at ht;obtain ⟨n,s',h1,h2⟩:=q9x P (call:=CallT P live X) (λf a k r=>qse P live X es f a k r) (qsc P live X hs) c hd (q2f P live X hl) (q2f P live X hg) _ _ _ ht;refine qe hf hb hn hX ha ?_;rw [st0_eq,h1];cases he:endF P (fzL live f) fn (n,s'.st) with
 |none=>simp only [he] at h2;cases h2
 |some z =>
  simp only [he,x0q] at h2;obtain ⟨y,e,h2⟩:=cr.ok h2;injection h2 with h2
  simp only [x0q,he,e,h2]
theorem qqv {σ ω:Type} {f nt:Nat} {c:Code} {s:SC σ} {o:OC ω} {x:σ} {r:ω} {es:List (Ent P live X)} {hs:List (HEnt P live X)} (ls:List (LEnt P live X f nt)) (hd:allDraw P (ioB live) (live f) c=true) (hl:allL P live X ls false (loopsOf (live f) c)) (hg:allL P live X ls true (segsOf (live f) c))
  {t:Oq ω} (ht:codeL P (ioB live) (live f) (look P live X ω es) (lookH P live X ω hs) nt (lookL P live X ω ls false) (lookL P live X ω ls true) c (s.c.enc x) (λy=>match y with
   |(0,l)=>canK (headOf live f c) (headS live f c l.st) λl=>s.c.dec ω l λx=>lS P live X f nt c s o x
   |(n+1,l)=>o.dec ω (n+1,l) some)=t) (h:t=some r):lS P live X f nt c s o x=some r:=by
 refine lS_of ?_;rw [h] at ht;obtain ⟨n,s',h1,h2⟩:=q9x P (call:=CallT P live X) (λf a k r=>qse P live X es f a k r) (qsc P live X hs) c hd (q2f P live X hl) (q2f P live X hg) _ _ _ ht;unfold loopFrom;rw [h1];simp only [x0q];cases n with
 |zero =>
  simp only [x20q];obtain ⟨l1,e1,h4⟩:=q98 h2;obtain ⟨y,e2,h5⟩:=s.c.ok h4;subst e2;have h3:=qqu h5
  apply qn;rw [q1dl,e1];exact h3
 |succ n =>
  simp only [Nat.succ_ne_zero,x21q];obtain ⟨y,e,h2⟩:=o.ok h2;injection h2 with h2
  rw [←h2,←e]
end
structure HC (ρ:Type):Type 1 where
 enc:ρ->V×LS
 dec:(β:Type)->V×LS->(ρ->Oq β)->Oq β
 ok:∀ {β:Type} {r:V×LS} {k:ρ->Oq β} {b:β},dec β r k=some b->∃ x,r=enc x/\k x=some b
 inj:∀ {x y:ρ},(enc x).1=(enc y).1->(enc x).2.st=(enc y).2.st->x=y
def hPair {τ σ:Type} (c:Cod V τ) (s:SC σ):HC (τ×σ) where
 enc x:=(c.enc x.1,s.c.enc x.2)
 dec β r f:=match r with|(y,l)=>c.dec β y λa=>s.c.dec β l λb=>f (a,b)
 ok h:=by obtain ⟨x,e,h⟩:=c.ok h;obtain ⟨z,e',h⟩:=s.c.ok h;exact ⟨(x,z),by rw [←e,←e'],h⟩
 inj h1 h2:=Prod.ext (c.inj h1) (s.inj h2)
section
variable (P:Program) (live:FuncId->Nat->List Nat) (X:XT)
noncomputable def hS {σ ρ:Type} (f:FuncId) (s:SC σ) (o:HC ρ) (x:σ):Oq ρ:=pick λr=>heapFrom P live X f (s.c.enc x).st=some ((o.enc r).1,(o.enc r).2.st)
noncomputable def hentS {σ ρ:Type} (f:FuncId) (key:List Nat) (s:SC σ) (o:HC ρ) (g:σ->Oq ρ) (hg:∀ x r,g x=some r->heapFrom P live X f (s.c.enc x).st=some ((o.enc r).1,(o.enc r).2.st)):HEnt P live X where
 f:=f
 key:=key
 run β ls k:=s.c.dec β ls λx=>(g x).bind λr=>k ((o.enc r).1,(o.enc r).2.st)
 ok h:=by
  obtain ⟨x,e,h3⟩:=s.c.ok h;cases hx:g x with
  |none=>rw [hx] at h3;cases h3
  |some r =>rw [hx] at h3;refine ⟨_,?_,h3⟩;rw [e];exact hg x r hx
variable {P live X}
theorem hS_of {σ ρ:Type} {f:FuncId} {s:SC σ} {o:HC ρ} {x:σ} {r:ρ} (h:heapFrom P live X f (s.c.enc x).st=some ((o.enc r).1,(o.enc r).2.st)):hS P live X f s o x=some r:=qye h λb hb=>by
 rw [h] at hb;injection hb with hb
 injection hb with h1 h2;exact (o.inj h1 h2).symm
theorem qmf {σ ρ:Type} {f:FuncId} {s:SC σ} {o:HC ρ} {x:σ} {r:ρ} (h:hS P live X f s o x=some r):heapFrom P live X f (s.c.enc x).st=some ((o.enc r).1,(o.enc r).2.st):=qyf (p:=λr=>heapFrom P live X f (s.c.enc x).st=some ((o.enc r).1,(o.enc r).2.st)) h
theorem qmg {σ ρ:Type} {f:FuncId} {s:SC σ} {o:HC ρ} {x:σ} {r:ρ} {fn:Func} {c:Code} {es:List (Ent P live X)} {hs:List (HEnt P live X)} (ls:List (LEnt P live X f fn.ntmps))
  (hb:bodyOf P f=some fn) (hc:fn.body=some c) (hdf:dfB live f=false) (hd:allDraw P (ioB live) (live f) c=true) (hl:allL P live X ls false (loopsOf (live f) c)) (hg:allL P live X ls true (segsOf (live f) c))
  {t:Oq ρ} (ht:codeL P (ioB live) (live f) (look P live X ρ es) (lookH P live X ρ hs) fn.ntmps (lookL P live X ρ ls false) (lookL P live X ρ ls true) c (s.c.enc x) (λy=>if y.1<=1 then (resV P fn y.2.st).bind λvs=>(finH (fzL live f) y.2.st vs).bind λz=>canK (List.range z.1.length) { z.2 with t:=λi=>z.1.getD i .any } λls=>o.dec ρ (oneOrTup ((List.range z.1.length).map ls.st.t),ls) some else none)=t) (h:t=some r):hS P live X f s o x=some r:=by
 refine hS_of ?_;rw [h] at ht;obtain ⟨n,s',h1,h2⟩:=q9x P (call:=CallT P live X) (λf a k r=>qse P live X es f a k r) (qsc P live X hs) c hd (q2f P live X hl) (q2f P live X hg) _ _ _ ht;have h3:=qn P live X h1
 unfold heapFrom;rw [hb];simp only [x0q,hc,hdf,cond_false,h3];simp only at h2;split at h2
 case isFalse=>cases h2
 rename_i hn;simp only [hn,x20q];cases hv:resV P fn s'.st with
 |none=>rw [hv] at h2;cases h2
 |some vs =>
  rw [hv] at h2;simp only [x0q] at h2 ⊢;cases hz:finH (fzL live f) s'.st vs with
  |none=>rw [hz] at h2;cases h2
  |some z =>
  rw [hz] at h2;simp only [x0q] at h2;obtain ⟨l1,e1,h2⟩:=q98 h2;obtain ⟨y,e,h2⟩:=o.ok h2;injection h2 with h2
  subst h2;have e1':endN z.1 z.2=l1.st:=e1
  simp only [x18q,←e,e1']
end
def spD (c:Code):List Code×Nat×Nat×Nat×Code:=(splitD c).getD ([],0,0,0,.skip)
section
variable (P:Program) {β:Type}
def codeLs (io:FuncId->Bool) (live:Nat->List Nat) (callE:FuncId->List V->(V×List B->Oq β)->Oq β) (chE:FuncId->Oq (List V->St->(V×St->Oq β)->Oq β)) (nt:Nat) (loopE segE:Nat->LS->(Nat×LS->Oq β)->Oq β):List Code->LS->(LS->Oq β)->Oq β
 |[],s,k=>k s
 |a::l,s,k=>codeL P io live callE chE nt loopE segE a s λx=>match x with
  |(0,s)=>codeLs io live callE chE nt loopE segE l s k
  |(_+1,_)=>none
def defE (nt k p:Nat) (s:LS) (kk:LS->Oq β):Oq β:=match tb s.t p,tb s.t k with
 |.ptr id 0,.any=>if k<nt then kk ⟨s.t,s.h,s.sh,s.og++[id]⟩ else none
 |_,_=>none
def endE (r:Oq (List V->St->(V×St->Oq β)->Oq β)) (lv:List Nat) (s:St) (kk:St->Oq β):Oq β:=match r,lastN s.og with
 |some g,some id=>heapE g [.ptr id 0] s.nx lv s.nx { s with og:=s.og.dropLast } λy=>kk { s with h:=y.2.1,sh:=y.2.2,nx:=s.nx+8,og:=s.og.dropLast }
 |_,_=>none
def codeLD (io:FuncId->Bool) (live:Nat->List Nat) (callE:FuncId->List V->(V×List B->Oq β)->Oq β) (chE:FuncId->Oq (List V->St->(V×St->Oq β)->Oq β)) (nt:Nat) (loopE segE:Nat->LS->(Nat×LS->Oq β)->Oq β) (lv:List Nat) (d:List Code×Nat×Nat×Nat×Code) (s:LS) (k:St->Oq β):Oq β :=
 codeLs P io live callE chE nt loopE segE d.1 s λs0=>defE nt d.2.1 d.2.2.1 s0 λs1=>codeL P io live callE chE nt loopE segE d.2.2.2.2 s1 λy=>if y.1<=1/\y.2.og.length=s1.og.length then endE (chE d.2.2.2.1) lv y.2.st k else none
end
section
variable {P:Program} {live:FuncId->Nat->List Nat} {X:XT}
theorem q9y {f nt:Nat} {β:Type} {es:List (Ent P live X)} {hs:List (HEnt P live X)} {ls:List (LEnt P live X f nt)}:∀ (l:List Code) (_hd:l.all (allDraw P (ioB live) (live f))=true) (_hl:∀ a∈l,∀ L∈loopsOf (live f) a,∀ id,fstRegion L=some id->∀ s k r,lookL P live X β ls false id s k=some r->∃ n s',semL P live X f nt false L s.st=some (n,s'.st)/\k (n,s')=some r) (_hg:∀ a∈l,∀ L∈segsOf (live f) a,∀ id,fstRegion L=some id->∀ s k r,lookL P live X β ls true id s k=some r->∃ n s',semL P live X f nt true L s.st=some (n,s'.st)/\k (n,s')=some r) (s:LS) (k:LS->Oq β) (r:β),codeLs P (ioB live) (live f) (look P live X β es) (lookH P live X β hs) nt (lookL P live X β ls false) (lookL P live X β ls true) l s k=some r->∃ s',exL (Exec P live X f nt) l s.st=some (0,s'.st)/\k s'=some r
 |[],_,_,_,s,k,r,h=>⟨s,rfl,h⟩
 |a::l,hd,hl,hg,s,k,r,h=>by
  simp only [x17q,x6q] at hd;simp only [codeLs] at h;obtain ⟨n,s',h1,h2⟩:=q9x P (call:=CallT P live X) (λf a k r=>qse P live X es f a k r) (qsc P live X hs) a hd.1 (hl a (by simp)) (hg a (by simp)) _ _ _ h
  have h3:=qn P live X h1;cases n with
  |succ n=>cases h2
  |zero =>
   obtain ⟨s2,h4,h5⟩:=q9y l hd.2 (λa ha=>hl a (by simp [ha])) (λa ha=>hg a (by simp [ha])) s' k r h2
   refine ⟨s2,?_,h5⟩;simp only [exL,h3,x0q,x20q];exact h4
theorem qb6 {β:Type} {nt k p:Nat} {s:LS} {kk:LS->Oq β} {r:β} (h:defE nt k p s kk=some r):∃ s1,defD nt k p (0,s.st)=some s1.st/\kk s1=some r:=by
 unfold defE at h;split at h
 case h_2=>cases h
 rename_i id e1 e2;split at h
 case isFalse=>cases h
 rename_i hk;refine ⟨_,?_,h⟩;have e1':s.st.t p=.ptr id 0:=e1
 have e2':s.st.t k=.any:=e2;unfold defD;simp only [x20q,e1',e2',hk];rfl
theorem qcr {β:Type} {g:List V->St->Oq (V×St)} {gE:List V->St->(V×St->Oq β)->Oq β} (h3:∀ args s k r,gE args s k=some r->∃ x,g args s=some x/\k x=some r) {lv:List Nat} {s:St} {kk:St->Oq β} {r:β} (h:endE (some gE) lv s kk=some r):∃ s2,endD g lv s=some s2/\kk s2=some r:=by
 unfold endE at h;split at h
 case h_2=>cases h
 rename_i g' id e1 e2;injection e1 with e1
 subst e1;have h4:=qo1 h3 h
 unfold endD;rw [e2];simp only [x0q];cases hy:heapD g [.ptr id 0] s.nx lv s.nx { s with og:=s.og.dropLast } with
 |none=>rw [hy] at h4;cases h4
 |some y =>rw [hy] at h4;exact ⟨_,rfl,h4⟩
theorem qmh {σ ρ:Type} {f:FuncId} {s:SC σ} {o:HC ρ} {x:σ} {r:ρ} {fn:Func} {c:Code} {es:List (Ent P live X)} {hs:List (HEnt P live X)} (ls:List (LEnt P live X f fn.ntmps))
  (hb:bodyOf P f=some fn) (hc:fn.body=some c) (hdf:dfB live f=true) (hsp:splitD c=some (spD c)) (hX:X.h (spD c).2.2.2.1=none) (hio:ioB live (spD c).2.2.2.1=true) (hdg:dfB live (spD c).2.2.2.1=false)
  (hd:((spD c).1.all (allDraw P (ioB live) (live f))&&allDraw P (ioB live) (live f) (spD c).2.2.2.2)=true) (hl:allL P live X ls false ((spD c).1.flatMap (loopsOf (live f))++loopsOf (live f) (spD c).2.2.2.2)) (hg:allL P live X ls true ((spD c).1.flatMap (segsOf (live f))++segsOf (live f) (spD c).2.2.2.2))
  {t:Oq ρ} (ht:codeLD P (ioB live) (live f) (look P live X ρ es) (lookH P live X ρ hs) fn.ntmps (lookL P live X ρ ls false) (lookL P live X ρ ls true) (slotsR fn) (spD c) (s.c.enc x) (λz=>(resV P fn z).bind λvs=>(finH (fzL live f) z vs).bind λz=>canK (List.range z.1.length) { z.2 with t:=λi=>z.1.getD i .any } λls=>o.dec ρ (oneOrTup ((List.range z.1.length).map ls.st.t),ls) some)=t) (h:t=some r):hS P live X f s o x=some r:=by
 refine hS_of ?_;rw [h] at ht;rw [x6q] at hd;unfold codeLD at ht;obtain ⟨s0,h1,h2⟩:=q9y (spD c).1 hd.1 (λa ha L hL=>q2f P live X hl L (List.mem_append_left _ (List.mem_flatMap.2 ⟨a,ha,hL⟩))) (λa ha L hL=>q2f P live X hg L (List.mem_append_left _ (List.mem_flatMap.2 ⟨a,ha,hL⟩))) _ _ _ ht;obtain ⟨s1,h3,h4⟩:=qb6 h2;obtain ⟨n,s',h5,h6⟩:=q9x P (call:=CallT P live X) (λf a k r=>qse P live X es f a k r) (qsc P live X hs) (spD c).2.2.2.2 hd.2 (λL hL=>q2f P live X hl L (List.mem_append_right _ hL)) (λL hL=>q2f P live X hg L (List.mem_append_right _ hL)) _ _ _ h4;have h7:=qn P live X h5
 simp only at h6;split at h6
 case isFalse=>cases h6
 rename_i hq;have hlk:lookH P live X ρ hs (spD c).2.2.2.1=some (lookHE P live X ρ hs (spD c).2.2.2.1):=by simp only [lookH,hX,hio,x22q]
 rw [hlk] at h6;obtain ⟨s2,h8,h9⟩:=qcr (g:=runH P (fzL live) (Exec P live X) (spD c).2.2.2.1) (λa s k r h=>by have:=qsa P live X hs (spD c).2.2.2.1 a s k r h;rwa [hdg,cond_false] at this) h6
 unfold heapFrom heapD1;rw [hb];simp only [x0q,hc,hdf,x22q];rw [hsp];simp only [x0q,h1,h3,h7];have hq':n<=1/\s'.st.og.length=s1.st.og.length:=hq
 rw [if_pos hq'];simp only [h8,x0q];cases hv:resV P fn s2 with
 |none=>rw [hv] at h9;cases h9
 |some vs =>
  rw [hv] at h9;simp only [x0q] at h9 ⊢;cases hz:finH (fzL live f) s2 vs with
  |none=>rw [hz] at h9;cases h9
  |some z =>
  rw [hz] at h9;simp only [x0q] at h9;obtain ⟨l1,e1,h9⟩:=q98 h9;obtain ⟨y,e,h9⟩:=o.ok h9;injection h9 with h9
  subst h9;have e1':endN z.1 z.2=l1.st:=e1
  simp only [x18q,←e,e1']
end
end Go.Proofs.YtmlcmoaonaomfaaGreatDoor
namespace Go.Proofs.YtmlcmoaonaomfaaGreatDoor
open Go.RowKit
set_option maxHeartbeats 4000000 in
def lv:FuncId->Nat->List Nat
 |2,1=>[]
 |3,1=>[1,2,3,4,5]
 |3,3=>[1,2,3,5,11]
 |3,5=>[1,2,3,5,12,13]
 |3,7=>[1,2,3,5,12,45]
 |3,9=>[10]
 |3,11=>[1,2,3,5,14,15]
 |3,13=>[1,2,3,5,14,54]
 |3,15=>[10]
 |3,17=>[5,14,16,17]
 |3,19=>[5,14,16,17,18,19]
 |3,21=>[5,14,16,18,84]
 |3,23=>[10]
 |3,25=>[14,16,18,20]
 |3,27=>[14,18,20]
 |3,29=>[18,21,22]
 |3,31=>[10]
 |4,1=>[0,3]
 |4,3=>[0,3,5,6]
 |4,5=>[0,3,5,22]
 |4,7=>[4]
 |4,9=>[0,3,7,8]
 |4,11=>[3,7,8,9,10,11]
 |4,13=>[8,9,10,11,12,13,14]
 |4,15=>[4]
 |5,1=>[0,3]
 |5,3=>[0,3,4]
 |5,5=>[0,3,4,9]
 |5,7=>[2,3]
 |5,9=>[3,5]
 |5,11=>[3,5,15]
 |5,13=>[2,3]
 |5,15=>[2,3]
 |6,1=>[1,2]
 |6,3=>[1,2,3]
 |6,5=>[1,2,3,8]
 |6,7=>[2]
 |6,9=>[1,2,13]
 |6,11=>[2]
 |6,13=>[2]
 |7,1=>[]
 |7,3=>[1]
 |7,5=>[2,3]
 |7,7=>[2,3,4,5]
 |7,9=>[3,5,6,7]
 |7,11=>[0]
 |8,1=>[0,3]
 |8,3=>[0,3,9]
 |8,5=>[2,3]
 |8,7=>[3,4]
 |8,9=>[3,4]
 |8,3004001=>[3,4]
 |8,11=>[3,4,5]
 |8,3005001=>[3,4]
 |8,13=>[3,4,5,29]
 |8,15=>[2,3]
 |8,17=>[3,5,6]
 |8,19=>[3,5,6,39]
 |8,21=>[2,3]
 |8,23=>[2,3]
 |9,1=>[1,2,3,4,8,9]
 |9,3=>[1,2,3,4,8,9,10]
 |9,5=>[1,2,3,4,8,9,10,18]
 |9,7=>[8,9]
 |9,9=>[1,2,3,4,8,9,23]
 |9,11=>[8,9]
 |9,13=>[1,2,3,4,8,9,28]
 |9,15=>[8,9]
 |9,17=>[4,8,9,11,12]
 |9,19=>[4,8,9,11,40]
 |9,21=>[8,9]
 |9,23=>[8,9,13]
 |9,25=>[8,9,13,14]
 |9,27=>[8,9,13,14,49]
 |9,29=>[8,9]
 |9,31=>[8,9]
 |10,1=>[0,3,5]
 |10,3=>[4,5]
 |10,3001002=>[5]
 |11,1=>[1,2]
 |11,3=>[1,2,5]
 |11,5=>[1,2,5,6]
 |11,6=>[1,2,5,6]
 |11,7=>[1,2,5,6,11]
 |11,11=>[1,2,5,6,21]
 |11,13=>[1,2,5,6]
 |11,9=>[1,2,5,6]
 |11,15=>[4]
 |12,1=>[0,1]
 |12,3=>[0,1,10]
 |12,5=>[4]
 |12,7=>[0,1,5]
 |12,8=>[0,1,5]
 |12,9=>[0,1,5,14]
 |12,13=>[0,1,5,25]
 |12,15=>[4]
 |12,11=>[0,1,5]
 |12,17=>[4]
 |13,1=>[0,3,6]
 |13,3=>[0,3,6,7]
 |13,5=>[6,7,8,9]
 |13,3002003=>[6,7]
 |13,7=>[6,7,8,9,18]
 |13,9=>[4,5,6]
 |13,11=>[4,5,6]
 |14,1=>[0,1]
 |14,3=>[0,1,10]
 |14,5=>[4]
 |14,7=>[0,1,5]
 |14,8=>[0,1,5]
 |14,9=>[0,1,5,14]
 |14,13=>[0,1,5,25]
 |14,15=>[4]
 |14,11=>[0,1,5]
 |14,17=>[4]
 |15,1=>[0,2]
 |15,3=>[0,2,3]
 |15,5=>[0,2,3,4]
 |15,7=>[0,2,4]
 |15,9=>[2]
 |15,3004002=>[2]
 |16,1=>[1]
 |16,3=>[2]
 |17,1=>[0,1]
 |17,3=>[0,1,5]
 |17,5=>[1,5,8,9,10]
 |17,6=>[1,5,8,9,10]
 |17,7=>[1,5,8,9,10,11]
 |17,9=>[1,5,7,8,9,10]
 |17,11=>[1,5,8,9,10]
 |17,13=>[1,5,8,9,10]
 |17,15=>[4]
 |18,1=>[0,1,4]
 |18,3=>[4]
 |19,1=>[0]
 |19,3=>[0]
 |20,1=>[0,2]
 |20,3=>[0,2,9]
 |20,5=>[2]
 |20,7=>[2,11,12,13]
 |20,8=>[2,11,12,13]
 |20,9=>[2,11,12,13,14]
 |20,11=>[2,3,4,11,12,13]
 |20,13=>[2,3,6,11,12,13]
 |20,15=>[2,3,6,11,12,13,27]
 |20,17=>[2]
 |20,19=>[2,11,12,13]
 |20,21=>[2]
 |21,1=>[1]
 |21,3=>[1,3]
 |21,5=>[1,3,11,12,13]
 |21,6=>[1,3,11,12,13]
 |21,7=>[1,3,11,12,13,14]
 |21,9=>[1,3,5,11,12,13]
 |21,11=>[1,3,6,11,12,13]
 |21,13=>[1,3,11,12,13,25,26,27]
 |21,14=>[1,3,11,12,13,25,26,27]
 |21,15=>[1,3,11,12,13,25,26,27,28]
 |21,17=>[1,3,9,11,12,13,25,26,27]
 |21,19=>[1,3,11,12,13,25,26,27]
 |21,21=>[1,3,11,12,13,25,26,27]
 |21,23=>[1,3,11,12,13]
 |21,25=>[2]
 |22,1=>[0,2]
 |22,3=>[2,4]
 |22,5=>[2,4,5]
 |22,7=>[2]
 |22,9=>[2,8]
 |22,11=>[2]
 |22,13=>[2]
 |23,0=>[0]
 |23,1=>[0,29]
 |23,3=>[0]
 |23,5=>[0,46]
 |23,7=>[]
 |23,9=>[0,2]
 |23,11=>[0,2,3]
 |23,13=>[0,2,3,4]
 |23,15=>[0,2,3,4,65]
 |23,17=>[]
 |23,3008002=>[66]
 |23,19=>[0,2,3,4,5,6]
 |23,21=>[0,2,3,4,5,6,83]
 |23,3010002=>[0,2,3,4,5,6]
 |23,3010006=>[0,2,3,4,5,6,79]
 |23,23=>[0,2,3,4,5,6]
 |23,25=>[0,2,3,5,6,86]
 |23,3012002=>[0,2,3,5,6]
 |23,27=>[0,2,3,5,6]
 |23,28=>[0,2,3,5,6]
 |23,29=>[0,2,3,5,6,117]
 |23,3014015=>[0,2,3,5,6,94]
 |23,3014027=>[0,2,3,5,6,94,103,106]
 |23,31=>[0,2,3,5,6]
 |23,33=>[0,5]
 |23,35=>[]
 |24,1=>[0]
 |24,3=>[0,3]
 |24,4=>[0,3]
 |24,5=>[0,3,32]
 |24,7=>[0,3]
 |24,3003002=>[0,33]
 |24,9=>[2]
 |25,1=>[0]
 |25,3=>[2]
 |26,1=>[0]
 |26,3=>[0,3]
 |26,5=>[2]
 |27,1=>[1,2,3,4]
 |27,3=>[1,2,3,4,10,11]
 |27,5=>[1,2,3,10,11,12,13]
 |27,7=>[1,2,3,10,12,33]
 |27,9=>[8,9]
 |27,11=>[2,12,14]
 |27,13=>[8,9]
 |28,1=>[1,2,3,6]
 |28,3=>[6]
 |29,1=>[0,2,4,7]
 |29,3=>[0,2,4,7,8]
 |29,5=>[0,2,4,7,8,16]
 |29,7=>[6,7]
 |29,9=>[0,2,4,7,9]
 |29,11=>[0,2,4,7,9,22]
 |29,13=>[6,7]
 |29,15=>[0,2,4,7,10,11]
 |29,17=>[0,2,4,7,10,11,33]
 |29,19=>[6,7]
 |29,21=>[0,7,12]
 |29,23=>[7,12]
 |29,3011002=>[7,12]
 |29,25=>[7,12,52]
 |29,27=>[7,12]
 |29,29=>[6,7]
 |30,1=>[]
 |31,1=>[0,1]
 |31,3=>[0,1,10]
 |31,5=>[4]
 |31,7=>[0,1,5]
 |31,8=>[0,1,5]
 |31,9=>[0,1,5,14]
 |31,13=>[0,1,5,25]
 |31,15=>[4]
 |31,11=>[0,1,5]
 |31,17=>[4]
 |32,1=>[1,2]
 |32,3=>[]
 |33,1=>[0,1,2,3,6]
 |33,3=>[1,2,3,6,13,14,15]
 |33,4=>[1,2,3,6,13,14,15]
 |33,5=>[1,2,3,6,13,14,15,16]
 |33,7=>[1,2,3,6,8,13,14,15]
 |33,9=>[1,2,3,6,8,13,14,15,20]
 |33,11=>[6]
 |33,13=>[1,2,3,6,8,9,13,14,15]
 |33,15=>[1,2,3,6,8,9,13,14,15,26]
 |33,17=>[6]
 |33,19=>[1,2,3,6,8,13,14,15]
 |33,21=>[1,2,3,6,13,14,15,36,37,38]
 |33,22=>[1,2,3,6,13,14,15,36,37,38]
 |33,23=>[1,2,3,6,13,14,15,36,37,38,39]
 |33,25=>[1,2,3,6,11,13,14,15,36,37,38]
 |33,27=>[1,2,3,6,12,13,14,15,36,37,38]
 |33,3013004=>[1,2,3,6,13,14,15,36,37,38]
 |33,29=>[1,2,3,6,12,13,14,15,36,37,38,48]
 |33,31=>[6]
 |33,33=>[1,2,3,6,13,14,15,36,37,38]
 |33,35=>[1,2,3,6,13,14,15]
 |33,37=>[6]
 |34,1=>[1,2]
 |34,3=>[2,5]
 |34,5=>[4]
 |34,7=>[2,8]
 |34,9=>[4]
 |34,11=>[2,17]
 |34,13=>[4]
 |34,15=>[2,23]
 |34,17=>[4]
 |34,19=>[4]
 |35,1=>[1,2]
 |35,3=>[1,2,5]
 |35,5=>[1,2,5,11]
 |35,7=>[1,2,5,11,12]
 |35,9=>[1,2,5,6]
 |35,1000007=>[6]
 |35,11=>[1,2,5,6,33]
 |35,13=>[6]
 |35,15=>[4]
 |35,17=>[2,5,11,47]
 |35,19=>[4]
 |35,21=>[2,5,60]
 |35,23=>[4]
 |35,25=>[2,7]
 |35,1000015=>[2,7]
 |35,27=>[2,7,73]
 |35,29=>[2,7]
 |35,1000017=>[7]
 |35,31=>[2,7,82]
 |35,33=>[7]
 |35,35=>[4]
 |36,1=>[0,1,5]
 |36,3=>[0,1,5,12]
 |36,5=>[4,5]
 |36,7=>[0,1,5,17]
 |36,9=>[4,5]
 |36,11=>[0,1,5,22]
 |36,13=>[4,5]
 |36,15=>[5,6,7]
 |36,17=>[5,6,7,8]
 |36,18=>[5,6,7,8]
 |36,19=>[5,6,7,8,36]
 |36,21=>[5,6,8,9]
 |36,23=>[5,6,8,9,41]
 |36,25=>[5,6,8,9]
 |36,27=>[5,6,7,8]
 |36,29=>[5,8]
 |36,31=>[5,8,55,56,57]
 |36,32=>[5,8,55,56,57]
 |36,33=>[5,8,55,56,57,58]
 |36,35=>[5,8,10,11,55,56,57]
 |36,37=>[5,8,10,55,56,57,64]
 |36,39=>[4,5]
 |36,41=>[5,8,55,56,57]
 |36,43=>[4,5]
 |37,1=>[0]
 |37,3=>[0,3]
 |37,5=>[0,3,4]
 |37,6=>[0,3,4]
 |37,7=>[0,3,4,9]
 |37,11=>[0,3,4,5]
 |37,13=>[0,3,4,5,32]
 |37,15=>[0,3,4]
 |37,17=>[0,3,4]
 |37,19=>[0,3,4,40]
 |37,21=>[2]
 |37,23=>[0,3,4]
 |37,25=>[0,3,4,44]
 |37,27=>[2]
 |37,9=>[0,3,4]
 |37,29=>[2]
 |39,1=>[0]
 |39,3=>[2]
 |40,1=>[0]
 |40,3=>[2]
 |41,1=>[0,2]
 |41,3=>[0,2,3]
 |41,5=>[0,2,3,4]
 |41,7=>[0,2,3,4,5]
 |41,8=>[0,2,3,4,5]
 |41,9=>[0,2,3,4,5,23]
 |41,13=>[0,2,3,4,5,6]
 |41,15=>[0,2,3,4,5,6,32]
 |41,19=>[0,2,3,4,5,6,32,37]
 |41,21=>[2,3,4]
 |41,23=>[2,3]
 |41,25=>[2]
 |41,27=>[0,2,3,4,5,6,48]
 |41,29=>[0,2,3,4,5]
 |41,31=>[0,2,3,4,5,76]
 |41,33=>[2,3]
 |41,35=>[2]
 |41,37=>[0,2,3,4,5]
 |41,17=>[0,2,3,4,5]
 |41,11=>[0,2,3,4,5]
 |41,39=>[2,3]
 |41,41=>[2]
 |42,1=>[0,2]
 |42,3=>[0,2]
 |42,5=>[0,2,23]
 |42,7=>[2]
 |42,9=>[2]
 |42,11=>[0,2,28]
 |42,3005001=>[0,2]
 |42,13=>[0,2,3]
 |42,3006001=>[0,2]
 |42,3006003=>[0,2,32]
 |42,15=>[0,2,3,37]
 |42,3007001=>[0,2,3]
 |42,17=>[2,3]
 |42,3008001=>[2,3]
 |42,19=>[2]
 |42,21=>[0,2,42]
 |42,3010001=>[0,2]
 |42,23=>[0,2,4]
 |42,3011001=>[0,2]
 |42,3011003=>[0,2,46]
 |42,25=>[2,4]
 |42,3012001=>[2,4]
 |42,27=>[2]
 |42,29=>[0,2,53]
 |42,3014001=>[0,2]
 |42,31=>[2]
 |42,3015001=>[2]
 |42,33=>[2]
 |42,35=>[2]
 |42,3017001=>[2]
 |43,1=>[0]
 |43,3=>[2]
 |44,1=>[0]
 |44,3=>[3]
 |44,5=>[3,8,9,10]
 |44,6=>[3,8,9,10]
 |44,7=>[3,8,9,10,11]
 |44,9=>[3,4,5,8,9,10]
 |44,11=>[3,4,5,8,9,10,20]
 |44,13=>[3,8,9,10]
 |44,15=>[3,8,9,10]
 |44,17=>[2]
 |45,1=>[0]
 |45,3=>[2]
 |46,1=>[0,1]
 |46,3=>[4]
 |47,1=>[0,1]
 |47,3=>[4]
 |48,1=>[0,3]
 |48,3=>[0,3,6]
 |48,5=>[2,3]
 |48,7=>[2,3]
 |49,1=>[0,1,5]
 |49,3=>[0,1,5,6]
 |49,5=>[0,1,5,6,15]
 |49,7=>[4,5]
 |49,9=>[0,1,5,19]
 |49,11=>[4,5]
 |49,13=>[0,1,5,7]
 |49,15=>[0,1,5,7,8]
 |49,17=>[0,5,7,8,24,25,26]
 |49,18=>[0,5,7,8,24,25,26]
 |49,19=>[0,5,7,8,24,25,26,27]
 |49,21=>[0,5,7,8,10,24,25,26]
 |49,23=>[0,5,7,8,10,11,24,25,26]
 |49,24=>[0,5,7,8,10,11,24,25,26]
 |49,25=>[0,5,7,8,10,11,24,25,26,34]
 |49,29=>[0,5,7,8,10,11,24,25,26,50]
 |49,31=>[0,5,7,8,11,24,25,26]
 |49,33=>[0,5,7,8,24,25,26]
 |49,27=>[0,5,7,8,10,11,24,25,26]
 |49,35=>[0,5,7,8,24,25,26]
 |49,37=>[4,5]
 |51,1=>[0]
 |51,3=>[0,3]
 |51,5=>[0,3,7,8]
 |51,6=>[0,3,7,8]
 |51,7=>[0,3,7,8,9]
 |51,9=>[0,3,4,7,8]
 |51,11=>[0,3,7,8]
 |51,13=>[0,3,7,8]
 |51,15=>[2]
 |52,1=>[0,1]
 |52,3=>[1,5]
 |52,5=>[1,5,10,11,12]
 |52,6=>[1,5,10,11,12]
 |52,7=>[1,5,10,11,12,13]
 |52,9=>[1,5,7,10,11,12]
 |52,11=>[1,5,10,11,12]
 |52,13=>[1,5,10,11,12]
 |52,15=>[1,5,10,11,12]
 |52,17=>[5]
 |52,19=>[4]
 |53,1=>[0]
 |53,3=>[0,3]
 |53,5=>[0,3,9,10,11]
 |53,6=>[0,3,9,10,11]
 |53,7=>[0,3,9,10,11,12]
 |53,9=>[0,3,5,9,10,11]
 |53,11=>[0,3,9,10,11]
 |53,13=>[0,3,9,10,11,20]
 |53,15=>[0,3,9,10,11]
 |53,17=>[0,3,9,10,11]
 |53,19=>[0,6]
 |53,21=>[6,25,26,27]
 |53,22=>[6,25,26,27]
 |53,23=>[6,25,26,27,28]
 |53,25=>[6,8,25,26,27]
 |53,27=>[6,25,26,27]
 |53,29=>[6,25,26,27]
 |53,31=>[2]
 |54,1=>[0]
 |54,3=>[0,4]
 |54,5=>[2]
 |54,7=>[2]
 |55,1=>[1,2]
 |55,3=>[1,2,3]
 |55,5=>[2]
 |55,7=>[1,2,14]
 |55,9=>[2]
 |55,11=>[1,2,26]
 |55,13=>[2]
 |55,15=>[2]
 |56,1=>[1,3]
 |56,3=>[1,3,4]
 |56,5=>[1,3,4,8]
 |56,7=>[2,3]
 |56,9=>[2,3]
 |57,1=>[0,1,2]
 |57,3=>[0,2,12,13,14]
 |57,4=>[0,2,12,13,14]
 |57,5=>[0,2,12,13,14,15]
 |57,7=>[0,2,8,12,13,14]
 |57,9=>[0,2,8,9,12,13,14]
 |57,11=>[0,2,8,9,12,13,14,21]
 |57,17=>[0,2,8,9,12,13,14,21,28]
 |57,19=>[0,2,8,9,12,13,14]
 |57,3009003=>[0,2,8,9,12,13,14]
 |57,21=>[0,2,8,9,12,13,14]
 |57,23=>[0,2,8,9,10,11,12,13,14]
 |57,25=>[0,2,8,10,11,12,13,14,47]
 |57,27=>[0,2,8,10,11,12,13,14]
 |57,29=>[0,2,8,12,13,14,60]
 |57,3014003=>[0,2,8,12,13,14]
 |57,31=>[6]
 |57,33=>[0,2,8,9,12,13,14,21,61]
 |57,35=>[0,2,8,9,12,13,14]
 |57,37=>[0,2,8,9,12,13,14]
 |57,39=>[0,2,8,12,13,14]
 |57,41=>[0,2,8,9,12,13,14,90]
 |57,43=>[0,2,8,9,12,13,14]
 |57,45=>[0,2,8,9,12,13,14]
 |57,47=>[0,2,8,12,13,14]
 |57,13=>[]
 |57,15=>[6]
 |57,49=>[0,2,12,13,14]
 |57,51=>[0,2,12,13,14]
 |57,53=>[6]
 |58,1=>[0]
 |58,3=>[5,6,7]
 |58,4=>[5,6,7]
 |58,5=>[5,6,7,8]
 |58,7=>[4,5,6,7]
 |58,9=>[5,6,7,18]
 |58,11=>[2]
 |58,13=>[5,6,7]
 |58,15=>[2]
 |59,1=>[0]
 |59,3=>[0,5]
 |59,5=>[2]
 |59,7=>[2]
 |60,1=>[1]
 |60,3=>[1,3]
 |60,5=>[1,3,7]
 |60,7=>[2]
 |60,9=>[1,3,56]
 |60,11=>[2]
 |60,13=>[1,68]
 |60,15=>[2]
 |60,17=>[1,91]
 |60,19=>[2]
 |60,21=>[1,101]
 |60,23=>[2]
 |60,25=>[106]
 |60,27=>[2]
 |60,29=>[2]
 |61,1=>[1,2]
 |61,3=>[1,2,5,6,7]
 |61,1000018=>[1,2]
 |61,5=>[1,2,5,6,7,18]
 |61,7=>[4]
 |61,9=>[1,2,5,6,7,21]
 |61,11=>[4]
 |61,13=>[1,2,5,6,7,30]
 |61,15=>[4]
 |61,17=>[1,2,5,6,34]
 |61,19=>[4]
 |61,21=>[1,2,6,65]
 |61,23=>[4]
 |61,25=>[1,2,78]
 |61,27=>[4]
 |61,29=>[1,2,90]
 |61,31=>[4]
 |61,33=>[1,2,95]
 |61,35=>[4]
 |61,37=>[1,105,106,107]
 |61,38=>[1,105,106,107]
 |61,39=>[1,105,106,107,108]
 |61,41=>[1,9,105,106,107]
 |61,43=>[1,10,105,106,107]
 |61,45=>[1,10,105,106,107,116]
 |61,47=>[4]
 |61,49=>[1,105,106,107]
 |61,51=>[4]
 |63,1=>[1]
 |63,3=>[1,3]
 |63,5=>[1,3,6]
 |63,7=>[1,3,6,7]
 |63,9=>[2]
 |63,11=>[1,3,6,15]
 |63,13=>[2]
 |63,3006001=>[]
 |63,15=>[1,3,6,20]
 |63,17=>[2]
 |63,3008001=>[]
 |63,19=>[1,6,25]
 |63,21=>[2]
 |63,23=>[1,6,35]
 |63,25=>[2]
 |63,27=>[1,6,40]
 |63,29=>[2]
 |63,31=>[1,6,45]
 |63,33=>[2]
 |63,35=>[1,51]
 |63,37=>[2]
 |63,39=>[2]
 |64,1=>[0]
 |64,3=>[2]
 |65,1=>[0]
 |65,3=>[0]
 |66,1=>[0]
 |66,3=>[2]
 |68,1=>[0]
 |68,3=>[2]
 |69,1=>[0]
 |69,3=>[2]
 |70,1=>[0,1]
 |70,3=>[0,1,5]
 |70,5=>[0,5,6]
 |70,6=>[0,5,6]
 |70,7=>[0,5,6,12]
 |70,11=>[0,5,6,26]
 |70,13=>[0,5,6,32]
 |70,15=>[0,5,6]
 |70,9=>[0,5,6]
 |70,17=>[4]
 |72,1=>[0,1,2]
 |72,3=>[0,28]
 |72,5=>[6]
 |72,7=>[]
 |72,3003001=>[]
 |72,9=>[6]
 |73,1=>[1,2]
 |73,3=>[1,2]
 |73,5=>[1,2]
 |73,7=>[1,2,3]
 |73,9=>[1,2,3,17]
 |73,11=>[1,2,3]
 |73,15=>[1,2,3,24]
 |73,3007001=>[1,2,3]
 |73,17=>[2,3]
 |73,19=>[1,2,3,28]
 |73,3009001=>[1,2,3]
 |73,21=>[2,3]
 |73,3010001=>[2,3]
 |73,23=>[1,2,3,36]
 |73,3011001=>[1,2,3]
 |73,25=>[2,3]
 |73,3012001=>[2,3]
 |73,27=>[1,2,3,43]
 |73,3013001=>[1,2,3]
 |73,29=>[2,3]
 |73,3014001=>[2,3]
 |73,31=>[1,2,3,50]
 |73,3015001=>[1,2,3]
 |73,33=>[1,2,3]
 |73,3016001=>[1,2,3]
 |73,35=>[2,3]
 |73,3017001=>[2,3]
 |73,37=>[1,2,3,59]
 |73,3018001=>[1,2,3]
 |73,39=>[1,2,3]
 |73,41=>[2,3]
 |73,3020001=>[2,3]
 |73,43=>[1,2,3,65]
 |73,3021001=>[1,2,3]
 |73,45=>[1,2,3]
 |73,47=>[2,3]
 |73,3023001=>[2,3]
 |73,49=>[1,2,3,71]
 |73,3024001=>[1,2,3]
 |73,51=>[2,3]
 |73,3025001=>[2,3]
 |73,53=>[1,2,3,78]
 |73,3026001=>[1,2,3]
 |73,55=>[2,3]
 |73,3027001=>[2,3]
 |73,13=>[2,3]
 |73,57=>[2]
 |74,1=>[1]
 |74,3=>[1]
 |74,3001001=>[1]
 |74,5=>[1]
 |74,7=>[1]
 |74,9=>[1,3]
 |74,3004001=>[1]
 |74,11=>[3]
 |74,3005001=>[3]
 |74,13=>[2]
 |75,1=>[0,1]
 |75,3=>[0,1,5]
 |75,5=>[0,5,23]
 |75,7=>[]
 |75,9=>[4]
 |75,11=>[5]
 |75,3005001=>[5]
 |75,13=>[4]
 |76,1=>[0,7]
 |76,3000002=>[0]
 |76,3=>[]
 |77,1=>[0,2]
 |77,3=>[0,2,3]
 |77,5=>[0,2,3,7,8]
 |77,6=>[0,2,3,7,8]
 |77,7=>[0,2,3,7,8,9]
 |77,9=>[0,2,3,4,5,7,8]
 |77,11=>[0,2,3,4,7,8,15]
 |77,3005002=>[0,2,3,4,7,8]
 |77,13=>[0,2,3]
 |77,15=>[0,2,3,19]
 |77,17=>[0,2,3]
 |77,3008001=>[0,2,3]
 |77,19=>[0,2,3,26]
 |77,21=>[0,2,3]
 |77,3010001=>[0,2,3]
 |77,23=>[2,3]
 |77,3011001=>[2,3]
 |77,25=>[2]
 |77,27=>[0,2,3,7,8]
 |77,29=>[2,3]
 |77,31=>[2]
 |78,1=>[0,1]
 |78,3=>[0,1,7,8]
 |78,4=>[0,1,7,8]
 |78,5=>[0,1,7,8,9]
 |78,7=>[0,1,5,7,8]
 |78,9=>[0,1,7,8,16]
 |78,3004004=>[0,1,7,8]
 |78,11=>[4]
 |78,13=>[0,1,7,8]
 |78,15=>[4]
 |79,1=>[0]
 |79,3=>[2]
 |80,1=>[0]
 |80,3=>[2]
 |81,1=>[0,1]
 |81,3=>[0,1,7,8]
 |81,4=>[0,1,7,8]
 |81,5=>[0,1,7,8,9]
 |81,7=>[0,1,5,7,8]
 |81,9=>[0,1,5,7,8,16]
 |81,3004005=>[0,1,5,7,8]
 |81,11=>[4]
 |81,13=>[0,1,7,8]
 |81,15=>[4]
 |82,1=>[0]
 |82,3=>[0,3]
 |82,5=>[0,3]
 |82,7=>[3]
 |82,21=>[2]
 |83,1=>[1]
 |83,3=>[2]
 |87,1=>[0,1]
 |87,3=>[0,1,6]
 |87,5=>[0,1]
 |87,7=>[0,1]
 |87,9=>[0,1,16]
 |87,11=>[0]
 |87,13=>[4]
 |88,1=>[0]
 |88,3=>[5]
 |88,5=>[2]
 |89,1=>[0,2]
 |89,3=>[0,2,5,6,7]
 |89,4=>[0,2,5,6,7]
 |89,5=>[0,2,5,6,7,8]
 |89,7=>[0,2,3,4,5,6,7]
 |89,9=>[0,2,3,4,5,6,7,12]
 |89,11=>[2]
 |89,13=>[0,2,3,4,5,6,7,19]
 |89,15=>[2]
 |89,17=>[0,2,3,5,6,7,26]
 |89,19=>[2]
 |89,21=>[0,2,5,6,7]
 |89,23=>[2]
 |90,1=>[0,3]
 |90,3=>[0,3,11]
 |90,5=>[0,3,11,12]
 |90,7=>[4]
 |90,3003005=>[]
 |90,9=>[0,3,11,21]
 |90,11=>[0,3,11,21]
 |90,13=>[0,3,25,26,27]
 |90,14=>[0,3,25,26,27]
 |90,15=>[0,3,25,26,27,28]
 |90,17=>[0,3,6,25,26,27]
 |90,19=>[0,3,25,26,27,37]
 |90,21=>[4]
 |90,23=>[0,3,25,26,27]
 |90,25=>[4]
 |90,27=>[0,3,11,45]
 |90,29=>[4]
 |90,31=>[0,3,11,54]
 |90,33=>[4]
 |90,35=>[0,3,11,66]
 |90,37=>[0,3,7]
 |90,39=>[0,3,7,73,74,75]
 |90,40=>[0,3,7,73,74,75]
 |90,41=>[0,3,7,73,74,75,76]
 |90,43=>[0,3,7,9,73,74,75]
 |90,45=>[0,3,7,73,74,75]
 |90,47=>[0,3,7,73,74,75]
 |90,49=>[4]
 |90,3024003=>[]
 |90,51=>[0,3,11,89]
 |90,53=>[4]
 |90,55=>[0,3,98]
 |90,57=>[4]
 |90,3028003=>[]
 |90,59=>[4]
 |91,1=>[0]
 |91,3=>[0,3]
 |91,5=>[3,6,7,8]
 |91,6=>[3,6,7,8]
 |91,7=>[3,6,7,8,9]
 |91,9=>[3,5,6,7,8]
 |91,11=>[3,6,7,8]
 |91,13=>[3,6,7,8]
 |91,15=>[2]
 |92,1=>[0,1]
 |92,3=>[0,1,5]
 |92,4=>[0,1,5]
 |92,5=>[0,1,5,6,7,8]
 |92,7=>[0,1,5,6,8,9,10,11]
 |92,9=>[0,1,5,6,9,10,30]
 |92,11=>[5]
 |92,13=>[0,5,10]
 |92,15=>[0,1,5]
 |92,17=>[12]
 |92,19=>[4]
 |93,1=>[0,1,2]
 |93,3=>[6]
 |94,1=>[1]
 |94,3=>[2]
 |95,1=>[0]
 |95,3=>[0,3]
 |95,5=>[2]
 |96,1=>[0]
 |96,3=>[5]
 |96,5=>[5,6]
 |96,7=>[2,3,4]
 |96,9=>[5,8]
 |96,11=>[5,8]
 |96,13=>[2,3,4]
 |96,15=>[5,11]
 |96,17=>[2,3,4]
 |96,19=>[13]
 |96,21=>[2,3,4]
 |96,23=>[2,3,4]
 |97,1=>[1]
 |97,3=>[1,4]
 |97,5=>[1,4,5]
 |97,7=>[2]
 |97,9=>[1,4,11]
 |97,11=>[1,11]
 |97,13=>[2]
 |97,15=>[2]
 |99,1=>[0,1]
 |99,3=>[4]
 |101,1=>[0]
 |101,3=>[0,2]
 |101,5=>[2,6,7,8]
 |101,6=>[2,6,7,8]
 |101,7=>[2,6,7,8,9]
 |101,9=>[2,4,6,7,8]
 |101,11=>[2,6,7,8]
 |101,13=>[2,6,7,8]
 |101,15=>[1]
 |102,1=>[1]
 |102,3=>[2]
 |106,1=>[0]
 |106,3=>[2]
 |107,1=>[0]
 |107,3=>[2]
 |108,1=>[0]
 |108,3=>[2]
 |110,1=>[]
 |111,1=>[0]
 |111,3=>[0]
 |111,3001001=>[0]
 |111,5=>[0,3]
 |111,3002001=>[0]
 |111,6=>[0,3]
 |111,7=>[0,3,10]
 |111,3003001=>[0,3]
 |111,9=>[0,3]
 |111,3004002=>[0,11]
 |111,11=>[3]
 |111,3005001=>[3]
 |111,13=>[2]
 |112,1=>[0,1,6,7]
 |112,2=>[0,1,6,7]
 |112,3=>[0,1,6,7,8]
 |112,5=>[0,1,4,5,6,7]
 |112,7=>[0,1,4,6,7,13]
 |112,3003002=>[0,1,4,6,7]
 |112,9=>[]
 |112,3004005=>[14,15,17]
 |112,11=>[0,1,6,7]
 |112,13=>[]
 |113,1=>[0]
 |113,3=>[0,3,4]
 |113,5=>[0,3,23]
 |113,7=>[]
 |113,9=>[2]
 |113,11=>[3]
 |113,3005001=>[3]
 |113,13=>[2]
 |114,1=>[]
 |116,1=>[0]
 |116,3=>[0,3]
 |116,5=>[0,3,8,9]
 |116,6=>[0,3,8,9]
 |116,7=>[0,3,8,9,10]
 |116,9=>[0,3,4,8,9]
 |116,11=>[0,3,5,8,9]
 |116,13=>[0,3,5,8,9,16]
 |116,15=>[0,3,5,8,9]
 |116,17=>[0,3,5,6,8,9]
 |116,19=>[0,3,5,8,9,28]
 |116,21=>[0,3,8,9]
 |116,23=>[0,3,8,9]
 |116,25=>[2]
 |119,1=>[0]
 |119,3=>[2,3,4]
 |119,5=>[2,3,4,5]
 |119,7=>[2,3,4]
 |120,1=>[0]
 |120,3=>[2]
 |121,1=>[0,1]
 |121,3=>[4]
 |122,1=>[1,2]
 |122,3=>[3]
 |123,1=>[0,2,4]
 |123,3=>[0,4,14,15,16]
 |123,4=>[0,4,14,15,16]
 |123,5=>[0,4,14,15,16,17]
 |123,7=>[0,4,8,14,15,16]
 |123,9=>[0,4,9,10,11,14,15,16]
 |123,11=>[0,4,10,14,15,16,35]
 |123,13=>[0,10,38]
 |123,15=>[0,10]
 |123,17=>[0,44,45,46]
 |123,18=>[0,44,45,46]
 |123,19=>[0,44,45,46,47]
 |123,21=>[0,12,13,44,45,46]
 |123,23=>[0,44,45,46]
 |123,25=>[0,44,45,46]
 |123,27=>[6]
 |123,29=>[0,4,14,15,16]
 |123,31=>[6]
 |124,1=>[0,1]
 |124,3=>[5]
 |124,5=>[4]
 |126,1=>[0]
 |126,3=>[2]
 |129,1=>[0,1]
 |129,3=>[4]
 |130,1=>[0]
 |130,3=>[0]
 |135,1=>[0,1]
 |135,3=>[0,1,6,7]
 |135,5=>[6,29]
 |135,7=>[4,5]
 |135,9=>[4,5]
 |137,1=>[0,1]
 |137,3=>[4]
 |140,1=>[0]
 |140,3=>[2]
 |141,1=>[0]
 |141,3=>[0,3]
 |141,5=>[2]
 |142,1=>[0,1]
 |142,3=>[0,1,7,8]
 |142,4=>[0,1,7,8]
 |142,5=>[0,1,7,8,9]
 |142,7=>[0,1,5,7,8]
 |142,9=>[0,1,5,7,8,16]
 |142,3004005=>[0,1,5,7,8]
 |142,11=>[4]
 |142,13=>[0,1,7,8]
 |142,15=>[4]
 |143,1=>[0,1,2,8]
 |143,3=>[0,1,2,8,18]
 |143,5=>[6,7,8]
 |143,7=>[0,1,2,8,22]
 |143,9=>[6,7,8]
 |143,11=>[0,1,2,8,9,10]
 |143,13=>[0,1,2,8,9,34]
 |143,15=>[6,7,8]
 |143,17=>[0,1,2,8,9,41]
 |143,19=>[6,7,8]
 |143,21=>[1,2,8,9,43]
 |143,23=>[1,2,8,9,43,44]
 |143,25=>[6,7,8]
 |143,27=>[1,2,8,9,50]
 |143,29=>[6,7,8]
 |143,31=>[8,11,12]
 |143,33=>[6,7,8]
 |144,1=>[0,1,7]
 |144,2=>[0,1,7]
 |144,3=>[0,1,7,9]
 |144,5=>[0,1,4,5,7]
 |144,7=>[0,1,4,7,16]
 |144,3003003=>[0,1,4,7]
 |144,9=>[0,1,7]
 |145,1=>[0]
 |145,3=>[4]
 |146,1=>[0,1,5]
 |146,3=>[0,1,5,6]
 |146,5=>[0,1,5,6,14]
 |146,7=>[4,5]
 |146,9=>[0,1,5,7]
 |146,11=>[1,5,7,16,17,18]
 |146,12=>[1,5,7,16,17,18]
 |146,13=>[1,5,7,16,17,18,19]
 |146,15=>[1,5,7,9,16,17,18]
 |146,17=>[1,5,7,9,16,17,18,25]
 |146,19=>[1,5,7,16,17,18]
 |146,21=>[1,5,7,16,17,18]
 |146,23=>[4,5]
 |160,1=>[0,1]
 |160,3=>[0,1,7]
 |160,5=>[4]
 |160,7=>[4]
 |161,1=>[0]
 |161,3=>[2]
 |162,1=>[0,1]
 |162,3=>[4]
 |163,1=>[0,1]
 |163,3=>[4]
 |164,1=>[0]
 |164,3=>[0,4]
 |164,5=>[0,4,5]
 |164,6=>[0,4,5]
 |164,7=>[0,4,5,9]
 |164,11=>[0,4,5,14]
 |164,15=>[0,4,5,14,22]
 |164,17=>[0,4,5]
 |164,19=>[0,4,5,14,28]
 |164,21=>[0,4,5]
 |164,23=>[0,4,5,34]
 |164,25=>[0,4,5]
 |164,27=>[0,4,5,41]
 |164,29=>[2,3]
 |164,31=>[0,4,5]
 |164,13=>[0,4,5]
 |164,9=>[0,4,5]
 |164,33=>[2,3]
 |165,1=>[0,3]
 |165,3=>[0,3,6]
 |165,5=>[0,3,7]
 |165,7=>[0,3,7,8]
 |165,9=>[0,3,7,8,9]
 |165,10=>[0,3,7,8,9]
 |165,11=>[0,3,7,8,9,26]
 |165,15=>[0,3,7,8,9]
 |165,17=>[0,3,7,8,9,10]
 |165,18=>[0,3,7,8,9,10]
 |165,19=>[0,3,7,8,9,10,39]
 |165,25=>[0,3,7,8,9,10,66]
 |165,27=>[0,3,7,8,9,10]
 |165,29=>[0,3,7,8,9,10,81]
 |165,31=>[0,3,7,8,9,10]
 |165,23=>[0,3,7,8,9,10]
 |165,21=>[0,3,7,8,9,10]
 |165,13=>[0,3,7,8,9]
 |165,33=>[0,3,8,122]
 |165,35=>[4,5]
 |165,37=>[0,3,8,11]
 |165,39=>[0,3,8,11,12]
 |165,41=>[3,8,11,12,123,124,125]
 |165,42=>[3,8,11,12,123,124,125]
 |165,43=>[3,8,11,12,123,124,125,126]
 |165,45=>[3,8,11,12,13,14,123,124,125]
 |165,47=>[3,8,11,12,13,14,15,123,124,125]
 |165,48=>[3,8,11,12,13,14,15,123,124,125]
 |165,49=>[3,8,11,12,13,14,15,123,124,125,143]
 |165,51=>[3,8,11,12,13,14,15,123,124,125]
 |165,53=>[3,8,11,12,14,15,123,124,125,148]
 |165,55=>[3,8,11,12,14,15,123,124,125]
 |165,57=>[3,8,11,12,15,123,124,125,156]
 |165,59=>[3,8,11,12,123,124,125]
 |165,61=>[3,8,11,12,123,124,125]
 |165,63=>[4,5]
 |166,1=>[0,1,4]
 |166,3=>[1,4,5]
 |166,5=>[1,4,5,9]
 |166,7=>[4]
 |166,9=>[4,13]
 |166,11=>[4]
 |166,13=>[4]
 |191,1=>[0,1]
 |191,3=>[4]
 |193,1=>[1,2,3,4]
 |193,3=>[6]
 |194,1=>[0]
 |194,3=>[4]
 |194,5=>[2]
 |283,1=>[]
 |283,3=>[]
 |283,5=>[]
 |283,7=>[]
 |283,9=>[]
 |283,11=>[]
 |33,2000000=>[0]
 |57,2000000=>[0]
 |90,2000000=>[0]
 |123,2000000=>[0]
 |124,2000000=>[0]
 |32,2000000=>[0]
 |30,2000000=>[0]
 |29,2000000=>[0]
 |23,2000000=>[0]
 |41,2000000=>[0]
 |75,2000000=>[0]
 |72,2000000=>[0]
 |76,2000000=>[0]
 |113,2000000=>[0]
 |112,2000000=>[0]
 |111,2000000=>[0]
 |73,2000000=>[0]
 |110,2000000=>[0]
 |74,2000000=>[0]
 |114,2000000=>[0]
 |77,2000000=>[0]
 |42,2000000=>[0]
 |24,2000000=>[0]
 |111,2000001=>[0]
 |73,2000001=>[0]
 |74,2000001=>[0]
 |77,2000001=>[0]
 |42,2000001=>[0]
 |24,2000001=>[0]
 |8,2000001=>[0]
 |73,6000000=>[0]
 |74,6000000=>[0]
 |57,4000010=>[0]
 |57,4000019=>[0]
 |57,4000023=>[0]
 |57,4000006=>[0]
 |_,_=>[]
@[simp] theorem sz71:szO Tryz.prog 71=some 2:=by kernel_rfl
@[simp] theorem by71:byO Tryz.prog 71=some 32:=by kernel_rfl
@[simp] theorem zo71:zOk Tryz.prog 71=true:=by kernel_rfl
@[simp] theorem bo2:bodyOf Tryz.prog 2=some Tryz.f2:=by kernel_rfl
abbrev x25q:=@EC.decL_encL
abbrev x26q:=@EC.isL_encL
end Go.Proofs.YtmlcmoaonaomfaaGreatDoor
