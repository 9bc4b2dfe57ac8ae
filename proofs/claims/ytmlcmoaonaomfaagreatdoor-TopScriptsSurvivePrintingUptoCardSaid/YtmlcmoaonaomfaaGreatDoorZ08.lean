/- The machine in continuation style: stores, appends, one operation, regions. -/
import Derived.Test.YtmlcmoaonaomfaaGreatDoorZ07
namespace Go.Proofs.YtmlcmoaonaomfaaGreatDoor
open Go.RowKit
section
variable {β:Type}
def forceNat (n:Nat) (k:Nat->Oq β):Oq β:=match n with
 |0=>k 0
 |m+1=>k (m+1)
theorem qlh (n:Nat) (k:Nat->Oq β):forceNat n k=k n:=by cases n <;> rfl
def forceNL (l:List Nat) (k:List Nat->Oq β):Oq β:=match l with
 |[]=>k []
 |x::l=>forceNat x λx=>forceNL l λl=>k (x::l)
theorem qlg:∀ (l:List Nat) (k:List Nat->Oq β),forceNL l k=k l
 |[],_=>rfl
 |x::l,k=>by rw [forceNL,qlh,qlg]
end
section
variable (P:Program) {β:Type}
def storeTE (h:Nat->Oq B) (sh:Nat->Bool) (id i:Nat) (x:V) (k:(Nat->Oq B)×(Nat->Bool)->Oq β):Oq β :=
 match h id with
 |some (.row es)=>if sh id then none else gdE (decide (i<es.length)&&es.all (λe=>e.length==1)) (k (upd h id (some (.tab es i x)),sh))
 |some (.tab es q v)=>gdE (decide (i<es.length)) (brE (decide (q<es.length)) ((frzC h v).bind λy=>if y.2.contains id then none else k (upd h id (some (.tab (es.set q [y.1]) i x)),λj=>if j∈y.2 then true else sh j)) (k (upd h id (some (.tab es i x)),sh)))
 |_=>none
theorem q1dv {h:Nat->Oq B} {sh:Nat->Bool} {id i:Nat} {x:V} {k:(Nat->Oq B)×(Nat->Bool)->Oq β} {r:β} (hh:storeTE h sh id i x k=some r):(storeT h sh id i x).bind k=some r:=by
 unfold storeTE at hh;unfold storeT;split at hh
 ·rename_i es e
  simp only [e];split at hh
  ·cases hh
  ·rename_i hs
   obtain ⟨h0,hh⟩:=qm2 hh;simp only [x6q,y45q] at h0;rw [if_pos ⟨by simpa using hs,h0.1,h0.2⟩]
   exact hh
 ·rename_i es q v e
  simp only [e];obtain ⟨h0,hh⟩:=qm2 hh;simp only [y45q] at h0;rw [if_pos h0];by_cases hq:q<es.length
  case neg =>
   simp only [hq,decide_false,brE] at hh;simp only [hq,x21q,x0q];exact hh
  simp only [hq,decide_true,brE] at hh;simp only [hq,x20q];cases hf:frzC h v with
  |none=>rw [hf] at hh;cases hh
  |some y =>
   rw [hf] at hh;simp only [x0q] at hh ⊢;split at hh
   ·cases hh
   ·rename_i h1;rw [if_neg h1];exact hh
 ·cases hh
def storeE (h:Nat->Oq B) (sh:Nat->Bool) (t:TypeId) (a x:V) (k:(Nat->Oq B)×(Nat->Bool)->Oq β):Oq β :=
 match a with
 |.rptr id z i off=>x.cells.bind λvs=>if szO P t≠some vs.length then none else
  if z=1/\off=0/\isRowV x=true then storeTE h sh id i x k else
  match h id with
  |some (.row es)=>if sh id then none else gdE (decide (i<es.length)&&(es.getD i []).length==z) (if off+vs.length<=z then
    (frzL h vs).bind λy=>forceCs y.1 λyl=>if y.2.contains id then none else k (upd h id (some (.row (es.set i (splice (es.getD i []) off yl)))),λj=>if j∈y.2 then true else sh j) else none)
  |_=>none
 |a=>(storeV P h sh t a x).bind k
theorem q1du {h:Nat->Oq B} {sh:Nat->Bool} {t:TypeId} {a x:V} {k:(Nat->Oq B)×(Nat->Bool)->Oq β} {r:β} (hh:storeE P h sh t a x k=some r):(storeV P h sh t a x).bind k=some r:=by
 unfold storeE at hh;split at hh
 ·unfold storeV
  cases a1:x.cells with
  |none=>rw [a1] at hh;cases hh
  |some vs =>
   rw [a1] at hh;simp only [x0q] at hh ⊢;split at hh
   ·cases hh
   ·rename_i h1
    rw [if_neg h1];split at hh
    ·rename_i h2
     simp only [if_pos h2];exact q1dv hh
    rename_i hnT;simp only [if_neg hnT];split at hh
    ·rename_i es e
     simp only [e];split at hh
     ·cases hh
     ·rename_i h2
      rw [if_neg h2];obtain ⟨h0,hh⟩:=qm2 hh;simp only [x6q,y45q,beq_iff_eq] at h0;rw [qm3 (d:=[]) h0.1];simp only [x0q];split at hh
      ·rename_i h3
       rw [if_pos ⟨h0.2,by rw [h0.2];exact h3⟩]
       cases a2:frzL h vs with
       |none=>rw [a2] at hh;cases hh
       |some y =>
        rw [a2] at hh;simp only [x0q,ql9] at hh ⊢;split at hh
        ·cases hh
        ·rename_i h4
         rw [if_neg h4];exact hh
      ·cases hh
    ·cases hh
 ·exact hh
def tgE (h:Nat->Oq B) (s:V) (_xs:List (List C)) (k:List (List C)×Nat×Oq Nat->Oq β):Oq β:=(tgtV h s true).bind k
theorem tgE_ok {h:Nat->Oq B} {s:V} {xs:List (List C)} {k:List (List C)×Nat×Oq Nat->Oq β} {r:β} (hh:tgE h s xs k=some r):∃ g,tgtV h s xs.isEmpty=some g/\k g=some r:=by
 unfold tgE at hh
 ·cases a:tgtV h s true with
  |none=>rw [a] at hh;cases hh
  |some g=>rw [a] at hh;exact ⟨g,q1i4 a _,hh⟩
def apdE (h:Nat->Oq B) (sh:Nat->Bool) (base:Nat) (e:TypeId) (s:V) (y:Oq (C×List Nat)) (k:V×(Nat->Oq B)×(Nat->Bool)->Oq β):Oq β :=
 (P.info? e).bind λi=>if 0<i.size/\i.zero.map (λz=>z.cells.size)=some i.size then
  y.bind λy=>match y.1 with
  |.sl xs=>tgE h s xs λg =>
   if g.2.2.all (λid=>!y.2.contains id)=true then
    gdE ((xs.all (λel=>el.length==i.size)&&g.1.all (λel=>el.length==i.size))&&decide (((g.2.1+xs.length)+(g.2.1+xs.length) / 4+192)*i.bytes<=281474976710656)&&decide (g.2.1+xs.length<=9223372036854775807))
     (k (.row base (g.2.1+xs.length),upd (dropO h g.2.2) base (some (.row (g.1++xs))),upd (λj=>if j∈y.2 then true else sh j) base ((g.2.2.map sh).getD false)))
   else none
  |_=>none
 else none
theorem q44 {h:Nat->Oq B} {sh:Nat->Bool} {base:Nat} {e:TypeId} {s:V} {x:Oq (C×List Nat)} {k:V×(Nat->Oq B)×(Nat->Bool)->Oq β} {r:β} (hh:apdE P h sh base e s x k=some r):(apdV P h sh base e s x).bind k=some r:=by
 unfold apdE at hh;unfold apdV;cases a1:P.info? e with
 |none=>rw [a1] at hh;cases hh
 |some i =>
  rw [a1] at hh;simp only [x0q] at hh ⊢;split at hh
  ·rename_i h1
   rw [if_pos h1];cases a2:x with
   |none=>rw [a2] at hh;cases hh
   |some y =>
    rw [a2] at hh;simp only [x0q] at hh ⊢;split at hh
    ·rename_i xs e1
     simp only [e1];obtain ⟨g,a3,hh⟩:=tgE_ok hh
     ·rw [a3]
      simp only [x0q] at hh ⊢;split at hh
      ·rename_i h2
       obtain ⟨h0,hh⟩:=qm2 hh;rw [x6q,x6q,y45q,y45q] at h0;rw [if_pos ⟨h0.1.1,h0.1.2,h0.2,h2⟩];exact hh
      ·cases hh
    ·cases hh
  ·cases hh
def setE (h:Nat->Oq B) (sh:Nat->Bool) (t:TypeId) (m k v:V) (kk:V×(Nat->Oq B)×(Nat->Bool)->Oq β):Oq β :=
 match P.underlying t,m,k,v with
 |some (.map kt _),.mp id,.c (.str k),.c (.str v)=>bif isStrT P kt then match h id with
  |some (.mp l)=>gdE (decide (k.size<=maxLen)&&decide (v.size<=maxLen)&&decide (l.length<maxLen)) (kk (.any,upd h id (some (.mp (putM l k v))),sh))
  |_=>none else none
 |_,_,_,_=>none
theorem q1cq {h:Nat->Oq B} {sh:Nat->Bool} {t:TypeId} {m k v:V} {kk:V×(Nat->Oq B)×(Nat->Bool)->Oq β} {r:β} (hh:setE P h sh t m k v kk=some r):(setM P h sh t m k v).bind kk=some r:=by
 unfold setE at hh;unfold setM;split at hh
 case h_2=>cases hh
 rename_i kt et id k v hu;simp only [hu];cases hs:isStrT P kt with
 |false=>rw [hs] at hh;cases hh
 |true =>
 rw [hs] at hh;simp only [x22q] at hh ⊢;split at hh
 case h_2=>cases hh
 rename_i l hl;simp only [hl];obtain ⟨h0,hh⟩:=qm2 hh;simp only [x6q,y45q] at h0;rw [if_pos ⟨h0.1.1,h0.1.2,h0.2⟩];exact hh
def ev2E (h:Nat->Oq B) (sh:Nat->Bool) (r:Operand->V) (base:Nat) (o:Op) (k:V×(Nat->Oq B)×(Nat->Bool)->Oq β):Oq β :=
 match o with
 |.store t a x=>storeE P h sh t (r a) (r x) λy=>k (.any,y.1,y.2)
 |.mapUpdate t m x v=>setE P h sh t (r m) (r x) (r v) k
 |.call { callee:=.builtin .append,args,argTypes } =>
  match argTypes.toList,args.toList with
  |[t,t'],[s,x]=>match P.underlying t,P.underlying t' with
   |some (.slice e),some (.slice _)=>apdE P h sh base e (r s) (frzC h (r x)) k
   |some (.slice e),some .string=>bif isByteT P e then apdE P h sh base e (r s) (strY (r x)) k else none
   |_,_=>none
  |_,_=>none
 |_=>none
theorem qev {h:Nat->Oq B} {sh:Nat->Bool} {r:Operand->V} {base:Nat} {o:Op} {k:V×(Nat->Oq B)×(Nat->Bool)->Oq β} {x:β} (hh:ev2E P h sh r base o k=some x):(ev2 P h sh r base o).bind k=some x:=by
 unfold ev2E at hh;split at hh
 ·have:=q1du P hh
  simp only [ev2];cases e:storeV P h sh _ (r _) (r _) with
  |none=>rw [e] at this;cases this
  |some v=>rw [e] at this;exact this
 ·exact q1cq P hh
 ·unfold ev2
  split at hh
  ·rename_i e1 e2
   simp only [e1,e2];split at hh
   ·rename_i e3 e4
    simp only [e3,e4];exact q44 P hh
   ·rename_i e e3 e4
    simp only [e3,e4];cases hb:isByteT P e with
    |true=>rw [hb] at hh;exact q44 P hh
    |false=>rw [hb] at hh;cases hh
   ·cases hh
  ·cases hh
 ·cases hh
theorem q1it {t:Nat->V} {d:Nat} {v:V} (h:t d=v):upd t d v=t:=by
 funext j;unfold upd;split
 ·rename_i e;rw [e,h]
 ·rfl
def wantedE (ops:Array Oper) (s:St) (o:Oper) (a b:St->Oq β):Oq β :=
 match o.guard with
 |none=>a s
 |some (j,want)=>match (ops[j]?).bind (·.dst) with
  |some d=>match s.t d with
   |.c (.bool q)=>brE (q==want) (a { s with t:=upd s.t d (.c (.bool want)) }) (b { s with t:=upd s.t d (.c (.bool !want)) })
   |.tup _=>b s
   |_=>none
  |none=>none
theorem q1jb {ops:Array Oper} {s:St} {o:Oper} {a b:St->Oq β} {r:β} (h:wantedE ops s o a b=some r):(wantedV ops s.t o).bind (λw=>if w then a s else b s)=some r:=by
 unfold wantedE at h;unfold wantedV;split at h
 ·rename_i e
  simp only [e];exact h
 ·rename_i j want e
  simp only [e];split at h
  ·rename_i d e0
   simp only [e0,x18q];split at h
   ·rename_i q e1
    simp only [e1,x0q];by_cases hq:q=want
    ·subst hq
     rw [q1it e1] at h;simp only [x19q,brE] at h;simp only [x19q,x20q];exact h
    ·have e2:q=!want:=by cases q <;> cases want <;> simp_all
     have e3:(q==want)=false:=by simpa using hq
     rw [←e2,q1it e1,e3] at h;simp only [e3,x1q,x21q];exact h
   ·rename_i e1
    simp only [e1,x0q];exact h
   ·cases h
  ·cases h
def forceB (x:B) (k:B->Oq β):Oq β:=match x with
 |.box cs=>forceL2 cs λcs=>k (.box cs)
 |.row es=>k (.row es)
 |.mp l=>k (.mp l)
 |.tab es i v=>forceV v λv=>k (.tab es i v)
theorem ql6 (x:B) (k:B->Oq β):forceB x k=k x:=by cases x <;> simp only [forceB,qlf,qlo]
def forceBs (l:List B) (k:List B->Oq β):Oq β:=match l with
 |[]=>k []
 |x::l=>forceB x λx=>forceBs l λl=>k (x::l)
theorem ql7:∀ (l:List B) (k:List B->Oq β),forceBs l k=k l
 |[],_=>rfl
 |x::l,k=>by rw [forceBs,ql6,ql7]
def ioE (chE:FuncId->Oq (List V->St->(V×St->Oq β)->Oq β)) (r:Operand->V):Op->Oq (FuncId×(List V->St->(V×St->Oq β)->Oq β)×List V)
 |.call { callee:=.value f,args,.. }=>match r f with
  |.fn g caps=>(bodyOf P (cFn g)).bind λ_=>(chE (cFn g)).map λh=>(cFn g,h,cAr g (args.toList.map r) caps)
  |_=>none
 |_=>none
def KE (ch:FuncId->Oq (List V->St->Oq (V×St))) (chE:FuncId->Oq (List V->St->(V×St->Oq β)->Oq β)):Prop :=
 ∀ f,(ch f=none/\chE f=none)∨∃ (g:List V->St->Oq (V×St)) (gE:List V->St->(V×St->Oq β)->Oq β),ch f=some g/\chE f=some gE/\∀ args s k r,gE args s k=some r->∃ x,g args s=some x/\k x=some r
theorem ioE_ok {ch:FuncId->Oq (List V->St->Oq (V×St))} {chE:FuncId->Oq (List V->St->(V×St->Oq β)->Oq β)} (hk:KE ch chE) (r:Operand->V) (o:Op) :
  (ioOf P ch r o=none/\ioE P chE r o=none)∨∃ (f:FuncId) (g:List V->St->Oq (V×St)) (gE:List V->St->(V×St->Oq β)->Oq β) (args:List V),ioOf P ch r o=some (f,g,args)/\ioE P chE r o=some (f,gE,args)/\∀ args s k r,gE args s k=some r->∃ x,g args s=some x/\k x=some r:=by
 by_cases h:∃ f args ats,o=.call { callee:=.value f,args:=args,argTypes:=ats }
 ·obtain ⟨f,args,ats,rfl⟩:=h
  simp only [ioOf,ioE];generalize r f=v;cases v with
  |fn g caps =>
   simp only;cases bodyOf P (cFn g) with
   |none=>exact .inl ⟨rfl,rfl⟩
   |some fn =>
    simp only [x0q];rcases hk (cFn g) with ⟨h1,h2⟩|⟨g',gE,h1,h2,h3⟩
    ·exact .inl ⟨by rw [h1];rfl,by rw [h2];rfl⟩
    ·exact .inr ⟨cFn g,g',gE,_,by rw [h1];rfl,by rw [h2];rfl,h3⟩
  |_=>exact .inl ⟨rfl,rfl⟩
 ·refine .inl ⟨?_,?_⟩
  ·unfold ioOf;split;(exact absurd ⟨_,_,_,rfl⟩ h);rfl
  ·unfold ioE;split;(exact absurd ⟨_,_,_,rfl⟩ h);rfl
theorem KE.no:KE (β:=β) (λ_=>none) (λ_=>none):=λ_=>.inl ⟨rfl,rfl⟩
def heapE (g:List V->St->(V×St->Oq β)->Oq β) (args:List V) (N:Nat) (lv:List Nat) (base:Nat) (s:St) (k:V×(Nat->Oq B)×(Nat->Bool)->Oq β):Oq β :=
 forceNL (reach s.h args) λK=>forceNL (ogK K lv s) λog =>
  g args { t:=λ_=>.any,h:=onlyB K s.h,sh:=s.sh,nx:=N,lr:=λ_=>[],lw:=λ_=>[],og:=og } λx =>
   if x.2.og.length=og.length/\x.2.nx<=8 then k (topO (λj=>some (bkR og base x.2.og j)) x.1,bkH K og base x.2 s.h,bkS K og base x.2 s.sh) else none
theorem qo1 {g:List V->St->Oq (V×St)} {gE:List V->St->(V×St->Oq β)->Oq β} (h3:∀ args s k r,gE args s k=some r->∃ x,g args s=some x/\k x=some r) {args:List V} {N:Nat} {lv:List Nat} {base:Nat} {s:St} {k:V×(Nat->Oq B)×(Nat->Bool)->Oq β} {r:β} (h:heapE gE args N lv base s k=some r):(heapD g args N lv base s).bind k=some r:=by
 unfold heapE at h;rw [qlg,qlg] at h;obtain ⟨x,e1,e2⟩:=h3 _ _ _ _ h;unfold heapD;rw [e1];simp only [x0q];split at e2
 ·rename_i hc
  rw [if_pos hc];exact e2
 ·cases e2
structure HE (β:Type) where
 callE:FuncId->List V->(V×List B->Oq β)->Oq β
 io:FuncId->Bool
 chE:FuncId->Oq (List V->St->(V×St->Oq β)->Oq β)
 lv:Nat->List Nat
 N:Nat
def he0 (callE:FuncId->List V->(V×List B->Oq β)->Oq β):HE β:=⟨callE,λ_=>false,λ_=>none,λ_=>[],0⟩
def ev2HE (he:HE β) (base:Nat) (o:Op) (s:St) (k:V×(Nat->Oq B)×(Nat->Bool)->Oq β):Oq β :=
 bif isIo he.io o then (match ioE P he.chE (rho s.t) o with|some z=>heapE z.2.1 z.2.2 he.N (he.lv base) base s k|none=>none) else ev2E P s.h s.sh (rho s.t) base o k
theorem qew {call:FuncId->List V->Oq (V×List B)} {callE:FuncId->List V->(V×List B->Oq β)->Oq β} {ch:FuncId->Oq (List V->St->Oq (V×St))} {chE:FuncId->Oq (List V->St->(V×St->Oq β)->Oq β)} (hk:KE ch chE) {io:FuncId->Bool} {lvf:Nat->List Nat} {N base:Nat} {o:Op} {s:St} {k:V×(Nat->Oq B)×(Nat->Bool)->Oq β} {r:β}
  (h:ev2HE P ⟨callE,io,chE,lvf,N⟩ base o s k=some r):(ev2H P ⟨call,io,ch,lvf,N⟩ base o s).bind k=some r:=by
 unfold ev2HE at h;unfold ev2H;simp only at h ⊢;cases hio:isIo io o with
 |false =>simp only [hio,cond_false] at h ⊢;exact qev P h
 |true =>
  simp only [hio,x22q] at h ⊢;rcases ioE_ok P hk (rho s.t) o with ⟨h1,h2⟩|⟨f,g,gE,args,h1,h2,h3⟩
  ·rw [h2] at h;cases h
  ·simp only [h1,h2,x0q] at h ⊢
   exact qo1 h3 h
def opE (q:Bool) (he:HE β) (nt:Nat) (ops:Array Oper) (hv:Nat->Oq B) (base:Nat) (o:Oper) (s:St) (k:St->Oq β):Oq β :=
 if (o.dst.all (λd=>decide (d<nt)))=true then
  wantedE ops s o
   (λs=>match kindB P he.io ops o.op with
   |0=>ev0E P (rho s.t) o.op λv=>forceV v λv=>k { s with t:=putD s.t o.dst v }
   |1=>ev1Q P q he.callE hv (rho s.t) base o.op λx=>if x.2.1.length<=8 then forceV x.1 λv=>forceBs x.2.1 λbs =>
      k { s with t:=putD s.t o.dst v,h:=addB s.h base bs,sh:=λi=>if i∈x.2.2 then true else s.sh i } else none
   |_=>ev2HE P he base o.op s λx=>forceV x.1 λv=>k { s with t:=putD s.t o.dst v,h:=x.2.1,sh:=x.2.2 })
   (λs=>k { s with t:=putD s.t o.dst (.tup []) })
 else none
theorem opE_ok {call:FuncId->List V->Oq (V×List B)} {callE:FuncId->List V->(V×List B->Oq β)->Oq β} (hc:∀ f a k r,callE f a k=some r->(call f a).bind k=some r) {ch:FuncId->Oq (List V->St->Oq (V×St))} {chE:FuncId->Oq (List V->St->(V×St->Oq β)->Oq β)} (hk:KE ch chE) {io:FuncId->Bool} {lvf:Nat->List Nat} {N:Nat}
  {q:Bool} {nt:Nat} {ops:Array Oper} {hv:Nat->Oq B} {base:Nat} {o:Oper} {s:St} {k:St->Oq β} {x:β} (h:opE P q ⟨callE,io,chE,lvf,N⟩ nt ops hv base o s k=some x):(opD P ⟨call,io,ch,lvf,N⟩ nt ops hv base o s).bind k=some x:=by
 unfold opE at h;unfold opD;split at h
 ·rename_i h1
  rw [if_pos h1];have h2:=q1jb h
  cases a1:wantedV ops s.t o with
  |none=>rw [a1] at h2;cases h2
  |some w =>
   rw [a1] at h2;simp only [x0q] at h2 ⊢;cases w with
   |false=>exact h2
   |true =>
    simp only [x20q] at h2 ⊢;split at h2
    ·rename_i hk
     simp only [qlo] at h2;have h3:=qel P h2
     simp only [hk];cases a2:ev0 P (rho s.t) o.op with
     |none=>rw [a2] at h3;cases h3
     |some v=>rw [a2] at h3;exact h3
    ·rename_i hk
     simp only [qlo,ql7] at h2;have h3:=qep P hc h2
     simp only [hk];cases a2:ev1 P call hv (rho s.t) base o.op with
     |none=>rw [a2] at h3;cases h3
     |some v =>
      rw [a2] at h3;simp only [x0q] at h3 ⊢;split at h3
      ·rename_i h4
       rw [if_pos h4];exact h3
      ·cases h3
    ·rename_i hk1 hk2
     simp only [qlo] at h2;have h3:=qew P (call:=call) hk h2
     split
     ·rename_i hk;exact absurd hk hk1
     ·rename_i hk;exact absurd hk hk2
     ·cases a2:ev2H P ⟨call,io,ch,lvf,N⟩ base o.op s with
      |none=>rw [a2] at h3;cases h3
      |some v=>rw [a2] at h3;exact h3
 ·cases h
end
end Go.Proofs.YtmlcmoaonaomfaaGreatDoor
namespace Go.Proofs.YtmlcmoaonaomfaaGreatDoor
open Go.RowKit
section
variable (P:Program) {β:Type}
def stE (callE:HE β) (nt:Nat) (ops:Array Oper) (an:Nat->Nat) (rb j:Nat) (o:Oper) (s:St) (k:St->Oq β):Oq β :=
 if (logOk ops.size an s.lw j (ldAdr (rho s.t) o.op)&&logOk ops.size an s.lr j (stAdr callE.io ops s.h (rho s.t) o.op))=true then
  opE P true callE nt ops (visB s.h rb (an j)) (rb+8*j) o s λs'=>k { s' with lr:=upd s.lr j (ldAdr (rho s.t) o.op),lw:=upd s.lw j (stAdr callE.io ops s.h (rho s.t) o.op) }
 else none
def runE (callE:HE β) (nt:Nat) (ops:Array Oper) (an:Nat->Nat) (rb:Nat):List Oper->Nat->St->(St->Oq β)->Oq β
 |[],_,s,k=>k s
 |o::os,j,s,k=>stE P callE nt ops an rb j o s λs=>runE callE nt ops an rb os (j+1) s k
def runNE (callE:FuncId->List V->(V×List B->Oq β)->Oq β) (chE:FuncId->Oq (List V->St->(V×St->Oq β)->Oq β)) (lv:Nat->List Nat) (nt:Nat) (ops:Array Oper):List Oper->Nat->Nat->St->(St->Oq β)->Oq β
 |[],_,base,s,k=>k { s with nx:=base }
 |o::os,j,base,s,k=>match ioE P chE (rho s.t) o.op with
  |some (_,g,args)=>if (o.dst.all (λd=>decide (d<nt)))=true then (wantedV ops s.t o).bind λw=>if w then
     heapE g args base (lv j) base s λx=>runNE callE chE lv nt ops os (j+1) (base+8) { s with t:=putD s.t o.dst x.1,h:=x.2.1,sh:=x.2.2 } k
    else runNE callE chE lv nt ops os (j+1) (base+8) { s with t:=putD s.t o.dst (.tup []) } k
   else none
  |none=>opE P false (he0 callE) nt ops s.h base o s λs=>runNE callE chE lv nt ops os (j+1) (base+8) s k
variable {call:FuncId->List V->Oq (V×List B)} {callE:FuncId->List V->(V×List B->Oq β)->Oq β}
theorem stE_ok {call:FuncId->List V->Oq (V×List B)} {callE:FuncId->List V->(V×List B->Oq β)->Oq β} (hc:∀ f a k r,callE f a k=some r->(call f a).bind k=some r) {ch:FuncId->Oq (List V->St->Oq (V×St))} {chE:FuncId->Oq (List V->St->(V×St->Oq β)->Oq β)} (hk:KE ch chE) {io:FuncId->Bool} {lvf:Nat->List Nat} {N:Nat} {nt:Nat} {ops:Array Oper} {an:Nat->Nat} {rb j:Nat} {o:Oper} {s:St} {k:St->Oq β} {x:β} (h:stE P ⟨callE,io,chE,lvf,N⟩ nt ops an rb j o s k=some x):(stepD P ⟨call,io,ch,lvf,N⟩ nt ops an rb j o s).bind k=some x:=by
 unfold stE at h;unfold stepD;split at h
 ·rename_i h1
  rw [if_pos h1];have h2:=opE_ok P hc hk h
  cases a:opD P ⟨call,io,ch,lvf,N⟩ nt ops (visB s.h rb (an j)) (rb+8*j) o s with
  |none=>rw [a] at h2;cases h2
  |some v=>rw [a] at h2;exact h2
 ·cases h
theorem q1bk {call:FuncId->List V->Oq (V×List B)} {callE:FuncId->List V->(V×List B->Oq β)->Oq β} (hc:∀ f a k r,callE f a k=some r->(call f a).bind k=some r) {ch:FuncId->Oq (List V->St->Oq (V×St))} {chE:FuncId->Oq (List V->St->(V×St->Oq β)->Oq β)} (hk:KE ch chE) {io:FuncId->Bool} {lvf:Nat->List Nat} {N:Nat} {nt:Nat} {ops:Array Oper} {an:Nat->Nat} {rb:Nat}:∀ (os:List Oper) (j:Nat) (s:St) (k:St->Oq β) (x:β),ops.toList.drop j=os->runE P ⟨callE,io,chE,lvf,N⟩ nt ops an rb os j s k=some x->(runD P ⟨call,io,ch,lvf,N⟩ nt ops an rb (List.range' j os.length) s).bind k=some x
 |[],_,s,k,x,_,h=>h
 |o::os,j,s,k,x,ho,h=>by
  have hj:ops[j]?=some o:=by
   have:(ops.toList.drop j)[0]?=some o:=by rw [ho];rfl
   rw [List.getElem?_drop] at this;simpa using this
  have hd:ops.toList.drop (j+1)=os:=by rw [←List.tail_drop,ho];rfl
  rw [runE] at h;have h1:=stE_ok P hc hk h
  rw [x9q,List.range'_succ,runD,hj];simp only [x0q];cases a:stepD P ⟨call,io,ch,lvf,N⟩ nt ops an rb j o s with
  |none=>rw [a] at h1;cases h1
  |some s1 =>rw [a] at h1;exact q1bk hc hk os (j+1) s1 k x hd h1
variable (hc:∀ f a k r,callE f a k=some r->(call f a).bind k=some r)
include hc
theorem q1bp {ch:FuncId->Oq (List V->St->Oq (V×St))} {chE:FuncId->Oq (List V->St->(V×St->Oq β)->Oq β)} (hk:KE ch chE) {lv:Nat->List Nat} {nt:Nat} {ops:Array Oper}:∀ (os:List Oper) (j b:Nat) (s:St) (k:St->Oq β) (x:β),runNE P callE chE lv nt ops os j b s k=some x->(runN P call ch lv nt ops os j b s).bind k=some x
 |[],_,_,s,k,x,h=>h
 |o::os,j,b,s,k,x,h=>by
  rw [runNE] at h;rw [runN];rcases ioE_ok P hk (rho s.t) o.op with ⟨h1,h2⟩|⟨f,g,gE,args,h1,h2,h3⟩
  ·simp only [h1,h2] at h ⊢
   have h1:(opD P (hp0 call) nt ops s.h b o s).bind (λs=>runNE P callE chE lv nt ops os (j+1) (b+8) s k)=some x:=opE_ok P hc (KE.no) h;cases a:opD P (hp0 call) nt ops s.h b o s with
   |none=>rw [a] at h1;cases h1
   |some s1 =>rw [a] at h1;exact q1bp hk os (j+1) (b+8) s1 k x h1
  ·simp only [h1,h2] at h ⊢
   split at h
   case isFalse=>cases h
   rename_i hd;simp only [hd,x20q];cases hw:wantedV ops s.t o with
   |none=>rw [hw] at h;cases h
   |some q =>
    rw [hw] at h;simp only [x0q] at h ⊢;cases q with
    |false=>exact q1bp hk os (j+1) (b+8) _ k x h
    |true =>
     simp only [x20q] at h ⊢;have e2:=qo1 h3 h
     cases hy:heapD g args b (lv j) b s with
     |none=>rw [hy] at e2;cases e2
     |some y =>rw [hy] at e2;simp only [x0q] at e2 ⊢;exact q1bp hk os _ _ _ k x e2
end
section
variable {β:Type}
def forceT (l:List (Nat×V)) (k:List (Nat×V)->Oq β):Oq β:=match l with
 |[]=>k []
 |(i,v)::l=>forceV v λv=>forceT l λl=>k ((i,v)::l)
theorem qll:∀ (l:List (Nat×V)) (k:List (Nat×V)->Oq β),forceT l k=k l
 |[],_=>rfl
 |(i,v)::l,k=>by rw [forceT,qlo,qll]
def forceOB (x:Oq B) (k:Oq B->Oq β):Oq β:=match x with
 |none=>k none
 |some b=>forceB b λb=>k (some b)
theorem qli (x:Oq B) (k:Oq B->Oq β):forceOB x k=k x:=by cases x <;> simp only [forceOB,ql6]
def forceH (l:List (Oq B)) (k:List (Oq B)->Oq β):Oq β:=match l with
 |[]=>k []
 |x::l=>forceOB x λx=>forceH l λl=>k (x::l)
theorem qlb:∀ (l:List (Oq B)) (k:List (Oq B)->Oq β),forceH l k=k l
 |[],_=>rfl
 |x::l,k=>by rw [forceH,qli,qlb]
def forceS (l:List Bool) (k:List Bool->Oq β):Oq β:=match l with
 |[]=>k []
 |true::l=>forceS l λl=>k (true::l)
 |false::l=>forceS l λl=>k (false::l)
theorem qlk:∀ (l:List Bool) (k:List Bool->Oq β),forceS l k=k l
 |[],_=>rfl
 |true::l,k=>by rw [forceS,qlk]
 |false::l,k=>by rw [forceS,qlk]
end
structure LS where
 t:List (Nat×V)
 h:List (Oq B)
 sh:List Bool
 og:List Nat
def LS.st (s:LS):St:=mkS s.t s.h s.sh s.og
def setT (d:Nat) (v:V):List (Nat×V)->List (Nat×V)
 |[]=>[]
 |(j,x)::l=>bif j==d then (j,v)::l else (j,x)::setT d v l
theorem q1ct {d:Nat} {v:V}:∀ (l:List (Nat×V)),tb l d=v->tb (setT d v l)=tb l
 |[],_=>rfl
 |(j,x)::l,h=>by
  unfold setT;by_cases e:j=d
  ·subst e
   simp only [tb,x20q] at h;subst h;simp
  ·have e':(j==d)=false:=by simpa using e
   simp only [tb,Ne.symm e,x21q] at h;simp only [e',cond_false];funext i;simp only [tb,q1ct l h]
section
variable {β:Type}
def canK (live:List Nat) (s:St) (k:LS->Oq β):Oq β :=
 forceNL (canL live s) λl=>forceT (canT live s (λid=>pos id l)) λt=>forceH (l.map λid=>(nilH s.nx s.h id).map (B.renO (λid=>pos id l))) λh=>forceS (l.map (nilSh s.nx s.sh)) λsh=>forceNL (canO s (λid=>pos id l)) λog=>k ⟨t,h,sh,og⟩
theorem q98 {live:List Nat} {s:St} {k:LS->Oq β} {r:β} (h:canK live s k=some r):∃ ls,canon live s=ls.st/\k ls=some r:=by unfold canK at h;rw [qlg,qll,qlb,qlk,qlg] at h;exact ⟨⟨_,_,_,_⟩,q99 live s,h⟩
end
def setL (s:LS) (c:Operand) (q:Bool):LS:=match c with
 |.tmp d=>{ s with t:=setT d (.c (.bool q)) s.t }
 |_=>s
theorem q1cr {s:LS} {c:Operand} {q:Bool} (h:rho s.st.t c=.c (.bool q)):(setL s c q).st=s.st:=by
 cases c with
 |tmp d =>have h':tb s.t d=.c (.bool q):=h;simp only [setL,LS.st,mkS,q1ct s.t h']
 |_=>rfl
def loopsOf (live:Nat->List Nat):Code->List Code
 |.loop c=>[c]
 |.seq a b=>loopsOf live a++(match cutL live b with|[]=>loopsOf live b|_=>[])
 |.cond _ a b=>loopsOf live a++loopsOf live b
 |.block _ c=>loopsOf live c
 |_=>[]
def segsOf (live:Nat->List Nat):Code->List Code
 |.seq a b=>segsOf live a++(match cutL live b with|[]=>segsOf live b|_=>[b])
 |.cond _ a b=>segsOf live a++segsOf live b
 |.block _ c=>segsOf live c
 |_=>[]
def allDraw (P:Program) (io:FuncId->Bool) (live:Nat->List Nat):Code->Bool
 |.region id ops true=>drawOk P (ioR live id io) (λj=>live (3000000+1000*id+j)) ops
 |.seq a b=>allDraw P io live a&&allDraw P io live b
 |.cond _ a b=>allDraw P io live a&&allDraw P io live b
 |.block _ c=>allDraw P io live c
 |_=>true
def en (args:List V) (k:Nat):List (Nat×V):=match args with
 |[]=>[]
 |a::l=>(k,a)::en l (k+1)
theorem en_tb:∀ (args:List V) (k i:Nat),tb (en args k) i=if i<k then .any else args.getD (i - k) .any
 |[],k,i=>by simp [en,tb]
 |a::l,k,i=>by
  simp only [en,tb,en_tb l (k+1) i];by_cases h1:i=k
  ·subst h1;simp
  ·by_cases h2:i<k
   ·simp [h1,h2,show i<k+1 by omega]
   ·have h3:¬ i<k+1:=by omega
    have h4:i - k=(i - (k+1))+1:=by omega
    simp only [h1,h2,h3,x21q];rw [h4,List.getD_cons_succ]
theorem st0_eq (args:List V):st0 args=LS.st ⟨en args 0,[],[],[]⟩:=by unfold st0 LS.st mkS;congr 1;funext i;simp [en_tb]
section
variable (P:Program) {β:Type}
def codeL (io:FuncId->Bool) (live:Nat->List Nat) (callE:FuncId->List V->(V×List B->Oq β)->Oq β) (chE:FuncId->Oq (List V->St->(V×St->Oq β)->Oq β)) (nt:Nat) (loopE segE:Nat->LS->(Nat×LS->Oq β)->Oq β):Code->LS->(Nat×LS->Oq β)->Oq β
 |.skip,s,k=>k (0,s)
 |.region id ops true,s,k=>forceNL (befL ops.toList []) λan=>runE P ⟨callE,ioR live id io,chE,lvD (ioR live id io) (λj=>live (3000000+1000*id+j)) ops s.h.length,s.h.length+8*ops.size⟩ nt ops (λj=>an.getD j 0) s.h.length ops.toList 0 s.st λs'=>canK (live (2*id+1)) { s' with nx:=s.h.length+8*ops.size } λs'=>k (0,s')
 |.region id ops false,s,k=>runNE P callE chE (λj=>live (3000000+1000*id+j)) nt ops ops.toList 0 s.h.length s.st λs'=>canK (live (2*id+1)) s' λs'=>k (0,s')
 |.seq a b,s,k=>codeL io live callE chE nt loopE segE a s λx=>match x with
  |(0,s)=>match cutL live b with
   |[]=>codeL io live callE chE nt loopE segE b s k
   |_::_=>match fstRegion b with|some id=>segE id s k|none=>none
  |(n+1,s)=>k (n+1,s)
 |.cond c a b,s,k=>match rho s.st.t c with|.c (.bool q)=>brE q (codeL io live callE chE nt loopE segE a (setL s c true) k) (codeL io live callE chE nt loopE segE b (setL s c false) k)|_=>none
 |.block id c,s,k=>codeL io live callE chE nt loopE segE c s λx=>if x.1=id+2 then k (0,x.2) else k x
 |.loop c,s,k=>match fstRegion c with|some id=>loopE id s k|none=>none
 |.exit id,s,k=>k (id+2,s)
 |.ret,s,k=>k (1,s)
 |_,_,_=>none
theorem q9x {live:Nat->List Nat} {call:CT} {callE:FuncId->List V->(V×List B->Oq β)->Oq β} (hc:∀ f a k r,callE f a k=some r->(call.call f a).bind k=some r) {chE:FuncId->Oq (List V->St->(V×St->Oq β)->Oq β)} (hk:KE call.ch chE)
  {nt:Nat} {again:Code->St->Oq (Nat×St)} {loopE segE:Nat->LS->(Nat×LS->Oq β)->Oq β} :
  ∀ (c:Code),allDraw P call.io live c=true->(∀ L∈loopsOf live c,∀ id,fstRegion L=some id->∀ s k r,loopE id s k=some r->∃ n s',stepC P live call nt again (.loop L) s.st=some (n,s'.st)/\k (n,s')=some r) ->
  (∀ L∈segsOf live c,∀ id,fstRegion L=some id->∀ s k r,segE id s k=some r->∃ n s',stepC P live call nt again L (cutS live L s.st)=some (n,s'.st)/\k (n,s')=some r) ->
  ∀ (s:LS) (k:Nat×LS->Oq β) (r:β),codeL P call.io live callE chE nt loopE segE c s k=some r->∃ n s',stepC P live call nt again c s.st=some (n,s'.st)/\k (n,s')=some r:=by
 intro c;induction c with
 |skip=>intro _ _ _ s k r h;exact ⟨0,s,rfl,h⟩
 |region id ops dr =>
  intro hd _ _ s k r h;cases dr with
  |true =>
   rw [q1dk hd];simp only [codeL,qlg] at h;have h1:=q1bk P hc hk ops.toList 0 _ _ _ rfl h
   rw [x24q,←List.range_eq_range'] at h1;have e:(λj=>(befL ops.toList []).getD j 0)=anOf ops:=rfl
   rw [e] at h1;cases a:runD P ⟨call.call,ioR live id call.io,call.ch,lvD (ioR live id call.io) (λj=>live (3000000+1000*id+j)) ops s.h.length,s.h.length+8*ops.size⟩ nt ops (anOf ops) s.h.length (List.range ops.size) s.st with
   |none=>rw [a] at h1;cases h1
   |some s1 =>
    rw [a] at h1;simp only [x0q] at h1;obtain ⟨ls,h2,h3⟩:=q98 h1;refine ⟨0,ls,?_,h3⟩;show (runD P ⟨call.call,ioR live id call.io,call.ch,lvD (ioR live id call.io) (λj=>live (3000000+1000*id+j)) ops s.h.length,s.h.length+8*ops.size⟩ nt ops (anOf ops) s.h.length (List.range ops.size) s.st).map _=_
    rw [a,←h2];rfl
  |false =>
   rw [q1dm];simp only [codeL] at h;have h1:=q1bp P hc hk ops.toList _ _ _ _ _ h
   cases a:runN P call.call call.ch (λj=>live (3000000+1000*id+j)) nt ops ops.toList 0 s.h.length s.st with
   |none=>rw [a] at h1;cases h1
   |some s1 =>
    rw [a] at h1;simp only [x0q] at h1;obtain ⟨ls,h2,h3⟩:=q98 h1;refine ⟨0,ls,?_,h3⟩;show (runN P call.call call.ch (λj=>live (3000000+1000*id+j)) nt ops ops.toList 0 s.h.length s.st).map _=_
    rw [a,←h2];rfl
 |seq a b iha ihb =>
  intro hd hl hg s k r h;simp only [allDraw,x6q] at hd;simp only [codeL] at h;obtain ⟨n,s1,h1,h2⟩:=iha hd.1 (λL hL=>hl L (by simp [loopsOf,hL])) (λL hL=>hg L (by simp [segsOf,hL])) _ _ _ h
  rw [q1dn,h1];simp only [x0q];cases n with
  |zero =>
   simp only [x20q];simp only at h2;split at h2
   ·rename_i e
    simp only [cutS,e];exact ihb hd.2 (λL hL=>hl L (by simp [loopsOf,e,hL])) (λL hL=>hg L (by simp [segsOf,e,hL])) _ _ _ h2
   ·rename_i i l e
    split at h2
    ·rename_i id e'
     exact hg b (by simp [segsOf,e]) id e' _ _ _ h2
    ·cases h2
  |succ n=>exact ⟨n+1,s1,by simp,h2⟩
 |cond c a b iha ihb =>
  intro hd hl hg s k r h;simp only [allDraw,x6q] at hd;simp only [codeL] at h;split at h
  ·rename_i q e
   rw [q1dj e];cases q with
   |true =>
    obtain ⟨n,s1,h1,h2⟩:=iha hd.1 (λL hL=>hl L (by simp [loopsOf,hL])) (λL hL=>hg L (by simp [segsOf,hL])) _ _ _ h
    rw [q1cr e] at h1;exact ⟨n,s1,h1,h2⟩
   |false =>
    obtain ⟨n,s1,h1,h2⟩:=ihb hd.2 (λL hL=>hl L (by simp [loopsOf,hL])) (λL hL=>hg L (by simp [segsOf,hL])) _ _ _ h
    rw [q1cr e] at h1;exact ⟨n,s1,h1,h2⟩
  ·cases h
 |block id c ih =>
  intro hd hl hg s k r h;simp only [allDraw] at hd;simp only [codeL] at h;obtain ⟨n,s1,h1,h2⟩:=ih hd (λL hL=>hl L (by simpa [loopsOf] using hL)) (λL hL=>hg L (by simpa [segsOf] using hL)) _ _ _ h
  rw [q1di,h1];simp only [x0q];split at h2
  ·rename_i h3
   simp only at h3;exact ⟨0,s1,by simp [h3],h2⟩
  ·rename_i h3
   simp only at h3;exact ⟨n,s1,by simp [h3],h2⟩
 |loop c ih =>
  intro _ hl _ s k r h;simp only [codeL] at h;split at h
  ·rename_i id e
   exact hl c (by simp [loopsOf]) id e s k r h
  ·cases h
 |exit id=>intro _ _ _ s k r h;exact ⟨id+2,s,rfl,h⟩
 |ret=>intro _ _ _ s k r h;exact ⟨1,s,rfl,h⟩
 |_=>intro _ _ _ s k r h;simp [codeL] at h
end
noncomputable def pick {α:Type} (p:α->Prop):Oq α:=open Classical in if h:∃ a,p a then some h.choose else none
theorem qyf {α:Type} {p:α->Prop} {a:α} (h:pick p=some a):p a:=by
 unfold pick at h;split at h
 ·rename_i hx
  injection h with h;rw [←h];exact hx.choose_spec
 ·cases h
theorem qye {α:Type} {p:α->Prop} {a:α} (h:p a) (hu:∀ b,p b->b=a):pick p=some a:=by
 unfold pick;have hx:∃ a,p a:=⟨a,h⟩
 rw [dif_pos hx,hu _ hx.choose_spec]
section
variable {P:Program} {live:FuncId->Nat->List Nat} {X:XT}
variable (P live X) in
noncomputable def loopFrom (f nt:Nat) (c:Code) (s:St):Oq (Nat×St):=(stepC P (live f) (CallT P live X) nt (Exec P live X f nt) c s).bind λx=>if x.1=0 then Exec P live X f nt (.loop c) x.2 else some x
variable (live) in
def headOf (f:Nat) (c:Code):List Nat:=((fstRegion c).map λid=>live f (2*id)).getD []
variable (live) in
def headS (f:Nat) (c:Code) (s:St):St:=shareS (shq (live f) c) s
theorem q1dl {f nt:Nat} {c:Code} {s:St}:stepC P (live f) (CallT P live X) nt (Exec P live X f nt) (.loop c) s=loopFrom P live X f nt c (canon (headOf live f c) (headS live f c s)):=rfl
end
end Go.Proofs.YtmlcmoaonaomfaaGreatDoor
