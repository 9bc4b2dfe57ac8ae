/- One operation of the machine is one operation of the model. -/
import Derived.Test.YtmlcmoaonaomfaaGreatDoorZ08
namespace Go.Proofs.YtmlcmoaonaomfaaGreatDoor
open Go.RowKit
section
variable {P:Program} {Z Y:ZMap} {m:Nat->Oq Value} {w0:WB} {w w':World} {h hv:Nat->Oq B} {sh:Nat->Bool}
theorem q8k {e:TypeId} {i:TypeInfo} (hb:isByteT P e=true) (hi:P.info? e=some i):i.size=1:=by
 simp only [isByteT,x6q,szO,hi,x18q,beq_iff_eq,Option.some.injEq] at hb
 exact hb.2
theorem qfq {a:Act} {r:Operand->V} (hρ:∀ x,Rep Z Y m (a.eval x) (r x)) (R:Rel w0 Z Y m h sh w) {o:Oper} {base:Nat} (hmb:m base=none) (hhb:h base=none) {res:V×(Nat->Oq B)×(Nat->Bool)} (hev:ev2 P h sh r base o.op=some res) {K:Act->World->Prop} {Q:Exit->Act->World->Prop}
  (hK:∀ cv w' Z' m',ZUp w0 Z Z'->MLe m m'->(∀ i,m' i≠none->m i≠none∨i=base)->Rel w0 Z' Y m' res.2.1 res.2.2 w'->Rep Z' Y m' cv res.1->K (a.put o.dst cv) w'):o.wp P a w K Q:=by
 obtain ⟨dst,op,ty,pos,aft,gd⟩:=o
 simp only at hev hK
 unfold ev2 at hev
 split at hev
 ·rename_i t x v
  cases hst:storeV P h sh t (r x) (r v) with
  |none=>rw [hst] at hev;cases hev
  |some y =>
   rw [hst] at hev
   injection hev with hev;subst hev
   obtain ⟨Z',w1,u1,R1,hrun⟩:=q18p R hst (hρ x) (hρ v)
   unfold Oper.wp
   have:(execOp a.eval { dst:=dst,op:=.store t x v,type:=ty,pos:=pos,after:=aft,guard:=gd }).run P w=.ok .skip w1:=by simp only [execOp,Sem.run_bind,hrun,Result.andThen_ok,Sem.run_pure]
   rw [this]
   exact hK undef w1 Z' m u1 (MLe.refl m) (λi hi=>.inl hi) R1 (.any _)
 ·rename_i t x k v
  obtain ⟨w1,R1,he,hrun⟩:=q15d R hev (hρ x) (hρ k) (hρ v)
  unfold Oper.wp
  have:(execOp a.eval { dst:=dst,op:=.mapUpdate t x k v,type:=ty,pos:=pos,after:=aft,guard:=gd }).run P w=.ok .skip w1:=by simp only [execOp,Sem.run_bind,hrun,Result.andThen_ok,Sem.run_pure]
  rw [this]
  exact hK undef w1 Z m ZUp.refl (MLe.refl m) (λi hi=>.inl hi) R1 (by rw [he];exact .any _)
 ·rename_i args ats
  split at hev
  ·rename_i t t' s x ht hs
   split at hev
   ·rename_i e e' hu hu'
    obtain ⟨Z',w1,cv,mv,u1,R1,r1,hrun⟩:=q3x (t':=t') (vx:=a.eval x) (ty:=ty) R hu hmb hhb hev (hρ s) (λi' f' xs' _ hk' hf' hxs' hxk'=>q184 R hu' (hρ x) hk' hf' hxs' hxk')
    have ea:args=#[s,x]:=by rw [←Array.toList_inj];exact hs
    have et:ats=#[t,t']:=by rw [←Array.toList_inj];exact ht
    subst ea et
    refine q1eq (cv:=cv) (w':=w1) ?_ (hK cv w1 Z' _ u1 (MLe.up hmb) (λi hi=>?_) R1 r1)
    ·simp only [execOp,resolve,invoke,builtin,Sem.run_bind,Sem.run_pure,Result.andThen_ok,List.map_toArray,List.map_cons,List.map_nil,hrun]
    ·by_cases e:i=base
     ·exact .inr e
     ·left;simpa [upd,e] using hi
   ·rename_i e hu hu'
    cases hb:isByteT P e with
    |false=>rw [hb] at hev;cases hev
    |true =>
    rw [hb] at hev
    simp only [x22q] at hev
    obtain ⟨Z',w1,cv,mv,u1,R1,r1,hrun⟩:=q3x (t':=t') (vx:=a.eval x) (ty:=ty) R hu hmb hhb hev (hρ s) (λi' f' xs' hi' hk' hf' hxs' hxk'=>q185 R hu' (hρ x) (q8k hb hi') hf' hxs')
    have ea:args=#[s,x]:=by rw [←Array.toList_inj];exact hs
    have et:ats=#[t,t']:=by rw [←Array.toList_inj];exact ht
    subst ea et
    refine q1eq (cv:=cv) (w':=w1) ?_ (hK cv w1 Z' _ u1 (MLe.up hmb) (λi hi=>?_) R1 r1)
    ·simp only [execOp,resolve,invoke,builtin,Sem.run_bind,Sem.run_pure,Result.andThen_ok,List.map_toArray,List.map_cons,List.map_nil,hrun]
    ·by_cases e:i=base
     ·exact .inr e
     ·left;simpa [upd,e] using hi
   ·cases hev
  ·cases hev
 ·cases hev
structure FrS (D:List Deferred) (G:Nat->Oq Value) (w0:WB) (Z Y:ZMap) (m:Nat->Oq Value) (nt:Nat) (s:St) (a:Act) (w:World):Prop where
 fr:Fr Z Y m nt s.t a
 rel:Rel w0 Z Y m s.h s.sh w
 og:∀ (i id:Nat) (v:Value),s.og[i]?=some id->G i=some v->m id=some v
 df:a.defers=D
theorem put_df (a:Act) (d:Oq Nat) (v:Value):(a.put d v).defers=a.defers:=by cases d <;> rfl
theorem og_le {G m m':Nat->Oq Value} {og:List Nat} (h:∀ (i id:Nat) (v:Value),og[i]?=some id->G i=some v->m id=some v) (hm:MLe m m'):∀ (i id:Nat) (v:Value),og[i]?=some id->G i=some v->m' id=some v:=λi id v a b=>hm _ _ (h i id v a b)
theorem q1ek {nt:Nat} {t:Nat->V} {a:Act} {ops:Array Oper} {o:Oper} {b:Bool} (hf:Fr Z Y m nt t a) (hw:wantedV ops t o=some b):Region.wanted o (yielded ops a.tmps)=b:=by
 unfold wantedV at hw
 unfold Region.wanted
 cases hg:o.guard with
 |none=>rw [hg] at hw;injection hw
 |some gw =>
  obtain ⟨j,want⟩:=gw
  rw [hg] at hw
  simp only at hw ⊢
  cases hd:(ops[j]?).bind (·.dst) with
  |none=>rw [hd] at hw;cases hw
  |some d =>
   rw [hd] at hw
   simp only [x18q] at hw
   have hr:=hf.rep d
   unfold yielded
   rw [hd]
   simp only [x0q]
   rw [Array.getD_eq_getD_getElem?] at hr
   split at hw
   ·rename_i q hq
    injection hq with hq
    rw [hq] at hr
    have:=qxx hr
    cases hx:a.tmps[d]? with
    |none=>rw [hx] at this;cases this
    |some u =>
     rw [hx] at this
     simp only [Option.getD_some] at this
     subst this
     injection hw with hw
   ·rename_i vs hq
    injection hq with hq
    rw [hq] at hr
    injection hw with hw
    subst hw
    cases hx:a.tmps[d]? with
    |none=>rfl
    |some u =>
     rw [hx] at hr
     simp only [Option.getD_some] at hr
     cases hr
     rfl
   ·cases hw
theorem qor {o:Op}:isIo (λ_=>false) o=false:=by unfold isIo;split <;> rfl
theorem quf {D:List Deferred} {G:Nat->Oq Value} {hp:HP} (hcall:∀ g args res,hp.call g args=some res->CallOk P g args res) {nt:Nat} {ops:Array Oper} {o:Oper} (hch:isIo hp.io o.op=true->∀ f g args s0 v s1,hp.ch f=some g->g args s0=some (v,s1)->HeapOk P f args s0 v s1) (hN:isIo hp.io o.op=true->∀ i,m i≠none->i<hp.N) {base:Nat} {s s':St} {a:Act} (F:FrS D G w0 Z Y m nt s a w) (hs:∀ id b,hv id=some b->s.h id=some b) (hfr:∀ i,base<=i->i<base+8->m i=none/\s.h i=none)
  (hst:opD P hp nt ops hv base o s=some s') {K:Act->World->Prop} {Q:Exit->Act->World->Prop}
  (hK:∀ a' w' Z' m',ZUp w0 Z Z'->MLe m m'->(∀ i,m' i≠none->m i≠none∨(base<=i/\i<base+8))->FrS D G w0 Z' Y m' nt s' a' w'->K a' w') :
  if Region.wanted o (yielded ops a.tmps) then o.wp P a w K Q else K (a.put o.dst undef) w:=by
 unfold opD at hst
 split at hst
 case isFalse=>cases hst
 rename_i hd
 cases hw:wantedV ops s.t o with
 |none=>rw [hw] at hst;cases hst
 |some b =>
  rw [hw] at hst
  simp only [x0q] at hst
  rw [q1ek F.fr hw]
  cases b with
  |false =>
   simp only [x1q,x21q] at hst ⊢
   injection hst with hst;subst hst
   exact hK _ _ Z m ZUp.refl (MLe.refl m) (λi hi=>.inl hi) ⟨F.fr.put o.dst hd (.tup #[] [] rfl (by simp)),F.rel,F.og,(put_df _ _ _).trans F.df⟩
  |true =>
   simp only [x20q] at hst ⊢
   split at hst
   ·cases he:ev0 P (rho s.t) o.op with
    |none=>rw [he] at hst;cases hst
    |some v =>
     rw [he] at hst
     injection hst with hst;subst hst
     obtain ⟨cv,h1,h2⟩:=qff (λx=>F.fr.eval x) he
     exact q1eq (h2 w) (hK _ _ Z m ZUp.refl (MLe.refl m) (λi hi=>.inl hi) ⟨F.fr.put o.dst hd h1,F.rel,F.og,(put_df _ _ _).trans F.df⟩)
   ·cases he:ev1 P hp.call hv (rho s.t) base o.op with
    |none=>rw [he] at hst;cases hst
    |some x =>
     rw [he] at hst
     simp only [x0q] at hst
     split at hst
     ·rename_i h8
      injection hst with hst;subst hst
      refine qfm hcall (λx=>F.fr.eval x) F.rel hs hfr he h8 (λcv w' Z' m' u1 u2 u3 R1 r1=>hK _ _ Z' m' u1 u2 (λi hi=>(u3 i hi).imp id (λh=>⟨h.1,by omega⟩)) ⟨(F.fr.mono u1.le u2).put o.dst hd r1,R1,og_le F.og u2,(put_df _ _ _).trans F.df⟩)
     ·cases hst
   ·cases he:ev2H P hp base o.op s with
    |none=>rw [he] at hst;cases hst
    |some x =>
     rw [he] at hst
     injection hst with hst;subst hst
     have hb:=hfr base (Nat.le_refl _) (by omega)
     unfold ev2H at he
     cases hi:isIo hp.io o.op with
     |true =>
      rw [hi,x22q] at he
      cases hz:ioOf P hp.ch (rho s.t) o.op with
      |none=>rw [hz] at he;cases he
      |some z =>
       obtain ⟨f,g,as⟩:=z
       rw [hz] at he
       simp only [x0q] at he
       exact qm7 (hch hi) (λx=>F.fr.eval x) F.rel (hN hi) hz hfr he (λcv w' Z' m' u1 u2 u3 R1 r1=>hK _ _ Z' m' u1 u2 u3 ⟨(F.fr.mono u1.le u2).put o.dst hd r1,R1,og_le F.og u2,(put_df _ _ _).trans F.df⟩)
     |false =>
     rw [hi,cond_false] at he
     exact qfq (λx=>F.fr.eval x) F.rel hb.1 hb.2 he (λcv w' Z' m' u1 u2 u3 R1 r1=>hK _ _ Z' m' u1 u2 (λi hi=>(u3 i hi).imp id (λh=>⟨by omega,by omega⟩)) ⟨(F.fr.mono u1.le u2).put o.dst hd r1,R1,og_le F.og u2,(put_df _ _ _).trans F.df⟩)
end
end Go.Proofs.YtmlcmoaonaomfaaGreatDoor
namespace Go.Proofs.YtmlcmoaonaomfaaGreatDoor
open Go.RowKit
section
variable {P:Program}
theorem qfe {r r':Operand->V} {o:Op} (h:∀ x∈o.operands,r x=r' x):ev0 P r o=ev0 P r' o:=by
 have pairs:∀ ps:Array (Nat×Operand),(∀ x∈ps.toList.map (·.2),r x=r' x)->(ps.toList.map λp=>(p.1,r p.2))=ps.toList.map λp=>(p.1,r' p.2):=λps hp =>
  List.map_congr_left λp hm=>by rw [hp p.2 (List.mem_map.2 ⟨p,hm,rfl⟩)]
 have arr:∀ ps:Array Operand,(∀ x∈ps,r x=r' x)->ps.toList.map r=ps.toList.map r':=λps hp=>List.map_congr_left λp hm=>hp p (by simpa using hm)
 cases o <;> simp only [Op.operands] at h <;> simp only [ev0]
 case build t ps=>rw [pairs ps λx hx=>h x (by simpa using hx)]
 case makeFunc fn first caps =>
  cases fn <;> simp only
  rw [arr caps λx hx=>h x (by simp [hx]),arr first λx hx=>h x (by simp [hx])]
 case slice t x lo hi mx =>
  have hx:r x=r' x:=h x (by simp)
  cases mx <;> simp only
  have hlo:lo.map r=lo.map r':=by cases lo <;> simp_all
  have hhi:hi.map r=hi.map r':=by cases hi <;> simp_all
  rw [hx,hlo,hhi]
 case call c =>
  obtain ⟨callee,args,ats⟩:=c
  have ha:=arr args λx hx=>h x (by simp [Call.operands,hx])
  have h0:args[0]?.map r=args[0]?.map r':=by
   have:=congrArg (λl=>l[0]?) ha
   simpa using this
  cases callee with
  |builtin b=>cases b <;> first|rfl|(simp only [h0];done)|(simp only [ha];done)
  |value f=>rfl
  |invoke f n=>rfl
 all_goals (first|rfl|(simp_all;done))
theorem q8c {hv:Nat->Oq B} {k len:Nat} {r r':Operand->V}:∀ (ps:List (Nat×Operand)) (es:List (List C)),(∀ p∈ps,r p.2=r' p.2)->buildS hv k len r ps es=buildS hv k len r' ps es
 |[],_,_=>rfl
 |p::ps,es,h=>by
  simp only [buildS]
  rw [h p (by simp)]
  have ih:=λes=>q8c (hv:=hv) (k:=k) (len:=len) ps es (λq hq=>h q (by simp [hq]))
  simp only [ih]
theorem qfl {call:FuncId->List V->Oq (V×List B)} {hv:Nat->Oq B} {base:Nat} {r r':Operand->V} {o:Op} (h:∀ x∈o.operands,r x=r' x):ev1 P call hv r base o=ev1 P call hv r' base o:=by
 cases o <;> simp only [Op.operands] at h <;> simp only [ev1]
 case buildSlice t n ps =>
  have:∀ es k,buildS hv k n r ps.toList es=buildS hv k n r' ps.toList es:=λes k=>q8c ps.toList es (λp hp=>h p.2 (by simp;exact ⟨p.1,by simpa using hp⟩))
  simp only [this]
 case slice t x lo hi mx =>
  have hx:r x=r' x:=h x (by simp)
  have hlo:lo.map r=lo.map r':=by cases lo <;> simp_all
  have hhi:hi.map r=hi.map r':=by cases hi <;> simp_all
  have hmx:mx.map r=mx.map r':=by cases mx <;> simp_all
  rw [hx,hlo,hhi,hmx]
 case call c =>
  obtain ⟨callee,args,ats⟩:=c
  have ha:args.toList.map r=args.toList.map r':=List.map_congr_left λp hm=>h p (by simp [Call.operands];right;simpa using hm)
  cases callee with
  |builtin b =>
   cases b <;> try rfl
   simp only
   have hm:∀ x∈args.toList,r x=r' x:=λx hx=>h x (by simp [Call.operands];simpa using hx)
   split
   ·rename_i s x _ hs
    rw [hm s (by rw [hs];simp),hm x (by rw [hs];simp)]
   ·rfl
  |value f =>
   have hf:r f=r' f:=h f (by simp [Call.operands])
   simp only [hf,ha]
  |invoke f n=>rfl
 case makeMap t rs=>cases rs <;> rfl
 all_goals (first|rfl|(simp_all;done))
theorem qfp {hh:Nat->Oq B} {sh:Nat->Bool} {base:Nat} {r r':Operand->V} {o:Op} (h:∀ x∈o.operands,r x=r' x):ev2 P hh sh r base o=ev2 P hh sh r' base o:=by
 cases o <;> simp only [Op.operands] at h <;> simp only [ev2]
 case store t x y=>rw [h x (by simp),h y (by simp)]
 case mapUpdate t x y z=>rw [h x (by simp),h y (by simp),h z (by simp)]
 case call c =>
  obtain ⟨callee,args,ats⟩:=c
  cases callee with
  |builtin b =>
   cases b <;> try rfl
   simp only
   have hm:∀ x∈args.toList,r x=r' x:=λx hx=>h x (by simp [Call.operands];simpa using hx)
   split
   ·rename_i s x _ hs
    rw [hm s (by rw [hs];simp),hm x (by rw [hs];simp)]
   ·rfl
  |value f=>rfl
  |invoke f n=>rfl
theorem q12 {io:FuncId->Bool} {ops:Array Oper} {h:Nat->Oq B} {r r':Operand->V} {o:Op} (hr:∀ x∈o.operands,r x=r' x):ldAdr r o=ldAdr r' o/\stAdr io ops h r o=stAdr io ops h r' o:=by
 cases o <;> simp only [Op.operands] at hr
 case load t a=>exact ⟨by simp only [ldAdr];rw [hr a (by simp)],rfl⟩
 case store t a x=>exact ⟨rfl,by simp only [stAdr];rw [hr a (by simp)]⟩
 case call c =>
  obtain ⟨callee,args,ats⟩:=c
  have ha:args.toList.map r=args.toList.map r':=List.map_congr_left λp hm=>hr p (by simp [Call.operands];right;simpa using hm)
  refine ⟨rfl,?_⟩
  cases callee with
  |builtin b =>
   cases b <;> try rfl
   simp only [stAdr]
   cases hl:args.toList with
   |nil=>rfl
   |cons s l=>simp only [];rw [hr s (by simp [Call.operands];rw [←Array.mem_toList_iff,hl];simp)]
  |value f =>
   have hf:=hr f (by simp [Call.operands])
   cases f <;> first|rfl|(simp only [stAdr,ha];done)|(simp only [stAdr,ha];rw [hf])
  |invoke f n=>rfl
 all_goals exact ⟨rfl,rfl⟩
theorem qya {ops:Array Oper} {o:Oper} {t:Nat->V} {d:Oq Nat} {v:V} (h:∀ q,d=some q->q ∉ o.looksAt ops):∀ x∈o.op.operands,rho (putD t d v) x=rho t x:=by
 intro x hx
 cases d with
 |none=>rfl
 |some q =>
  cases x with
  |tmp i =>
   have hne:i≠q:=by
    intro e
    subst e
    exact h i rfl (List.mem_append_left _ (List.mem_filterMap.2 ⟨.tmp i,by simpa using hx,rfl⟩))
   simp [rho,putD,upd,hne]
  |_=>rfl
theorem q1ej {ops:Array Oper} {o:Oper} {t:Nat->V} {d:Oq Nat} {v:V} (h:∀ q,d=some q->q ∉ o.looksAt ops):wantedV ops (putD t d v) o=wantedV ops t o:=by
 cases d with
 |none=>rfl
 |some q =>
  unfold wantedV
  cases hg:o.guard with
  |none=>rfl
  |some gw =>
   obtain ⟨g,want⟩:=gw
   simp only
   cases ht:(ops[g]?).bind (·.dst) with
   |none=>rfl
   |some i =>
    have hne:i≠q:=λe=>h q rfl (by subst e;simp [Oper.looksAt,hg,ht])
    simp [putD,upd,hne]
abbrev Hact:=(List B×List Nat)⊕((Nat->Oq B)×(Nat->Bool))
variable (P)
def evD (call:HP) (nt:Nat) (ops:Array Oper) (hv:Nat->Oq B) (base:Nat) (o:Oper) (s:St):Oq (V×Hact) :=
 if (o.dst.all (λd=>decide (d<nt)))=true then
  (wantedV ops s.t o).bind λw=>if w then
   match kindB P call.io ops o.op with
   |0=>(ev0 P (rho s.t) o.op).map λv=>(v,.inl ([],[]))
   |1=>(ev1 P call.call hv (rho s.t) base o.op).bind λx=>if x.2.1.length<=8 then some (x.1,.inl x.2) else none
   |_=>(ev2H P call base o.op s).map λx=>(x.1,.inr x.2)
  else some (.tup [],.inl ([],[]))
 else none
variable {P}
def apD (base:Nat) (o:Oper) (e:V×Hact) (s:St):St :=
 { s with t:=putD s.t o.dst e.1,h:=(match e.2 with|.inl x=>addB s.h base x.1|.inr x=>x.1),sh:=(match e.2 with|.inl x=>flag s.sh x.2|.inr x=>x.2) }
theorem opD_eq {call:HP} {nt:Nat} {ops:Array Oper} {hv:Nat->Oq B} {base:Nat} {o:Oper} {s:St}:opD P call nt ops hv base o s=(evD P call nt ops hv base o s).map λe=>apD base o e s:=by
 unfold opD evD
 split
 ·cases wantedV ops s.t o with
  |none=>rfl
  |some b =>
   cases b with
   |false=>simp [apD,qy,qgr]
   |true =>
    simp only [x0q,x20q]
    generalize kindB P call.io ops o.op=kk
    rcases kk with _|_|kk
    ·cases ev0 P (rho s.t) o.op with
     |none=>rfl
     |some v=>simp [apD,qy,qgr]
    ·simp only [x13q]
     cases ev1 P call.call hv (rho s.t) base o.op with
     |none=>rfl
     |some x =>
      simp only [x0q]
      split
      ·rfl
      ·rfl
    ·simp only
     cases ev2H P call base o.op s with
     |none=>rfl
     |some x=>rfl
 ·rfl
theorem q3s {ops:Array Oper} {x y:Oper} (h:x.apart ops y=true):(∀ d,x.dst=some d->d ∉ y.looksAt ops)/\(∀ d,y.dst=some d->d ∉ x.looksAt ops)/\∀ d,x.dst=some d->y.dst≠some d:=by
 obtain ⟨h1,h2,h3⟩:=Oper.apart_spec h
 exact ⟨h1,h3,h2⟩
theorem qx5 {t:Nat->V} {d d':Oq Nat} {v v':V} (h:∀ q,d=some q->d'≠some q):putD (putD t d v) d' v'=putD (putD t d' v') d v:=by
 cases d with
 |none=>rfl
 |some q =>
  cases d' with
  |none=>rfl
  |some q' =>
   have hne:q'≠q:=λe=>h q rfl (by rw [e])
   funext i
   simp only [putD,upd]
   by_cases h1:i=q
   ·have h2:i≠q':=λe=>hne (e.symm.trans h1)
    rw [if_neg h2,if_pos h1,if_pos h1]
   ·rw [if_neg h1]
    by_cases h2:i=q'
    ·simp [h2,hne]
    ·simp [h1,h2]
theorem qx {h:Nat->Oq B} {b b':Nat} {bs bs':List B} (hl:bs.length<=8) (hl':bs'.length<=8) (hd:b+8<=b'∨b'+8<=b):addB (addB h b bs) b' bs'=addB (addB h b' bs') b bs:=by
 funext j
 simp only [addB]
 by_cases h1:b'<=j/\j<b'+bs'.length
 ·rw [if_pos h1,if_neg (by omega),if_pos h1]
 ·rw [if_neg h1]
  by_cases h2:b<=j/\j<b+bs.length
  ·rw [if_pos h2,if_pos h2]
  ·rw [if_neg h2,if_neg h2,if_neg h1]
theorem qgq {sh:Nat->Bool} (a b:List Nat):flag (flag sh a) b=flag (flag sh b) a:=by
 funext i
 simp only [flag]
 by_cases h1:i∈a <;> by_cases h2:i∈b <;> simp [h1,h2]
theorem q1ec {h:Nat->Oq B} {rb an i:Nat} {bs:List B} (hl:bs.length<=8) (hb:an.testBit i=false):visB (addB h (rb+8*i) bs) rb an=visB h rb an:=by
 funext id
 simp only [visB]
 split
 ·rename_i hc
  simp only [addB]
  rw [if_neg]
  intro hr
  rcases hc with hc|hc
  ·omega
  ·have:(id - rb) / 8=i:=by omega
   rw [this,hb] at hc
   cases hc
 ·rfl
theorem q1dx {α:Type} {f:Nat->α} {i j:Nat} {x y:α} (h:i≠j):upd (upd f i x) j y=upd (upd f j y) i x:=by
 funext q
 simp only [upd]
 by_cases h1:q=j
 ·rw [if_pos h1,if_neg (λe=>h (e.symm.trans h1)),if_pos h1]
 ·rw [if_neg h1]
  by_cases h2:q=i
  ·rw [if_pos h2,if_pos h2]
  ·rw [if_neg h2,if_neg h2,if_neg h1]
theorem qob {ch:FuncId->Oq (List V->St->Oq (V×St))} {r r':Operand->V} {o:Op} (h:∀ x∈o.operands,r x=r' x):ioOf P ch r o=ioOf P ch r' o:=by
 cases o <;> simp only [Op.operands] at h <;> simp only [ioOf]
 case call c =>
  obtain ⟨callee,args,ats⟩:=c
  have ha:args.toList.map r=args.toList.map r':=List.map_congr_left λp hm=>h p (by simp [Call.operands];right;simpa using hm)
  cases callee with
  |builtin b=>rfl
  |value f =>
   have hf:r f=r' f:=h f (by simp [Call.operands])
   simp only [hf,ha]
  |invoke f n=>rfl
theorem ogK_t {K lv:List Nat} {s:St} {d:Oq Nat} {v:V} {lr lw:Nat->List Nat} (hl:∀ q,d=some q->q ∉ lv):ogK K lv { s with t:=putD s.t d v,lr:=lr,lw:=lw }=ogK K lv s:=by
 unfold ogK
 have e:lv.flatMap (λi=>topIds (putD s.t d v i))=lv.flatMap (λi=>topIds (s.t i)):=by
  rw [List.flatMap_def,List.flatMap_def]
  congr 1
  refine List.map_congr_left λi hi=>?_
  congr 1
  cases d with
  |none=>rfl
  |some d =>
   simp only [putD,upd]
   rw [if_neg]
   rintro rfl
   exact hl _ rfl hi
 simp only [e]
theorem evD_t {call:HP} {nt:Nat} {ops:Array Oper} {hv:Nat->Oq B} {base:Nat} {o:Oper} {s:St} {d:Oq Nat} {v:V} {lr lw:Nat->List Nat} (h:∀ q,d=some q->q ∉ o.looksAt ops) (hl:∀ q,d=some q->q ∉ call.lv base) :
  evD P call nt ops hv base o { s with t:=putD s.t d v,lr:=lr,lw:=lw }=evD P call nt ops hv base o s:=by
 have e2:ev2H P call base o.op { s with t:=putD s.t d v,lr:=lr,lw:=lw }=ev2H P call base o.op s:=by
  unfold ev2H
  cases isIo call.io o.op with
  |true =>
   simp only [x22q,qob (qya (t:=s.t) (v:=v) h)]
   cases ioOf P call.ch (rho s.t) o.op with
   |none=>rfl
   |some z=>simp only [x0q,heapD,ogK_t hl]
  |false=>simp only [cond_false,qfp (qya (t:=s.t) (v:=v) h)]
 unfold evD
 simp only [q1ej h,qfe (qya (t:=s.t) (v:=v) h),qfl (qya (t:=s.t) (v:=v) h),e2]
section
variable {io:FuncId->Bool}
theorem qpf {ops:Array Oper} {o:Op} (h:isLd o=true):kindB P io ops o=1/\∃ t a,o=.load t a:=by cases o <;> simp [isLd] at h;exact ⟨rfl,_,_,rfl⟩
theorem qoq {o:Op} (h:isIo io o=true):∃ x args ats,o=.call { callee:=.value x,args:=args,argTypes:=ats }/\((∃ f,x=.func f/\io f=true)∨∃ t,x=.tmp t/\io 1000000=true):=by
 unfold isIo at h
 split at h
 ·exact ⟨_,_,_,rfl,.inl ⟨_,rfl,h⟩⟩
 ·exact ⟨_,_,_,rfl,.inr ⟨_,rfl,h⟩⟩
 ·cases h
theorem qod {ops:Array Oper} {o:Op} (h:isApd ops o=true):∃ args ats,o=.call { callee:=.builtin .append,args:=args,argTypes:=ats }/\freshA ops o=false:=by
 unfold isApd at h
 split at h
 ·exact ⟨_,_,rfl,by simpa using h⟩
 ·cases h
theorem qpg {ops:Array Oper} {o:Op} (h:isWr io ops o=true):kindB P io ops o=2:=by
 unfold isWr at h
 unfold kindB
 cases hi:isIo io o with
 |true=>rfl
 |false =>
  rw [hi,Bool.or_false] at h
  cases hs:isSt o with
  |true=>cases o <;> simp [isSt] at hs;rfl
  |false =>
   rw [hs,Bool.false_or] at h
   obtain ⟨args,ats,rfl,hf⟩:=qod h
   simp only [cond_false,kindA,hf]
   rfl
theorem q13 {ops:Array Oper} {h:Nat->Oq B} {r:Operand->V} {o:Op}:(isLd o=false->ldAdr r o=[])/\(isWr io ops o=false->stAdr io ops h r o=[]):=by
 refine ⟨λh=>?_,λh=>?_⟩
 ·cases o <;> first|rfl|(simp [isLd] at h)
 ·unfold stAdr
  split
  ·simp [isWr,isSt] at h
  ·simp only [isWr,isSt,isIo,Bool.false_or,isApd,Bool.or_false] at h
   rw [h];rfl
  ·simp only [isWr,isSt,isIo,Bool.false_or,isApd,Bool.or_false] at h
   rw [h];rfl
  ·simp only [isWr,isSt,isIo,Bool.false_or,isApd,Bool.not_eq_false'] at h
   rw [h];rfl
  ·rfl
theorem qpe {ops:Array Oper} {o:Op} (h:kindB P io ops o=0∨kindB P io ops o=1):isIo io o=false:=by
 cases hi:isIo io o with
 |false=>rfl
 |true=>unfold kindB at h;rw [hi] at h;rcases h with h|h <;> cases h
theorem qpc {ops:Array Oper} {o:Op} (h:kindB P io ops o=0):isLd o=false/\isWr io ops o=false:=by
 have hi:=qpe (.inl h)
 unfold kindB at h
 rw [hi,cond_false] at h
 unfold isWr
 have ha:isApd ops o=false:=by
  cases h':isApd ops o with
  |false=>rfl
  |true =>
   obtain ⟨args,ats,rfl,hf⟩:=qod h'
   simp [kindA,hf,kindOf] at h
 rw [hi,ha]
 cases o <;> first|exact ⟨rfl,rfl⟩|(simp [kindA,freshA,kindOf] at h)
theorem qpd {ops:Array Oper} {o:Op} (h:kindB P io ops o=1):isWr io ops o=false:=by
 have hi:=qpe (.inr h)
 unfold kindB at h
 rw [hi,cond_false] at h
 unfold isWr
 have ha:isApd ops o=false:=by
  cases h':isApd ops o with
  |false=>rfl
  |true =>
   obtain ⟨args,ats,rfl,hf⟩:=qod h'
   simp [kindA,hf,kindOf] at h
 rw [hi,ha]
 cases o <;> first|rfl|(simp [kindA,freshA,kindOf] at h)
end
def lgD (io:FuncId->Bool) (ops:Array Oper) (n:Nat) (an:Nat->Nat) (j:Nat) (o:Oper) (s:St):Bool:=logOk n an s.lw j (ldAdr (rho s.t) o.op)&&logOk n an s.lr j (stAdr io ops s.h (rho s.t) o.op)
def afD (io:FuncId->Bool) (ops:Array Oper) (rb j:Nat) (o:Oper) (e:V×Hact) (s:St):St:={ apD (rb+8*j) o e s with lr:=upd s.lr j (ldAdr (rho s.t) o.op),lw:=upd s.lw j (stAdr io ops s.h (rho s.t) o.op) }
section
variable {call:HP} {nt:Nat} {ops:Array Oper} {an:Nat->Nat} {rb:Nat}
theorem q18i {j:Nat} {o:Oper} {s:St}:stepD P call nt ops an rb j o s=if lgD call.io ops ops.size an j o s=true then (evD P call nt ops (visB s.h rb (an j)) (rb+8*j) o s).map λe=>afD call.io ops rb j o e s else none:=by
 unfold stepD lgD
 split
 ·rw [opD_eq,Option.map_map];rfl
 ·rfl
theorem qbc {i j:Nat} {x y:Oper} {s:St} (h1:∀ e,evD P call nt ops (visB s.h rb (an i)) (rb+8*i) x s=some e->lgD call.io ops ops.size an i x s=true->lgD call.io ops ops.size an j y (afD call.io ops rb i x e s)=lgD call.io ops ops.size an j y s/\evD P call nt ops (visB (afD call.io ops rb i x e s).h rb (an j)) (rb+8*j) y (afD call.io ops rb i x e s)=evD P call nt ops (visB s.h rb (an j)) (rb+8*j) y s)
  (h2:∀ e,evD P call nt ops (visB s.h rb (an j)) (rb+8*j) y s=some e->lgD call.io ops ops.size an j y s=true->lgD call.io ops ops.size an i x (afD call.io ops rb j y e s)=lgD call.io ops ops.size an i x s/\evD P call nt ops (visB (afD call.io ops rb j y e s).h rb (an i)) (rb+8*i) x (afD call.io ops rb j y e s)=evD P call nt ops (visB s.h rb (an i)) (rb+8*i) x s)
  (h3:∀ e f,evD P call nt ops (visB s.h rb (an i)) (rb+8*i) x s=some e->evD P call nt ops (visB s.h rb (an j)) (rb+8*j) y s=some f->afD call.io ops rb j y f (afD call.io ops rb i x e s)=afD call.io ops rb i x e (afD call.io ops rb j y f s)) :
  (stepD P call nt ops an rb i x s).bind (stepD P call nt ops an rb j y)=(stepD P call nt ops an rb j y s).bind (stepD P call nt ops an rb i x):=by
 rw [q18i,q18i]
 by_cases c1:lgD call.io ops ops.size an i x s=true
 ·rw [if_pos c1]
  cases e1:evD P call nt ops (visB s.h rb (an i)) (rb+8*i) x s with
  |none =>
   by_cases c2:lgD call.io ops ops.size an j y s=true
   ·rw [if_pos c2]
    cases e2:evD P call nt ops (visB s.h rb (an j)) (rb+8*j) y s with
    |none=>rfl
    |some f =>
     obtain ⟨a1,a2⟩:=h2 f e2 c2
     simp only [Option.map_none,Option.bind_none,x18q,x0q]
     rw [q18i,a1,if_pos c1,a2,e1]
     rfl
   ·rw [if_neg c2];rfl
  |some e =>
   obtain ⟨b1,b2⟩:=h1 e e1 c1
   simp only [x18q,x0q]
   rw [q18i,b1,b2]
   by_cases c2:lgD call.io ops ops.size an j y s=true
   ·rw [if_pos c2,if_pos c2]
    cases e2:evD P call nt ops (visB s.h rb (an j)) (rb+8*j) y s with
    |none=>rfl
    |some f =>
     obtain ⟨a1,a2⟩:=h2 f e2 c2
     simp only [x18q,x0q]
     rw [q18i,a1,if_pos c1,a2,e1]
     simp only [x18q]
     rw [h3 e f e1 e2]
   ·rw [if_neg c2,if_neg c2];rfl
 ·rw [if_neg c1]
  simp only [Option.bind_none]
  by_cases c2:lgD call.io ops ops.size an j y s=true
  ·rw [if_pos c2]
   cases e2:evD P call nt ops (visB s.h rb (an j)) (rb+8*j) y s with
   |none=>rfl
   |some f =>
    obtain ⟨a1,a2⟩:=h2 f e2 c2
    simp only [x18q,x0q]
    rw [q18i,a1,if_neg c1]
  ·rw [if_neg c2];rfl
theorem qfr {hv:Nat->Oq B} {base:Nat} {o:Oper} {s:St} {e:V×Hact} (h:evD P call nt ops hv base o s=some e):(∃ bs fl,e.2=.inl (bs,fl)/\bs.length<=8/\(kindB P call.io ops o.op=0->bs=[]/\fl=[])/\(isLd o.op=true->bs=[]/\fl=[]))∨(∃ z,e.2=.inr z/\kindB P call.io ops o.op≠0/\kindB P call.io ops o.op≠1):=by
 unfold evD at h
 split at h
 case isFalse=>cases h
 cases hw:wantedV ops s.t o with
 |none=>rw [hw] at h;cases h
 |some b =>
  rw [hw] at h
  simp only [x0q] at h
  cases b with
  |false =>
   simp only [x1q,x21q] at h
   injection h with h;subst h
   exact .inl ⟨[],[],rfl,by simp,λ_=>⟨rfl,rfl⟩,λ_=>⟨rfl,rfl⟩⟩
  |true =>
   simp only [x20q] at h
   split at h
   ·rename_i hk
    cases he:ev0 P (rho s.t) o.op with
    |none=>rw [he] at h;cases h
    |some v =>
     rw [he] at h
     injection h with h;subst h
     exact .inl ⟨[],[],rfl,by simp,λ_=>⟨rfl,rfl⟩,λ_=>⟨rfl,rfl⟩⟩
   ·rename_i hk
    cases he:ev1 P call.call hv (rho s.t) base o.op with
    |none=>rw [he] at h;cases h
    |some x =>
     rw [he] at h
     simp only [x0q] at h
     split at h
     ·rename_i h8
      injection h with h;subst h
      refine .inl ⟨x.2.1,x.2.2,rfl,h8,λh0=>(by rw [hk] at h0;cases h0),λhl=>?_⟩
      obtain ⟨_,t,a,ho⟩:=qpf (P:=P) (io:=call.io) (ops:=ops) hl
      rw [ho] at he
      simp only [ev1] at he
      cases hv':loadV P hv t (rho s.t a) with
      |none=>rw [hv'] at he;cases he
      |some v=>rw [hv'] at he;injection he with he;subst he;exact ⟨rfl,rfl⟩
     ·cases h
   ·rename_i hk0 hk1
    cases he:ev2H P call base o.op s with
    |none=>rw [he] at h;cases h
    |some x =>
     rw [he] at h
     injection h with h;subst h
     exact .inr ⟨x.2,rfl,hk0,hk1⟩
theorem qfs {hv:Nat->Oq B} {base:Nat} {o:Oper} {s:St} {h':Nat->Oq B} {sh':Nat->Bool} (hk:kindB P call.io ops o.op=0∨kindB P call.io ops o.op=1):evD P call nt ops hv base o { s with h:=h',sh:=sh' }=evD P call nt ops hv base o s:=by
 unfold evD
 rcases hk with hk|hk <;> simp only [hk]
theorem qft {hv hv':Nat->Oq B} {base:Nat} {o:Oper} {s:St} (hk:kindB P call.io ops o.op≠1):evD P call nt ops hv base o s=evD P call nt ops hv' base o s:=by
 unfold evD
 generalize hkk:kindB P call.io ops o.op=kk
 rw [hkk] at hk
 rcases kk with _|_|kk
 ·rfl
 ·exact absurd rfl hk
 ·rfl
end
end
end Go.Proofs.YtmlcmoaonaomfaaGreatDoor
