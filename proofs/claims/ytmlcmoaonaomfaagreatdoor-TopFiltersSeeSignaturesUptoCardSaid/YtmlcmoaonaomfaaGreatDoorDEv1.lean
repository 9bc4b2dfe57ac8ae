/- Operations that read memory or make some, all of them, as the model runs them. -/
import Derived.Test.YtmlcmoaonaomfaaGreatDoorDApd
import Derived.IntWalk
namespace Go.Proofs.YtmlcmoaonaomfaaGreatDoor
open Go.RowKit
section
variable {P:Program} {Z Y:ZMap} {m:Nat->Oq Value} {w0:WB} {w w':World} {h hv:Nat->Oq B} {sh:Nat->Bool}
theorem q82 {g:FuncId} {fn:Func} (hb:bodyOf P g=some fn) (args:Array Value) (w:World):(callFunc g args).run P w=.ok (.enter g args) w:=by
 unfold bodyOf at hb
 cases hf:P.funcs[g]? with
 |none=>rw [hf] at hb;cases hb
 |some f =>
  rw [hf] at hb
  simp only [x0q] at hb
  split at hb
  ·cases hb
  ·rename_i hc
   simp only [Bool.or_eq_true,not_or,Bool.not_eq_true] at hc
   simp only [callFunc,Sem.run_bind,q14z,Result.andThen_ok,hf,hc.1,hc.2,x1q,x21q,Sem.run_pure]
theorem qjs (o1:Array Value) (e:TypeId):(w.alloc (.cells o1 e)).freeze ⟨w.heap.size,o1.size,none⟩ 1=w.alloc (.cells o1 e (o1.size,o1.size+1)):=by
 simp only [World.freeze,World.alloc,Nat.one_ne_zero,x21q]
 congr 1
 apply Array.ext_getElem?
 intro i
 rw [Array.getElem?_modify,Array.getElem?_push,Array.getElem?_push]
 by_cases hi:i=w.heap.size
 ·subst hi;simp
 ·rw [if_neg (Ne.symm hi),if_neg hi,if_neg hi]
theorem q1da (e:TypeId) (s:BA) (hs:s.size<=9223372036854775807):∃ cap arr fz,s.size<=cap/\cap<=maxLen/\arr=s.data.map (λb=>Value.int .u8 b.toNat)++Array.replicate (cap - s.size) (.int .u8 0)/\fz=(arr.size,arr.size+1) /\
  (Conv.stringToBytes e s).run P w=.ok (.slice (some ⟨w.heap.size,0,none⟩) s.size cap) (w.drew.alloc (.cells arr e fz)):=by
 generalize hcap:(Question.appendCap s.size 0 e).cut (w.tape w.drawn (.appendCap s.size 0 e))=cap
 refine ⟨cap,_,_,?_,?_,rfl,rfl,?_⟩
 ·rw [←hcap];simp [Question.cut]
 ·have:w.tape w.drawn (.appendCap s.size 0 e) % (2 ^ 63 - s.size)<2 ^ 63 - s.size:=Nat.mod_lt _ (by omega)
  rw [←hcap]
  simp only [Question.cut]
  unfold maxLen
  omega
 ·have hch:(choose (.appendCap s.size 0 e)).run P w=.ok cap w.drew:=by rw [←hcap];rfl
  simp only [Conv.stringToBytes,Sem.run_bind,hch,Result.andThen_ok,q14w]
  generalize s.data.map (λb=>Value.int .u8 b.toNat)++Array.replicate (cap - s.size) (.int .u8 0)=o1
  have hf:=qjs (w:=w.drew) o1 e
  have hsh:(w.drew.alloc (.cells o1 e)).shape? w.drew.heap.size=some (e,o1.size):=by
   have hb:(w.drew.alloc (.cells o1 e)).heap[w.drew.heap.size]?=some (.cells o1 e (0,0)):=heap_alloc_new w.drew _
   unfold World.shape?
   rw [hb]
  rw [←hf]
  have h1:(shape w.drew.heap.size).run P (w.drew.alloc (.cells o1 e))=.ok (some (e,o1.size)) (w.drew.alloc (.cells o1 e)):=by
   rw [←hsh];rfl
  simp only [markStringish,Sem.run_bind,h1,Result.andThen_ok]
  rfl
theorem qrl (R:Rel w0 Z Y m h sh w) {id n:Nat} {es:List (List C)} {v:Value} (hi:h id=some (.row es)) (r:Rep Z Y m v (.row id n)) (hall:es.all (λel=>el.length==1)=true) (hne:es.isEmpty=false) :
  ∃ g c w1,v=.slice (some ⟨g,0,none⟩) n c/\m id=some (.slice (some ⟨g,0,none⟩) n c)/\(markStringish ⟨g,0,none⟩).run P w=.ok () w1/\Rel w0 Z Y m h sh w1:=by
 have hen:es≠[]:=by intro e;rw [e] at hne;cases hne
 rcases R.row id es hi with ⟨_,e⟩|⟨g,n',c,k,hmi,hat⟩
 ·exact absurd e hen
 have hv:v=.slice (some ⟨g,0,none⟩) n c/\n=n':=by
  cases r with
  |row _ _ A c' h' hA =>
   rw [hmi] at h'
   injection h' with h';injection h' with a1 a2 a3
   subst a1 a2 a3
   exact ⟨rfl,rfl⟩
  |row0 _ A h'=>rw [hmi] at h';injection h' with h';injection h' with a1;cases a1
 obtain ⟨rfl,rfl⟩:=hv
 have hk:k=1:=by
  obtain ⟨e0,es0,he⟩:=List.exists_cons_of_ne_nil hen
  have h1:=hat.each e0 (by rw [he];simp)
  have h2:=List.all_eq_true.1 hall e0 (by rw [he];simp)
  have h3:e0.length=1:=by simpa using h2
  omega
 obtain ⟨t,fz,cur,hb,hcs,⟨hf1,hf2,hf3⟩,hcell⟩:=hat.ex
 obtain ⟨lo,hi2⟩:=fz
 have hlt:g<w.heap.size:=(Array.getElem?_eq_some_iff.1 hb).1
 let fz':Nat×Nat:=if lo==hi2 then (cur.size,cur.size+1) else (min lo cur.size,max hi2 (cur.size+1))
 have hb1:(w.freeze ⟨g,cur.size,none⟩ 1).heap[g]?=some (.cells cur t fz'):=by
  simp only [World.freeze,Nat.one_ne_zero,x21q,Array.getElem?_modify,hb]
  rfl
 have hfz:(∀ o,o<cur.size->¬ (fz'.1<=o/\o<fz'.2))/\(k≠1->fz'=(0,0))/\fz'.1<=fz'.2:=by
  by_cases e:lo=hi2
  ·have:fz'=(cur.size,cur.size+1):=by simp [fz',e]
   rw [this]
   exact ⟨λo ho=>by simp only;omega,λh=>absurd hk h,by simp only;omega⟩
  ·have hl:lo<hi2:=by simp only at hf3;omega
   have hge:cur.size<=lo:=by
    rcases Nat.lt_or_ge lo cur.size with h|h
    ·exact absurd ⟨Nat.le_refl _,hl⟩ (hf1 lo h)
    ·exact h
   have:fz'=(min lo cur.size,max hi2 (cur.size+1)):=by simp [fz',e]
   rw [this,Nat.min_eq_right hge]
   exact ⟨λo ho=>by simp only;omega,λh=>absurd hk h,by simp only;omega⟩
 have hw:Wr g w (w.freeze ⟨g,cur.size,none⟩ 1):=by
  refine ⟨rfl,rfl,rfl,?_,λq hq=>?_⟩
  ·show (w.heap.modify _ _).size=_
   rw [Array.size_modify]
  ·show (w.heap.modify _ _)[q]?=_
   rw [Array.getElem?_modify,if_neg (Ne.symm hq)]
 refine ⟨g,c,w.freeze ⟨g,cur.size,none⟩ 1,rfl,hmi,?_,?_⟩
 ·have hsh:w.shape? g=some (t,cur.size):=by unfold World.shape?;rw [hb]
  have h1:(shape g).run P w=.ok (some (t,cur.size)) w:=by rw [←hsh];rfl
  simp only [markStringish,Sem.run_bind,h1,Result.andThen_ok]
  rfl
 ·have hW:=R.write (b':=.row es) (v:=.slice (some ⟨g,0,none⟩) n c) (sh':=sh) (base:=id) hi (by simp [blkOf,hmi]) hw (.inl rfl) (λ_ _ _ _=>rfl) (λo u hz=>by
   have:=R.zok _ _ _ hz
   simp only [World.cell?,hb] at this
   simp only [World.cell?,hb1]
   exact this) (λ_=>hmi) (.inr (.inl ⟨es,n,c,k,rfl,rfl,⟨hat.base,⟨t,fz',cur,hb1,hcs,hfz,hcell⟩,hat.len,hat.le,hat.max,hat.pos,hat.zero,hat.each,hat.apart⟩⟩))
  rw [q1dz,upd_id hmi] at hW
  have e:upd h id (some (.row es))=h:=by funext j;simp only [upd];split;(rename_i e;subst e;exact hi.symm);rfl
  rw [e] at hW
  exact hW
theorem qgs {Z Z' Y Y':ZMap} {m m':Nat->Oq Value} {f:Nat->Nat} {v:Value} {x:V} (hx:flat0 x=true) (r:Rep Z' Y' m' v x):cellR f x=x/\Rep Z Y m v x:=by
 cases r with
 |c h =>
  refine ⟨rfl,.c ?_⟩
  cases h with
  |sl=>cases hx
  |int k n=>exact .int k n
  |bool b=>exact .bool b
  |str s=>exact .str s
  |nilS=>exact .nilS
  |ne a c hc=>exact .ne a c hc
  |zs A=>exact .zs A
  |nilP=>exact .nilP
  |nilF=>exact .nilF
 |_=>cases hx
theorem qgt {Z Z' Y Y':ZMap} {m m':Nat->Oq Value} {f:Nat->Nat} {v:Value} {x:V} (hx:flat1 x=true) (r:Rep Z' Y' m' v x):Rep Z Y m v (aggR f x):=by
 cases r with
 |agg vs cs hl h1 hr =>
  refine .agg vs _ (by simp [hl]) h1 (λi u x hu hx'=>?_)
  rw [x14q] at hx'
  cases hc:cs[i]? with
  |none=>rw [hc] at hx';cases hx'
  |some y =>
   rw [hc] at hx'
   injection hx' with hx'
   obtain ⟨e,r'⟩:=qgs (Z:=Z) (Y:=Y) (m:=m) (f:=f) (List.all_eq_true.1 hx y (List.mem_of_getElem? hc)) (hr i u y hu hc)
   rw [←hx',e]
   exact r'
 |c h =>
  rename_i y
  have hx':flat0 (.c y)=true:=hx
  obtain ⟨e,r'⟩:=qgs (Z:=Z) (Y:=Y) (m:=m) (f:=f) hx' (Rep.c (Y:=Y') (m:=m') h)
  exact r'
 |_=>cases hx
theorem qh1 {Z Z' Y Y':ZMap} {m m':Nat->Oq Value} {f:Nat->Nat} {v:Value} {x:V} (hx:flatV x=true) (r:Rep Z' Y' m' v x):Rep Z Y m v (x.ren f):=by
 cases r with
 |tup us vs hl hr =>
  refine .tup us _ (by simp [hl]) (λi u y hu hy=>?_)
  rw [x14q] at hy
  cases hc:vs[i]? with
  |none=>rw [hc] at hy;cases hy
  |some z =>
   rw [hc] at hy
   injection hy with hy;subst hy
   exact qgt (List.all_eq_true.1 hx z (List.mem_of_getElem? hc)) (hr i u z hu hc)
 |agg vs cs hl h1 hr=>exact qgt (x:=.agg cs) hx (.agg vs cs hl h1 hr)
 |c h=>exact qgt (f:=f) (Y':=Y') (m':=m') (x:=.c _) hx (.c h)
 |_=>cases hx
theorem qth {m:Nat->Oq Value}:MLe noM m:=λ_ _ h=>by cases h
set_option maxHeartbeats 1000000 in
theorem qfk {call:FuncId->List V->Oq (V×List B)} (hcall:∀ g args res,call g args=some res->CallOk P g args res) {a:Act} {r:Operand->V} (hρ:∀ x,Rep Z Y m (a.eval x) (r x)) (R:Rel w0 Z Y m h sh w) (hs:∀ id b,hv id=some b->h id=some b) {dst:Oq Nat} {ty:TypeId} {pos:String} {aft:Array Edge} {gd:Oq (Nat×Bool)} {f:Operand} {args:Array Operand} {ats:Array TypeId} {base:Nat}
  (hfr:∀ i,base<=i->i<base+8->m i=none/\h i=none) {res:V×List B×List Nat} (hev:ev1 P call hv r base (.call { callee:=.value f,args:=args,argTypes:=ats })=some res) (hlen:res.2.1.length<=8) {K:Act->World->Prop} {Q:Exit->Act->World->Prop}
  (hK:∀ cv w' Z' m',ZUp w0 Z Z'->MLe m m'->(∀ i,m' i≠none->m i≠none∨(base<=i/\i<base+res.2.1.length))->Rel w0 Z' Y m' (addB h base res.2.1) (flag sh res.2.2) w'->Rep Z' Y m' cv res.1->K (a.put dst cv) w'):({ dst:=dst,op:=.call { callee:=.value f,args:=args,argTypes:=ats },type:=ty,pos:=pos,after:=aft,guard:=gd }:Oper).wp P a w K Q:=by
 simp only [ev1] at hev
 split at hev
 ·rename_i g caps hf
  cases hb:bodyOf P (cFn g) with
  |none=>rw [hb] at hev;cases hev
  |some fn =>
   rw [hb] at hev
   simp only [x0q] at hev
   cases hx:frzAs hv (args.toList.map r) with
   |none=>rw [hx] at hev;cases hev
   |some x =>
    rw [hx] at hev
    simp only [x0q] at hev
    cases hy:frzPs hv caps with
    |none=>rw [hy] at hev;cases hev
    |some y =>
     rw [hy] at hev
     simp only [x0q] at hev
     cases hc:call (cFn g) (cAr g x.1 y.1) with
     |none=>rw [hc] at hev;cases hev
     |some z =>
      rw [hc] at hev
      simp only [x0q] at hev
      split at hev
      ·rename_i hz8
       injection hev with hev;subst hev
       have rf:=hf ▸ hρ f
       generalize hvf:a.eval f=vf at rf
       obtain ⟨cs,hcl,hcr,hvv,_⟩:=rf.fun
       ·obtain ⟨Z1,u1,R1,l1,r1⟩:=qjv hs (args.toList.map r) (us:=(args.map a.eval).toList) R hx (by simp) (λi u v hu hv=>getElem?_map_toList hρ args i u v (by simpa using hu) hv)
        obtain ⟨Z2,u2,R2,l2,r2⟩:=qk0 hs caps (us:=cs.toList) R1 hy (by simpa using hcl) (λi u v hu hv=>(hcr i u v (by simpa using hu) hv).mono u1.le (MLe.refl _))
        obtain ⟨ok1,ok2,hcalls⟩:=hcall _ _ _ hc
        obtain ⟨hA1,hA2⟩:=q8t (R:=λu v=>Rep Z2 (lent w) noM u v) g (as:=args.map a.eval) (cs:=cs) (xs:=x.1) (ys:=y.1) (by simp [l1]) (by rw [l2];exact hcl) (λi u v hu hv=>(r1 i u v (by simpa using hu) hv).mono u2.le (MLe.refl _)) (λi u v hu hv=>r2 i u v (by simpa using hu) hv)
        have hC:=hcalls w Z2 (lent w) (cArr g (args.map a.eval) cs) (R2.bel.gw R2.gw) R2.zok (λb o u hu=>hu) hA1 hA2
        have hrun:(execOp a.eval { dst:=dst,op:=.call { callee:=.value f,args:=args,argTypes:=ats },type:=ty,pos:=pos,after:=aft,guard:=gd }).run P w=.ok (.enter (cFn g) (cArr g (args.map a.eval) cs)) w:=by
         rcases hvv with ⟨hb1,rfl⟩|⟨hb1,rfl⟩
         ·simp only [cFn,hb1,x22q] at hb
          simp only [execOp,resolve,hvf,Deferred.ofValue,Sem.run_bind,Sem.run_pure,Result.andThen_ok,invoke,Array.empty_append,q82 hb,cFn,cArr,hb1,x22q]
         ·simp only [cFn,hb1,cond_false] at hb
          simp only [execOp,resolve,hvf,Deferred.ofValue,Sem.run_bind,Sem.run_pure,Result.andThen_ok,invoke,Array.append_empty,q82 hb,cFn,cArr,hb1,cond_false]
        unfold Oper.wp
        rw [hrun]
        refine hC.mono ?_
        rintro e w' ⟨cv,Z',m',rfl,hz',Rc,rep,hmb'⟩
        cases hlb:lendB z with
        |true =>
         unfold lendB at hlb
         rw [x6q,List.isEmpty_iff] at hlb
         simp only [hlb.1,x22q] at hK ⊢
         refine hK cv w' Z m ZUp.refl (MLe.refl m) (λi hi=>.inl hi) ?_ (qh1 hlb.2 rep)
         rw [qy]
         have hlb':lendB z=true:=by unfold lendB;rw [hlb.1,hlb.2];rfl
         rw [hlb',x22q,qgr]
         exact R.later (q1el.1 Rc.bel)
        |false =>
        simp only [hlb,cond_false] at hK
        refine hK cv w' Z' (λi=>if base<=i/\i<base+z.2.length then m' (i - base) else m i) ((u1.trans u2).trans ⟨hz'.le,λb o u hu=>(hz'.own b o u hu).imp id (λh=>.inl (Nat.le_trans R.bel.size (wb_own.1 h)))⟩) ?_ ?_ ?_ ?_
        ·intro i v hi
         show (if base<=i/\i<base+z.2.length then m' (i - base) else m i)=some v
         rw [if_neg (λhc=>by rw [(hfr i hc.1 (by omega)).1] at hi;cases hi)]
         exact hi
        ·intro i hi
         split at hi
         ·rename_i hc;exact .inr hc
         ·exact .inl hi
        ·rw [←qgp]
         exact R2.join Rc hz' (λi h1 h2=>hfr i h1 (by omega)) ok2
        ·refine qxv (λi v hi=>?_) ok1 rep
         have:=hmb' i (by rw [hi];simp)
         show (if base<=base+i/\base+i<base+z.2.length then m' (base+i - base) else m (base+i))=some v
         rw [if_pos (by omega)]
         simpa using hi
      ·cases hev
 ·cases hev
theorem qfi {call:FuncId->List V->Oq (V×List B)} (hcall:∀ g args res,call g args=some res->CallOk P g args res) {a:Act} {r:Operand->V} (hρ:∀ x,Rep Z Y m (a.eval x) (r x)) (R:Rel w0 Z Y m h sh w) (hs:∀ id b,hv id=some b->h id=some b) {dst:Oq Nat} {ty:TypeId} {pos:String} {aft:Array Edge} {gd:Oq (Nat×Bool)} {args:Array Operand} {ats:Array TypeId} {base:Nat}
  (hfr:∀ i,base<=i->i<base+8->m i=none/\h i=none) {res:V×List B×List Nat} (hev:ev1 P call hv r base (.call { callee:=.builtin .append,args:=args,argTypes:=ats })=some res) (hlen:res.2.1.length<=8) {K:Act->World->Prop} {Q:Exit->Act->World->Prop}
  (hK:∀ cv w' Z' m',ZUp w0 Z Z'->MLe m m'->(∀ i,m' i≠none->m i≠none∨(base<=i/\i<base+res.2.1.length))->Rel w0 Z' Y m' (addB h base res.2.1) (flag sh res.2.2) w'->Rep Z' Y m' cv res.1->K (a.put dst cv) w'):({ dst:=dst,op:=.call { callee:=.builtin .append,args:=args,argTypes:=ats },type:=ty,pos:=pos,after:=aft,guard:=gd }:Oper).wp P a w K Q:=by
 simp only [ev1] at hev
 split at hev
 ·rename_i t t' s x ht hs'
  split at hev
  ·rename_i e e' hu hu' hzs
   cases hi:P.info? e with
   |none=>rw [hi] at hev;cases hev
   |some i =>
   rw [hi] at hev
   simp only [x0q] at hev
   split at hev
   case isFalse=>cases hev
   rename_i hz
   cases hf:frzC hv (r x) with
   |none=>rw [hf] at hev;cases hev
   |some f =>
   rw [hf] at hev
   simp only [x0q] at hev
   split at hev
   case h_2=>cases hev
   rename_i xs hxs
   split at hev
   case isFalse=>cases hev
   rename_i hc
   injection hev with hev;subst hev
   have hb0:=hfr base (Nat.le_refl _) (by simp)
   have hap:apdV P h sh base e (r s) (frzC h (r x))=some (.row base (0+xs.length),upd (dropO h none) base (some (.row ([]++xs))),upd (λj=>if j∈f.2 then true else sh j) base false):=by
    unfold apdV
    simp only [hi,x0q]
    rw [if_pos hz,qjw hs hf]
    simp only [x0q,hxs,hzs,tgtV]
    rw [if_pos ⟨by simp only [hc.1,x23q,Bool.and_true],by simpa using hc.2.1,by simpa using hc.2.2,rfl⟩]
    rfl
   obtain ⟨Z',w1,cv,mv,u1,R1,r1,hrun⟩:=q3x (t':=t') (vx:=a.eval x) (ty:=ty) R hu hb0.1 hb0.2 hap (hρ s) (λi' f' xs' _ hk' hf' hxs' hxk'=>q184 R hu' (hρ x) hk' hf' hxs' hxk')
   have ea:args=#[s,x]:=by rw [←Array.toList_inj];exact hs'
   have et:ats=#[t,t']:=by rw [←Array.toList_inj];exact ht
   subst ea et
   refine q1eq (cv:=cv) (w':=w1) ?_ (hK cv w1 Z' (upd m base (some mv)) u1 (MLe.up hb0.1) (q1dy (by simp)) ?_ ?_)
   ·simp only [execOp,resolve,invoke,builtin,Sem.run_bind,Sem.run_pure,Result.andThen_ok,List.map_toArray,List.map_cons,List.map_nil,hrun]
   ·rw [qz]
    refine (R1.sh_le (sh':=flag sh f.2) λq hq=>?_)
    simp only [upd] at hq
    split at hq
    ·cases hq
    ·exact hq
   ·simpa using r1
  ·cases hev
 ·cases hev
theorem qfm {call:FuncId->List V->Oq (V×List B)} (hcall:∀ g args res,call g args=some res->CallOk P g args res) {a:Act} {r:Operand->V} (hρ:∀ x,Rep Z Y m (a.eval x) (r x)) (R:Rel w0 Z Y m h sh w) (hs:∀ id b,hv id=some b->h id=some b) {o:Oper} {base:Nat}
  (hfr:∀ i,base<=i->i<base+8->m i=none/\h i=none) {res:V×List B×List Nat} (hev:ev1 P call hv r base o.op=some res) (hlen:res.2.1.length<=8) {K:Act->World->Prop} {Q:Exit->Act->World->Prop}
  (hK:∀ cv w' Z' m',ZUp w0 Z Z'->MLe m m'->(∀ i,m' i≠none->m i≠none∨(base<=i/\i<base+res.2.1.length))->Rel w0 Z' Y m' (addB h base res.2.1) (flag sh res.2.2) w'->Rep Z' Y m' cv res.1->K (a.put o.dst cv) w'):o.wp P a w K Q:=by
 have hmb:m base=none:=(hfr base (Nat.le_refl _) (by omega)).1
 obtain ⟨dst,op,ty,pos,aft,gd⟩:=o
 simp only at hev hK
 unfold ev1 at hev
 split at hev
 ·rename_i t x
  cases hl:loadV P hv t (r x) with
  |none=>rw [hl] at hev;cases hev
  |some v =>
   rw [hl] at hev
   injection hev with hev;subst hev
   obtain ⟨cv,h1,h2⟩:=qqr R hs hl (hρ x)
   refine q1eq (cv:=cv) (w':=w) (by simp [execOp,h2]) (hK cv w Z m ZUp.refl (MLe.refl m) (λi hi=>.inl hi) ?_ h1)
   rw [qy,qgr];exact R
 ·rename_i e
  cases hz:zeroV P e with
  |none=>rw [hz] at hev;cases hev
  |some z =>
   rw [hz] at hev
   simp only [x0q] at hev
   cases hc:z.cells with
   |none=>rw [hc] at hev;cases hev
   |some cs =>
    rw [hc] at hev
    injection hev with hev;subst hev
    obtain ⟨zv,rz,_,wz⟩:=q1f6 (Z:=Z) (Y:=Y) (m:=m) hz
    refine q1eq (cv:=.pointer (some ⟨w.heap.size,0,none⟩)) (w':=w.alloc (.cells zv.cells e)) (by simp [execOp,Instr.alloc,wz,newVar,q14w]) ?_
    refine hK _ _ Z (upd m base (some (.pointer (some ⟨w.heap.size,0,none⟩)))) ZUp.refl (MLe.up hmb) (q1dy (by simp)) ?_ (.ptr base 0 w.heap.size (by simp [upd]))
    rw [qz,qgr]
    exact R.new_box e hmb (rz.cells hc)
 ·rename_i e x
  cases hc:(r x).cells with
  |none=>rw [hc] at hev;cases hev
  |some cs =>
   rw [hc] at hev
   injection hev with hev;subst hev
   refine q1eq (cv:=.pointer (some ⟨w.heap.size,0,none⟩)) (w':=w.alloc (.cells (a.eval x).cells e)) (by simp [execOp,Instr.box,newVar,q14w]) ?_
   refine hK _ _ Z (upd m base (some (.pointer (some ⟨w.heap.size,0,none⟩)))) ZUp.refl (MLe.up hmb) (q1dy (by simp)) ?_ (.ptr base 0 w.heap.size (by simp [upd]))
   rw [qz,qgr]
   exact R.new_box e hmb ((hρ x).cells hc)
 ·rename_i t
  injection hev with hev;subst hev
  refine q1eq (cv:=.map (some w.heap.size)) (w':=w.alloc (.map #[] 0)) (by simp [execOp,Instr.makeMap,newObj];rfl) ?_
  refine hK _ _ Z (upd m base (some (.map (some w.heap.size)))) ZUp.refl (MLe.up hmb) (q1dy (by simp)) ?_ (.mp base w.heap.size (by simp [upd]))
  rw [qz,qgr]
  exact R.new hmb (.inr trivial) (.inr (.inr<| .inr ⟨[],rfl,rfl,.inl R.bel.size,#[],0,heap_alloc_new w _,by simp,MapKept.stamped_empty 0,by simp,rfl⟩))
 ·rename_i t len parts
  split at hev
  ·rename_i e hu
   cases hsz:szO P e with
   |none=>rw [hsz] at hev;cases hev
   |some k =>
    rw [hsz] at hev
    simp only [x0q] at hev
    split at hev
    ·rename_i hlk
     cases hz:zeroV P e with
     |none=>rw [hz] at hev;cases hev
     |some z =>
      rw [hz] at hev
      simp only [x0q] at hev
      cases hc:z.cells with
      |none=>rw [hc] at hev;cases hev
      |some zc =>
       rw [hc] at hev
       simp only [x0q] at hev
       cases hf:frzL hv zc with
       |none=>rw [hf] at hev;cases hev
       |some z' =>
        rw [hf] at hev
        simp only [x0q] at hev
        split at hev
        ·rename_i hz'
         split at hev
         ·rename_i hl0
          split at hev
          ·rename_i hp
           injection hev with hev;subst hev
           subst hl0
           have hp':parts=#[]:=by simpa using hp
           subst hp'
           have hrun:(execOp a.eval { dst:=dst,op:=.buildSlice t 0 #[],type:=ty,pos:=pos,after:=aft,guard:=gd }).run P w=.ok (.value (.slice (some ⟨w.heap.size,0,none⟩) 0 0)) (w.alloc (.cells #[] e)):=by
            have hgt:¬ (0>2 ^ 24):=by omega
            have hr0:Array.range 0=#[]:=rfl
            simp only [execOp,Instr.buildSlice,Sem.run_bind,q154 hu,Result.andThen_ok,q153 hsz,Nat.zero_mul,hgt,x21q,x20q,Sem.run_pure,hr0,Array.map_empty]
            rfl
           refine q1eq hrun (hK _ _ Z m ZUp.refl (MLe.refl m) (λi hi=>.inl hi) ?_ (.c (.zs _)))
           rw [qy]
           exact R.later ((Bel.refl w).alloc _)
          ·cases hev
         cases hb:buildS hv k len r parts.toList (List.replicate len z'.1) with
         |none=>rw [hb] at hev;cases hev
         |some y =>
          rw [hb] at hev
          injection hev with hev;subst hev
          obtain ⟨zv,rz,_,wz⟩:=q1f6 (P:=P) (Z:=Z) (Y:=Y) (m:=m) hz
          have rc:=rz.cells hc
          obtain ⟨Z1,u1,R1,l1,r1⟩:=qjy zc (us:=zv.cells.toList) R hs hf (by simpa using rc.agg_size) (λi u x hu hx=>by
           obtain ⟨u',hu',hr',_⟩:=rc.agg_get hx
           rw [Array.getElem?_toList,hu'] at hu
           injection hu with hu;subst hu;exact hr')
          rw [hz'.2,qgr] at R1
          have hzk:zv.cells.size=k:=by rw [rc.agg_size,←l1];exact hz'.1
          have hla:=qpq (Z:=Z1) (k:=k) (len:=len) (zs:=zv.cells) hz'.1 hzk (λj u x hu hx=>r1 j u x (by simpa using hu) hx)
          obtain ⟨Z2,cur,u2,R2,l2,c2,la2,f2⟩:=q8e (ρ:=a.eval) hlk.2 hs parts.toList R1 (λx=>(hρ x).mono u1.le (MLe.refl _)) hb (by simp) (by simp) hla
          have hrun:(execOp a.eval { dst:=dst,op:=.buildSlice t len parts,type:=ty,pos:=pos,after:=aft,guard:=gd }).run P w=.ok (.value (.slice (some ⟨w.heap.size,0,none⟩) len len)) (w.alloc (.cells cur e)):=by
           have e1:(parts.map λp=>(p.1,a.eval p.2)).toList=parts.toList.map λp=>(p.1,a.eval p.2):=by simp
           have hgt:¬ len*k>2 ^ 24:=by have:=hlk.1;omega
           simp only [execOp,Instr.buildSlice,Sem.run_bind,q154 hu,Result.andThen_ok,q153 hsz,hgt,x21q,e1]
           by_cases h0:len*k=0
           ·simp only [h0,x20q,Sem.run_pure]
            have hl0:len=0:=by rcases Nat.mul_eq_zero.1 h0 with h|h;exact h;omega
            subst hl0
            simp only [Nat.zero_mul] at f2 ⊢
            have hr0:Array.range 0=#[]:=rfl
            simp only [hr0,Array.map_empty] at f2 ⊢
            rw [f2]
            rfl
           ·simp only [h0,x21q,Sem.run_bind,wz,Result.andThen_ok,Sem.run_pure]
            rw [f2]
            rfl
          refine q1eq hrun ?_
          have hle:len<=maxLen:=by have:=hlk.1;have:=Nat.le_mul_of_pos_right len hlk.2;unfold maxLen;omega
          refine hK _ _ Z2 (upd m base (some (.slice (some ⟨w.heap.size,0,none⟩) len len))) (u1.trans u2) (MLe.up hmb) (q1dy (by simp)) ?_ (.row base len _ len (by simp [upd]) (λ_=>⟨_,rfl⟩))
          rw [qz]
          exact R2.new_row e (0,0) hmb l2 (Nat.le_refl _) hle hlk.2 (λh=>h) c2 (by simp) la2.1 la2.2
        ·cases hev
    ·cases hev
  ·cases hev
 ·rename_i t l c
  split at hev
  ·rename_i e k1 n k2 n' hu hl hc
   cases hi:P.info? e with
   |none=>rw [hi] at hev;cases hev
   |some i =>
    rw [hi] at hev
    simp only [x0q] at hev
    split at hev
    ·rename_i hcond
     obtain ⟨rfl,hn0,hby,hmx,hpos⟩:=hcond
     cases hz:zeroV P e with
     |none=>rw [hz] at hev;cases hev
     |some z =>
      rw [hz] at hev
      simp only [x0q] at hev
      cases hc':z.cells with
      |none=>rw [hc'] at hev;cases hev
      |some zc =>
       rw [hc'] at hev
       simp only [x0q] at hev
       cases hf:frzL hv zc with
       |none=>rw [hf] at hev;cases hev
       |some z' =>
        rw [hf] at hev
        simp only [x0q] at hev
        split at hev
        ·rename_i hz'
         injection hev with hev;subst hev
         have el:=qy0 (hl ▸ hρ l)
         have ec:=qy0 (hc ▸ hρ c)
         obtain ⟨zv,rz,_,wz⟩:=q1f6 (P:=P) (Z:=Z) (Y:=Y) (m:=m) hz
         have rc:=rz.cells hc'
         obtain ⟨Z1,u1,R1,l1,r1⟩:=qjy zc (us:=zv.cells.toList) R hs hf (by simpa using rc.agg_size) (λi u x hu hx=>by
          obtain ⟨u',hu',hr',_⟩:=rc.agg_get hx
          rw [Array.getElem?_toList,hu'] at hu
          injection hu with hu;subst hu;exact hr')
         rw [hz'.2,qgr] at R1
         have hzk:zv.cells.size=i.size:=by rw [rc.agg_size,←l1];exact hz'.1
         have hla:=qpq (Z:=Z1) (k:=i.size) (len:=n.toNat) (zs:=zv.cells) hz'.1 hzk (λj u x hu hx=>r1 j u x (by simpa using hu) hx)
         have hw:IntKind.i64.wrap n=n:=IntWalk.i64_in n (by omega)
         have hle:n.toNat<=maxLen:=by unfold maxLen;omega
         have hsz:szO P e=some i.size:=by simp [szO,hi]
         obtain ⟨cur,hcur,hcs,hcl⟩:∃ cur:Array Value,cur=(if n.toNat*i.size=0 then #[] else (Array.range (n.toNat*i.size)).map (zv.cells[· % zv.cells.size]!))/\cur.size=n.toNat*i.size/\Laid Z1 i.size (List.replicate n.toNat z'.1) cur:=by
          refine ⟨_,rfl,?_,?_⟩
          ·split
           ·rename_i h0;simp [h0]
           ·simp
          ·split
           ·rename_i h0
            have:n.toNat=0:=by rcases Nat.mul_eq_zero.1 h0 with h|h;exact h;omega
            rw [this]
            exact ⟨by simp,by simp⟩
           ·exact hla
         have hrun:(execOp a.eval { dst:=dst,op:=.makeSlice t l c,type:=ty,pos:=pos,after:=aft,guard:=gd }).run P w=.ok (.value (.slice (some ⟨w.heap.size,0,none⟩) n.toNat n.toNat)) (w.alloc (.cells cur e)):=by
          have hbig:¬ ((i.bytes:Int)*n>2 ^ 48):=by
           have:(i.bytes:Int)*n=n*i.bytes:=Int.mul_comm _ _
           rw [this];omega
          have hroom:¬ (n.toNat*i.bytes>roomBytes):=by
           have:((n.toNat*i.bytes:Nat):Int)=n*i.bytes:=by push_cast;rw [Int.toNat_of_nonneg hn0]
           unfold roomBytes;omega
          have hneg:¬ n<0:=by omega
          simp only [execOp,Instr.makeSlice,el,ec,asInt,asIntOf,Sem.run_bind,q154 hu,Result.andThen_ok,Sem.run_pure,q14q hi,hw,hneg,hbig,decide_false,Bool.or_self,Bool.false_or,Int.lt_irrefl,gt_iff_lt,x1q,x21q,askRoom,q153 hsz]
          rw [if_neg (by simpa using hroom)]
          simp only [Sem.run_pure,Result.andThen_ok]
          by_cases h0:n.toNat*i.size=0
          ·have hr0:Array.range 0=#[]:=rfl
           simp only [h0,x20q,Sem.run_bind,Sem.run_pure,Result.andThen_ok,q14w,hcur,hr0,Array.map_empty]
          ·simp only [h0,x21q,Sem.run_bind,wz,Sem.run_pure,Result.andThen_ok,q14w,hcur]
         refine q1eq hrun ?_
         refine hK _ _ Z1 (upd m base (some (.slice (some ⟨w.heap.size,0,none⟩) n.toNat n.toNat))) u1 (MLe.up hmb) (q1dy (by simp)) ?_ (.row base n.toNat _ n.toNat (by simp [upd]) (λ_=>⟨_,rfl⟩))
         rw [qz,qgr]
         by_cases hsl:(∃ e',P.underlying e=some (.slice e'))/\i.size=1
         ·obtain ⟨⟨e',hsl⟩,hk1⟩:=hsl
          have hb:mkB P e i.size n.toNat (List.replicate n.toNat z'.1)=.tab (List.replicate n.toNat z'.1) n.toNat (.c .nilS):=by simp only [mkB,hsl,hk1]
          rw [hk1] at hcs hcl
          rw [hb]
          exact R1.new_tab e (0,0) hmb (by simp) (Nat.le_refl _) (by simpa using hcs) (by simp) hcl.1 hcl.2
         ·have hb:mkB P e i.size n.toNat (List.replicate n.toNat z'.1)=.row (List.replicate n.toNat z'.1):=by
           unfold mkB
           split
           ·rename_i e' h' h'';exact absurd ⟨⟨e',h'⟩,h''⟩ hsl
           ·rfl
          rw [hb]
          exact R1.new_row e (0,0) hmb (by simp) (Nat.le_refl _) hle hpos (λh=>h) hcs (by simp) hcl.1 hcl.2
        ·cases hev
    ·cases hev
  ·cases hev
 ·rename_i t x lo hi mx
  split at hev
  ·rename_i e hu
   cases hf:frzC hv (r x) with
   |none=>rw [hf] at hev;cases hev
   |some y =>
    rw [hf] at hev
    simp only [x0q] at hev
    split at hev
    ·rename_i es hy
     cases hsz:szO P e with
     |none=>rw [hsz] at hev;cases hev
     |some k =>
      rw [hsz] at hev
      simp only [x0q] at hev
      cases h1:bnd (mx.map r) es.length es.length with
      |none=>rw [h1] at hev;cases hev
      |some mm =>
       rw [h1] at hev
       simp only [x0q] at hev
       cases h2:bnd (hi.map r) es.length mm with
       |none=>rw [h2] at hev;cases hev
       |some u =>
        rw [h2] at hev
        simp only [x0q] at hev
        cases h3:bnd (lo.map r) 0 u with
        |none=>rw [h3] at hev;cases hev
        |some l =>
         rw [h3] at hev
         simp only [x0q] at hev
         obtain ⟨Z1,u1,R1,r1⟩:=qjx R hs hf (hρ x)
         rw [hy] at r1
         have hform:∃ A c,a.eval x=.slice A es.length c/\es.length<=c:=by
          generalize a.eval x=vx at r1
          cases r1 with
          |sl A n c k' b off U _ hl hc hm hk' hA hz hr hN=>subst hl;exact ⟨A,c,rfl,hc⟩
         obtain ⟨A,c,hv',hc⟩:=hform
         split at hev
         ·cases hev
         ·rename_i hmh
          obtain ⟨hlu,hul,cm,c1,c2,c3,hrun⟩:=q17q (P:=P) (w:=w) (v:=a.eval x) hρ hu hsz h1 h2 h3 (by simpa using hmh) hv' hc
          split at hev
          ·rename_i hzs
           injection hev with hev;subst hev
           have hcm:=c3 hzs.1
           have hrun':(execOp a.eval { dst:=dst,op:=.slice t x lo hi mx,type:=ty,pos:=pos,after:=aft,guard:=gd }).run P w=.ok (.value (.slice (if cm=l then A else A.map (·.add (l*k))) (u - l) (cm - l))) w:=by simp only [execOp,Sem.run_bind,hrun,Result.andThen_ok,Sem.run_pure]
           refine q1eq hrun' (hK _ w Z m ZUp.refl (MLe.refl m) (λi hi=>.inl hi) (by rw [qy,qgr];exact R) ?_)
           have:u=l:=by omega
           subst this
           have:cm=u:=by omega
           subst this
           simp only [Nat.sub_self]
           exact .c (.zs _)
          ·split at hev
           ·rename_i hall
            injection hev with hev;subst hev
            have hk:∀ e∈es,e.length=k:=λe he=>by simpa using List.all_eq_true.1 hall e he
            obtain ⟨A',c',e1,_,hsub⟩:=q1a2 r1 hlu hul hk
            rw [hv'] at e1
            injection e1 with a1 a2 a3
            subst a1 a3
            have hrun':(execOp a.eval { dst:=dst,op:=.slice t x lo hi mx,type:=ty,pos:=pos,after:=aft,guard:=gd }).run P w=.ok (.value (.slice (if cm=l then A else A.map (·.add (l*k))) (u - l) (cm - l))) w:=by simp only [execOp,Sem.run_bind,hrun,Result.andThen_ok,Sem.run_pure]
            exact q1eq hrun' (hK _ w Z1 m u1 (MLe.refl m) (λi hi=>.inl hi) (by rw [qy];exact R1) (.c (hsub cm c1 c2)))
           ·cases hev
    ·cases hev
  ·cases hev
 ·rename_i src dst' x
  split at hev
  ·rename_i e h1 h2
   split at hev
   ·rename_i s h3 hx
    have es:=qy1 (hx ▸ hρ x)
    split at hev
    ·rename_i hcond
     obtain ⟨cap,arr,fz,hc1,hc2,harr,hfz,hrun⟩:=q1da (P:=P) (w:=w) e s hcond.2
     have hrun':(execOp a.eval { dst:=dst,op:=.convert src dst' x,type:=ty,pos:=pos,after:=aft,guard:=gd }).run P w=.ok (.value (.slice (some ⟨w.heap.size,0,none⟩) s.size cap)) (w.drew.alloc (.cells arr e fz)):=by
      simp only [execOp,es,convert,Sem.run_bind,q154 h1,q154 h2,Result.andThen_ok,q154 h3,hrun,Sem.run_pure]
     split at hev
     ·rename_i h0
      injection hev with hev;subst hev
      refine q1eq hrun' (hK _ _ Z m ZUp.refl (MLe.refl m) (λi hi=>.inl hi) ?_ (.c ?_))
      ·rw [qy,qgr]
       exact R.later ((Bel.refl w).drew.alloc _)
      ·rw [h0]
       exact qxw Z hc2 (λh=>by cases h)
     ·rename_i h0
      injection hev with hev;subst hev
      refine q1eq hrun' (hK _ _ Z (upd m base (some (.slice (some ⟨w.heap.size,0,none⟩) s.size cap))) ZUp.refl (MLe.up hmb) (q1dy (by simp)) ?_ (.row base s.size _ cap (by simp [upd]) (λ_=>⟨_,rfl⟩)))
      rw [qz,qgr]
      have hdl:s.data.size=s.size:=rfl
      refine (R.later (Bel.refl w).drew).new_row (k:=1) e fz hmb (by simp [hdl]) hc1 hc2 (by omega) (λh=>absurd h h0) (by rw [harr];simp [hdl];omega) ⟨λo ho=>by rw [hfz];simp only;omega,λh=>absurd rfl h,by rw [hfz];simp only;omega⟩ (λel he=>by simp at he;obtain ⟨b,_,rfl⟩:=he;rfl) ?_
      intro i el j z hi hj
      rw [x14q] at hi
      cases hb:s.data.toList[i]? with
      |none=>rw [hb] at hi;cases hi
      |some b =>
       rw [hb] at hi
       injection hi with hi;subst hi
       cases j with
       |succ j=>simp at hj
       |zero =>
        simp at hj
        subst hj
        have hil:i<s.data.size:=by have:=(List.getElem?_eq_some_iff.1 hb).1;simpa using this
        refine ⟨.int .u8 b.toNat,?_,.int _ _⟩
        rw [Nat.mul_one,Nat.add_zero,harr,Array.getElem?_append_left (by simpa using hil)]
        rw [Array.getElem?_toList] at hb
        simp [hb]
    ·cases hev
   ·cases hev
  ·rename_i e h1 h2
   split at hev
   ·rename_i h3
    cases hf:frzC hv (r x) with
    |none=>rw [hf] at hev;cases hev
    |some y =>
     rw [hf] at hev
     simp only [x0q] at hev
     split at hev
     ·rename_i es hy
      cases hb:bytesOf es with
      |none=>rw [hb] at hev;cases hev
      |some l =>
       rw [hb] at hev
       injection hev with hev;subst hev
       obtain ⟨Z1,u1,R1,r1⟩:=qjx R hs hf (hρ x)
       rw [hy] at r1
       have hrun:=q8s (P:=P) (w:=w) R1.zok r1 hb
       have hform:∃ A n c,a.eval x=.slice A n c:=by
        generalize a.eval x=vx at r1
        cases r1 with
        |sl A n c k' b off U _ hl hc hm hk' hA hz hr hN=>exact ⟨A,n,c,rfl⟩
       obtain ⟨A,n,c,hv'⟩:=hform
       refine q1eq (cv:=.string ⟨l.toArray⟩) (w':=w) ?_ (hK _ w Z m ZUp.refl (MLe.refl m) (λi hi=>.inl hi) (by rw [qy,qgr];exact R) (.c (.str _)))
       rw [hv'] at hrun
       simp only [execOp,hv',convert,Sem.run_bind,q154 h1,q154 h2,Result.andThen_ok,q154 h3,hrun,Sem.run_pure]
     ·cases hev
   ·cases hev
  ·rename_i e0 e h1 h2
   split at hev
   case h_2=>cases hev
   rename_i id n h3 hx
   split at hev
   case isFalse=>cases hev
   rename_i hsd
   subst hsd
   split at hev
   case h_2=>cases hev
   rename_i es hes0
   split at hev
   case isFalse=>cases hev
   rename_i hc
   injection hev with hev;subst hev
   obtain rfl:e0=e:=by
    rw [h1] at h2
    injection h2 with h2
    injection h2
   obtain ⟨g,c,w1,hva,hmi,hrun,R1⟩:=qrl (P:=P) R (hs id _ hes0) (hx ▸ hρ x) hc.1 hc.2
   have hrun':(execOp a.eval { dst:=dst,op:=.convert src src x,type:=ty,pos:=pos,after:=aft,guard:=gd }).run P w=.ok (.value (.slice (some ⟨g,0,none⟩) n c)) w1:=by
    simp only [execOp,hva,convert,Sem.run_bind,q154 h1,q154 h2,Result.andThen_ok,q154 h3,x19q,hrun,Sem.run_pure]
   exact q1eq hrun' (hK _ w1 Z m ZUp.refl (MLe.refl m) (λi hi=>.inl hi) (by rw [qy,qgr];exact R1) (.row id n _ c hmi (λ_=>⟨g,rfl⟩)))
  ·cases hev
 ·exact qfk hcall hρ R hs hfr hev hlen hK
 ·exact qfi hcall hρ R hs hfr hev hlen hK
 ·cases hev
end
end Go.Proofs.YtmlcmoaonaomfaaGreatDoor
