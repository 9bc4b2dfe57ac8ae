/- Operations that reckon with values alone do in the model what they do in the machine: all of them. -/
import Derived.Test.YtmlcmoaonaomfaaGreatDoorZ01
namespace Go.Proofs.YtmlcmoaonaomfaaGreatDoor
open Go.RowKit
section
variable {P:Program} {Z Y:ZMap} {m:Nat->Oq Value}
theorem q14u {α β:Type} (f:α->Sem β) (w:World):∀ (l:List α) (g:List β),l.length=g.length->(∀ (i:Nat) a b,l[i]?=some a->g[i]?=some b->(f a).run P w=.ok b w)->(l.mapM f).run P w=.ok g w
 |[],[],_,_=>rfl
 |[],_::_,h,_=>by cases h
 |_::_,[],h,_=>by cases h
 |a::l,b::g,h,hr=>by
  simp only [List.mapM_cons,Sem.run_bind,hr 0 a b rfl rfl,Result.andThen_ok,q14u f w l g (by simpa using h) (λi x y hx hy=>hr (i+1) x y hx hy),Sem.run_pure]
theorem q14v {α β:Type} (f:α->Sem β) (w:World) (l:Array α) (g:List β) (h:l.size=g.length) (hr:∀ (i:Nat) a b,l[i]?=some a->g[i]?=some b->(f a).run P w=.ok b w):(l.mapM f).run P w=.ok g.toArray w:=by
 rw [Array.mapM_eq_mapM_toList]
 have:=q14u (P:=P) f w l.toList g (by simpa using h) (λi a b ha hb=>hr i a b (by simpa using ha) hb)
 show (l.toList.mapM f >>= λx=>pure x.toArray).run P w=_
 rw [Sem.run_bind,this]
 rfl
theorem qri {α β:Type} (f:α->Oq β):∀ (l:List α) (g:List β),l.mapM f=some g->l.length=g.length/\∀ (i:Nat) a b,l[i]?=some a->g[i]?=some b->f a=some b
 |[],g,h=>by
  simp at h
  subst h
  exact ⟨rfl,by simp⟩
 |a::l,g,h=>by
  simp only [List.mapM_cons] at h
  cases h1:f a with
  |none=>rw [h1] at h;cases h
  |some b =>
   rw [h1] at h
   cases h2:l.mapM f with
   |none=>rw [h2] at h;cases h
   |some g' =>
    rw [h2] at h
    have h:some (b::g')=some g:=h
    injection h with h
    subst h
    obtain ⟨hl,hr⟩:=qri f l g' h2
    refine ⟨by simp [hl],λi x y hx hy=>?_⟩
    cases i with
    |zero=>simp at hx hy;subst hx hy;exact h1
    |succ i=>exact hr i x y (by simpa using hx) (by simpa using hy)
theorem qi8 (off:Nat):∀ (l:List Value) (k:Nat) (arr:Array Value),((l.zipIdx k).foldl (λ(cs:Array Value) (p:Value×Nat)=>cs.setIfInBounds (off+p.2) p.1) arr).size=arr.size /\
  ∀ i,i<arr.size->((l.zipIdx k).foldl (λ(cs:Array Value) (p:Value×Nat)=>cs.setIfInBounds (off+p.2) p.1) arr)[i]?=if off+k<=i/\i<off+k+l.length then l[i - (off+k)]? else arr[i]?
 |[],k,arr=>⟨rfl,λi hi=>by simp;intro h1 h2;omega⟩
 |v::l,k,arr=>by
  obtain ⟨h1,h2⟩:=qi8 off l (k+1) (arr.setIfInBounds (off+k) v)
  simp only [List.zipIdx_cons,List.foldl_cons]
  refine ⟨by rw [h1];simp,λi hi=>?_⟩
  rw [h2 i (by simpa using hi)]
  by_cases e:i=off+k
  ·subst e
   rw [if_neg (by omega),if_pos (by simp)]
   simp [Array.getElem?_setIfInBounds_self_of_lt hi]
  ·rw [Array.getElem?_setIfInBounds_ne (Ne.symm e)]
   by_cases h3:off+k<=i/\i<off+k+(l.length+1)
   ·rw [if_pos (by omega),if_pos (by simpa using h3)]
    obtain ⟨j,hj⟩:∃ j,i - (off+k)=j+1:=⟨i - (off+k) - 1,by omega⟩
    rw [hj,List.getElem?_cons_succ]
    congr 1
    omega
   ·rw [if_neg (by omega),if_neg (by simpa using h3)]
theorem q17y {α:Type} {cs vs:List α} {off:Nat} (h:off+vs.length<=cs.length):(splice cs off vs).length=cs.length:=by simp [splice];omega
theorem q17x {α:Type} {cs vs:List α} {off i:Nat} (h:off+vs.length<=cs.length):(splice cs off vs)[i]?=if off<=i/\i<off+vs.length then vs[i - off]? else cs[i]?:=by
 unfold splice
 rw [List.append_assoc,List.getElem?_append]
 simp only [List.length_take]
 by_cases h1:i<min off cs.length
 ·rw [if_pos h1,if_neg (by omega),List.getElem?_take,if_pos (by omega)]
 ·rw [if_neg h1,List.getElem?_append]
  have e:min off cs.length=off:=by omega
  rw [e] at h1 ⊢
  by_cases h2:i - off<vs.length
  ·rw [if_pos h2,if_pos (by omega)]
  ·rw [if_neg h2,if_neg (by omega),List.getElem?_drop]
   congr 1
   omega
theorem qgg {place:Nat->Oq (Nat×Nat)} {r:Operand->V} {ρ:Operand->Value} (hρ:∀ x,Rep Z Y m (ρ x) (r x)):∀ (ps:List (Nat×Operand)) (cs:List V) (vs:Array Value) (out:List V),buildV place cs (ps.map λp=>(p.1,r p.2))=some out->Rep Z Y m (.agg vs) (.agg cs) ->
  ∃ vs',Instr.fill place vs (ps.map λp=>(p.1,ρ p.2))=some vs'/\Rep Z Y m (.agg vs') (.agg out)
 |[],cs,vs,out,h,hr=>by
  injection h with h
  subst h
  exact ⟨vs,rfl,hr⟩
 |(i,x)::ps,cs,vs,out,h,hr=>by
  simp only [List.map_cons,buildV] at h
  cases hp:place i with
  |none=>rw [hp] at h;cases h
  |some p =>
   cases hc:(r x).cells with
   |none=>rw [hp,hc] at h;cases h
   |some us =>
    rw [hp,hc] at h
    simp only [x0q] at h
    split at h
    ·rename_i hcond
     have rc:=(hρ x).cells hc
     have hs:=rc.agg_size
     have hs':=hr.agg_size
     have hnew:Rep Z Y m (.agg ((ρ x).cells.zipIdx.foldl (λ(cs:Array Value) (q:Value×Nat)=>cs.setIfInBounds (p.1+q.2) q.1) vs)) (.agg (splice cs p.1 us)):=by
      rw [←Array.foldl_toList,Array.toList_zipIdx]
      obtain ⟨h1,h2⟩:=qi8 p.1 (ρ x).cells.toList 0 vs
      have hget:∀ j u,((((ρ x).cells.toList.zipIdx 0).foldl (λ(cs:Array Value) (q:Value×Nat)=>cs.setIfInBounds (p.1+q.2) q.1) vs))[j]?=some u->j<cs.length/\if p.1<=j/\j<p.1+us.length then (ρ x).cells[j - p.1]?=some u else vs[j]?=some u:=by
       intro j u hu
       have hj:j<vs.size:=by rw [←h1];exact (Array.getElem?_eq_some_iff.1 hu).1
       rw [h2 j hj] at hu
       refine ⟨by omega,?_⟩
       have e:(ρ x).cells.toList.length=us.length:=by simpa using hs
       simp only [Nat.add_zero,e] at hu
       split at hu
       ·rename_i hc;rw [if_pos hc];simpa using hu
       ·rename_i hc;rw [if_neg hc];exact hu
      refine .agg _ _ (by rw [h1,q17y (by omega)];exact hs') ?_ ?_
      ·intro u hu
       obtain ⟨j,hj⟩:=List.getElem?_of_mem hu
       have:=(hget j u (by simpa using hj)).2
       split at this
       ·exact rc.agg_one u (List.mem_of_getElem? (i:=j - p.1) (by simpa using this))
       ·exact hr.agg_one u (List.mem_of_getElem? (i:=j) (by simpa using this))
      ·intro j u y hu hy
       have:=(hget j u hu).2
       rw [q17x (by omega)] at hy
       split at this
       ·rename_i hc
        rw [if_pos hc] at hy
        obtain ⟨u',hu',hr',_⟩:=rc.agg_get hy
        rw [hu'] at this;injection this with this;subst this;exact hr'
       ·rename_i hc
        rw [if_neg hc] at hy
        obtain ⟨u',hu',hr',_⟩:=hr.agg_get hy
        rw [hu'] at this;injection this with this;subst this;exact hr'
     obtain ⟨vs',h1,h2⟩:=qgg hρ ps _ _ out h hnew
     refine ⟨vs',?_,h2⟩
     simp only [List.map_cons,Instr.fill,hp]
     rw [if_neg (by simp;omega)]
     exact h1
    ·cases h
theorem qf6 {op:BinOp} {t:TypeId} {x y:Operand} {X Y':V} {vx vy:Value} {q:Bool} (h:eqV P 9 t X Y'=some q) (rx:Rep Z Y m vx X) (ry:Rep Z Y m vy Y') (w:World):(eqGuard op t x y vx vy).run P w=.ok () w:=by
 unfold eqGuard
 generalize (!(match op with|.eql=>true|.neq=>true|_=>false))=b
 cases b with
 |true=>rfl
 |false =>
  simp only [x1q,x21q]
  unfold eqV at h
  cases hu:P.underlying t with
  |none=>rw [hu] at h;cases h
  |some u =>
   rw [hu] at h
   split at h <;> first
    |(cases rx with|c rx=>cases ry with|c ry=>cases rx <;> cases ry <;> rfl)
    |(cases h;done)
    |(cases rx with|agg _ _ _ _ _=>cases ry with|agg _ _ _ _ _ =>
      split at h
      ·cases h
      ·rename_i hns
       simp only [Bool.or_eq_true,not_or,Bool.not_eq_true] at hns
       obtain ⟨⟨_,hg⟩,_⟩:=hns
       simp only [Sem.run_bind,q14z,Result.andThen_ok,hg,x11q,x20q,Sem.run_pure])
theorem qf7 {op:BinOp} {t:TypeId} {x y:Operand} {vx vy:Value} (h:(∃ k a k' b,vx=.int k a/\vy=.int k' b)∨∃ a b,vx=.string a/\vy=.string b) (w:World):(eqGuard op t x y vx vy).run P w=.ok () w:=by
 unfold eqGuard
 generalize (!(match op with|.eql=>true|.neq=>true|_=>false))=b
 rcases h with ⟨k,a,k',b',rfl,rfl⟩|⟨a,b',rfl,rfl⟩ <;> cases b <;> rfl
theorem q7o {t:TypeId} {X Y':V} {vx vy:Value} {q:Bool} (h:eqV P 9 t X Y'=some q) (rx:Rep Z Y m vx X) (ry:Rep Z Y m vy Y') (hns:(∀ k a k' b,X=.c (.int k a)->Y'=.c (.int k' b)->False)/\(∀ a b,X=.c (.str a)->Y'=.c (.str b)->False)) (w:World) :
  (binOp .eql t vx vy).run P w=.ok (.bool q) w/\(binOp .neq t vx vy).run P w=.ok (.bool !q) w:=by
 have he:=qf8 9 h rx ry Op.maxDepth (by decide) w
 have h':=h
 unfold eqV at h'
 cases hu:P.underlying t with
 |none=>rw [hu] at h';cases h'
 |some u =>
  rw [hu] at h'
  split at h' <;> first
   |(cases h';done)
   |(exact (hns.1 _ _ _ _ rfl rfl).elim)
   |(exact (hns.2 _ _ rfl rfl).elim)
   |(cases rx with|c rx=>cases ry with|c ry=>cases rx <;> cases ry <;> simp [binOp,Op.equal,he])
   |(cases rx with|agg _ _ _ _ _=>cases ry with|agg _ _ _ _ _=>simp [binOp,Op.equal,he])
theorem q7p {op:BinOp} {t:TypeId} {x y:Operand} {X Y':V} {vx vy:Value} {v:V} (h:binV P op t X Y'=some v) (rx:Rep Z Y m vx X) (ry:Rep Z Y m vy Y') :
  ∃ cv,Rep Z Y m cv v/\∀ w,((do eqGuard op t x y vx vy;binOp op t vx vy):Sem Value).run P w=.ok cv w:=by
 unfold binV at h
 split at h
 ·rename_i k a k' b
  cases rx with|c rx=>cases ry with|c ry =>
  cases rx;cases ry
  have hg:=λw=>qf7 (P:=P) (op:=op) (t:=t) (x:=x) (y:=y) (vx:=.int k a) (vy:=.int k' b) (.inl ⟨k,a,k',b,rfl,rfl⟩) w
  have hsh:∀ o:BinOp,o=op->(shOp o k a b).map V.c=some v->∃ cv,Rep Z Y m cv v/\∀ w,((do eqGuard op t x y (.int k a) (.int k' b);binOp op t (.int k a) (.int k' b)):Sem Value).run P w=.ok cv w:=by
   intro o ho h'
   clear h
   subst ho
   cases hi:shOp o k a b with
   |none=>rw [hi] at h';cases h'
   |some z =>
    rw [hi] at h'
    injection h' with h'
    subst h'
    obtain ⟨cv,hr,hw⟩:=sh_sim (P:=P) (Z:=Z) (k':=k') hi t
    exact ⟨cv,.c hr,λw=>by simp only [Sem.run_bind,hg,Result.andThen_ok,hw]⟩
  split at h
  ·exact hsh _ rfl h
  ·exact hsh _ rfl h
  ·rename_i h1 h2
   split at h
   ·rename_i hk
    subst hk
    cases hi:intOp op k a b with
    |none=>rw [hi] at h;cases h
    |some z =>
     rw [hi] at h
     injection h with h
     subst h
     obtain ⟨cv,hr,hw⟩:=qo5 (P:=P) (Z:=Z) ⟨h1,h2⟩ hi t
     exact ⟨cv,.c hr,λw=>by simp only [Sem.run_bind,hg,Result.andThen_ok,hw]⟩
   ·cases h
 ·rename_i a b
  cases rx with|c rx=>cases ry with|c ry =>
  cases rx;cases ry
  cases hi:strOp op a b with
  |none=>rw [hi] at h;cases h
  |some z =>
   rw [hi] at h
   injection h with h
   subst h
   obtain ⟨cv,hr,hw⟩:=q18u (P:=P) (Z:=Z) hi t
   exact ⟨cv,.c hr,λw=>by simp only [Sem.run_bind,qf7 (P:=P) (op:=op) (t:=t) (x:=x) (y:=y) (vx:=.string a) (vy:=.string b) (.inr ⟨a,b,rfl,rfl⟩) w,Result.andThen_ok,hw]⟩
 ·rename_i hni hns
  split at h
  ·cases hq:eqV P 9 t X Y' with
   |none=>rw [hq] at h;cases h
   |some q =>
    rw [hq] at h
    injection h with h
    subst h
    exact ⟨.bool q,.c (.bool q),λw=>by simp only [Sem.run_bind,qf6 hq rx ry w,Result.andThen_ok,(q7o hq rx ry ⟨hni,hns⟩ w).1]⟩
  ·cases hq:eqV P 9 t X Y' with
   |none=>rw [hq] at h;cases h
   |some q =>
    rw [hq] at h
    injection h with h
    subst h
    exact ⟨.bool !q,.c (.bool !q),λw=>by simp only [Sem.run_bind,qf6 hq rx ry w,Result.andThen_ok,(q7o hq rx ry ⟨hni,hns⟩ w).2]⟩
  ·cases h
theorem q1e1 {z:Value} {cs:List V} (h:vOf z=.agg cs):∃ vs,z=.agg vs:=by
 unfold vOf at h
 split at h
 ·exact ⟨_,rfl⟩
 ·unfold vCell at h
  cases hc:cOf z with
  |none=>rw [hc] at h;cases h
  |some x=>rw [hc] at h;cases h
theorem q1f6 {t:TypeId} {z:V} (h:zeroV P t=some z):∃ v,Rep Z Y m v z/\vOf v=z/\∀ w,(zeroValue t).run P w=.ok v w:=by
 unfold zeroV at h
 cases hi:P.info? t with
 |none=>rw [hi] at h;cases h
 |some i =>
  rw [hi] at h
  simp only [x0q] at h
  cases hz:i.zero with
  |none=>rw [hz] at h;cases h
  |some v =>
   rw [hz] at h
   injection h with h
   subst h
   exact ⟨v,q1e2 v,rfl,q155 hi hz⟩
theorem q7v {x:Oq V} {vx:Oq Value} {d mx n:Nat} {code:BoundsCode} (h:bnd x d mx=some n) (hx:x.isSome=vx.isSome) (hr:∀ a b,vx=some a->x=some b->Rep Z Y m a b) (w:World) :
  (match vx with|some v=>Instr.sliceBound v mx code|none=>pure d).run P w=.ok n w:=by
 cases vx with
 |none =>
  cases x with
  |none=>injection h with h;subst h;rfl
  |some _=>cases hx
 |some v =>
  cases x with
  |none=>cases hx
  |some x =>
   have r:=hr _ _ rfl rfl
   unfold bnd at h
   split at h
   ·cases ‹some x=none›
   ·rename_i k i e
    injection e with e
    subst e
    cases r with|c r =>
    cases r
    split at h
    ·rename_i hb
     injection h with h
     subst h
     simp [Instr.sliceBound,asIntOf,hb]
    ·cases h
   ·cases h
end
end Go.Proofs.YtmlcmoaonaomfaaGreatDoor
namespace Go.Proofs.YtmlcmoaonaomfaaGreatDoor
open Go.RowKit
section
variable {P:Program} {Z Y:ZMap} {m:Nat->Oq Value}
theorem q10 (b o n:Nat):(Addr.mk b o none).add n=⟨b,o+n,none⟩:=by
 unfold Addr.add
 split
 ·rename_i h;subst h;rfl
 ·rfl
theorem qxx {v:Value} {q:Bool} (r:Rep Z Y m v (.c (.bool q))):v=.bool q:=by cases r with|c r=>cases r;rfl
theorem qy0 {v:Value} {k:IntKind} {n:Int} (r:Rep Z Y m v (.c (.int k n))):v=.int k n:=by cases r with|c r=>cases r;rfl
theorem qy1 {v:Value} {s:BA} (r:Rep Z Y m v (.c (.str s))):v=.string s:=by cases r with|c r=>cases r;rfl
theorem getElem?_map_toList {r:Operand->V} {ρ:Operand->Value} (hρ:∀ x,Rep Z Y m (ρ x) (r x)) (xs:Array Operand) (i:Nat) (u:Value) (y:V) (hu:(xs.map ρ)[i]?=some u) (hy:(xs.toList.map r)[i]?=some y):Rep Z Y m u y:=by
 simp only [Array.getElem?_map,x14q,Array.getElem?_toList] at hu hy
 cases hx:xs[i]? with
 |none=>rw [hx] at hu;cases hu
 |some x =>
  rw [hx] at hu hy
  injection hu with hu
  injection hy with hy
  subst hu hy
  exact hρ x
theorem qsu {mx:Bool} {x y v:V} {vx vy:Value} (h:minV mx x y=some v) (rx:Rep Z Y m vx x) (ry:Rep Z Y m vy y) :
  ∃ cv,Rep Z Y m cv v/\∀ w,(if mx then Builtin.max_ #[] 0 #[vx,vy] else Builtin.min_ #[] 0 #[vx,vy]).run P w=.ok cv w:=by
 unfold minV at h
 split at h
 ·rename_i k a k' b
  have e1:=qy0 rx
  have e2:=qy0 ry
  subst e1 e2
  split at h
  ·rename_i hk
   injection h with h
   subst h hk
   cases mx with
   |true=>exact ⟨_,.c (.int _ _),λw=>by simp [Builtin.max_,Builtin.max2]⟩
   |false=>exact ⟨_,.c (.int _ _),λw=>by simp [Builtin.min_,Builtin.min2]⟩
  ·cases h
 ·cases h
set_option maxHeartbeats 1000000 in
theorem qff {r:Operand->V} {ρ:Operand->Value} (hρ:∀ x,Rep Z Y m (ρ x) (r x)) {o:Oper} {v:V} (h:ev0 P r o.op=some v):∃ cv,Rep Z Y m cv v/\∀ w,(execOp ρ o).run P w=.ok (.value cv) w:=by
 obtain ⟨dst,op,ty,pos,aft,gd⟩:=o
 simp only at h
 unfold ev0 at h
 split at h
 ·rename_i x
  injection h with h
  subst h
  exact ⟨_,hρ x,λw=>rfl⟩
 ·rename_i x
  injection h with h
  subst h
  exact ⟨_,hρ x,λw=>rfl⟩
 ·rename_i c a b
  split at h
  ·rename_i q hq
   have e:ρ c=.bool q:=qxx (hq ▸ hρ c)
   injection h with h
   subst h
   cases q with
   |true=>exact ⟨_,hρ a,λw=>by simp [execOp,e,asBool]⟩
   |false=>exact ⟨_,hρ b,λw=>by simp [execOp,e,asBool]⟩
  ·cases h
 ·rename_i t parts
  cases hz:zeroV P t with
  |none=>rw [hz] at h;cases h
  |some z =>
   rw [hz] at h
   simp only [x0q] at h
   obtain ⟨zv,rz,ez,wz⟩:=q1f6 (Z:=Z) (Y:=Y) (m:=m) hz
   split at h
   ·rename_i cs fs hu
    obtain ⟨vs,rfl⟩:=q1e1 ez
    cases hp:(fs.toList.mapM λf=>(szO P f.type).map λn=>(f.offset,n)) with
    |none=>rw [hp] at h;cases h
    |some pl =>
     rw [hp] at h
     simp only [x0q] at h
     cases hb:buildV (λi=>pl[i]?) cs (parts.toList.map λp=>(p.1,r p.2)) with
     |none=>rw [hb] at h;cases h
     |some out =>
      rw [hb] at h
      injection h with h
      subst h
      obtain ⟨vs',h1,h2⟩:=qgg hρ parts.toList cs vs out hb rz
      obtain ⟨hl,hg⟩:=qri _ _ _ hp
      refine ⟨_,h2,λw=>?_⟩
      have hm:=q14v (P:=P) (λf:Field=>do pure (f.offset,←sizeOf f.type)) w fs pl (by simpa using hl) (λi f p hf hq=>by
       have:=hg i f p (by simpa using hf) hq
       cases hs:szO P f.type with
       |none=>rw [hs] at this;cases this
       |some n =>
        rw [hs] at this
        injection this with this
        subst this
        simp only [Sem.run_bind,q153 hs,Result.andThen_ok,Sem.run_pure])
      have e:(parts.map λp=>(p.1,ρ p.2)).toList=parts.toList.map λp=>(p.1,ρ p.2):=by simp
      have e':(λi:Nat=>pl.toArray[i]?)=λi:Nat=>pl[i]?:=by funext i;simp
      simp only [execOp,Instr.build,Sem.run_bind,wz,Result.andThen_ok,q154 hu,hm,e,Value.cells]
      rw [e',h1]
      rfl
   ·rename_i cs n e hu
    obtain ⟨vs,rfl⟩:=q1e1 ez
    cases hs:szO P e with
    |none=>rw [hs] at h;cases h
    |some k =>
     rw [hs] at h
     simp only [x0q] at h
     cases hb:buildV (λi=>some (i*k,k)) cs (parts.toList.map λp=>(p.1,r p.2)) with
     |none=>rw [hb] at h;cases h
     |some out =>
      rw [hb] at h
      injection h with h
      subst h
      obtain ⟨vs',h1,h2⟩:=qgg hρ parts.toList cs vs out hb rz
      refine ⟨_,h2,λw=>?_⟩
      have e:(parts.map λp=>(p.1,ρ p.2)).toList=parts.toList.map λp=>(p.1,ρ p.2):=by simp
      simp only [execOp,Instr.build,Sem.run_bind,wz,Result.andThen_ok,q154 hu,q153 hs,e,Value.cells]
      rw [h1]
      rfl
   ·cases h
 ·rename_i x
  have r':=hρ x
  split at h
  ·rename_i id off hx
   injection h with h;subst h
   rw [hx] at r'
   refine ⟨_,r',λw=>?_⟩
   simp only [execOp]
   generalize ρ x=vx at r'
   cases r'
   rfl
  ·rename_i id k i off hx
   injection h with h;subst h
   rw [hx] at r'
   refine ⟨_,r',λw=>?_⟩
   simp only [execOp]
   generalize ρ x=vx at r'
   cases r'
   rfl
  ·rename_i cs off hx
   injection h with h;subst h
   rw [hx] at r'
   refine ⟨_,r',λw=>?_⟩
   simp only [execOp]
   generalize ρ x=vx at r'
   cases r'
   rfl
  ·rename_i f caps hx
   injection h with h;subst h
   rw [hx] at r'
   refine ⟨_,r',λw=>?_⟩
   simp only [execOp]
   generalize ρ x=vx at r'
   cases r' <;> rfl
  ·cases h
 ·rename_i op t x y yt
  obtain ⟨cv,h1,h2⟩:=q7p (x:=x) (y:=y) h (hρ x) (hρ y)
  exact ⟨cv,h1,λw=>by simp only [execOp,Sem.run_bind,h2,Result.andThen_ok];rfl⟩
 ·rename_i op t x
  have r':=hρ x
  unfold unV at h
  split at h
  ·rename_i k n hx
   injection h with h;subst h
   rw [hx] at r'
   have e:=qy0 r'
   exact ⟨_,.c (.int _ _),λw=>by simp [execOp,e,Op.unary,Op.intArith]⟩
  ·rename_i b hx
   injection h with h;subst h
   rw [hx] at r'
   have e:=qxx r'
   exact ⟨_,.c (.bool _),λw=>by simp [execOp,e,Op.unary]⟩
  ·cases h
 ·rename_i src dst x
  have r':=hρ x
  split at h
  ·rename_i k0 k k1 n h1 h2 hx
   injection h with h;subst h
   rw [hx] at r'
   have e:=qy0 r'
   exact ⟨_,.c (.int _ _),λw=>by simp [execOp,e,convert,q154 h1,q154 h2,Conv.intToInt]⟩
  ·rename_i s h1 h2 hx
   injection h with h;subst h
   rw [hx] at r'
   have e:=qy1 r'
   exact ⟨_,.c (.str _),λw=>by simp [execOp,e,convert,q154 h1,q154 h2]⟩
  ·cases h
 ·rename_i f first caps
  cases hb:Nat.blt f 1000000 with
  |false=>rw [hb] at h;cases h
  |true =>
  rw [hb,x22q] at h
  split at h
  ·rename_i hf
   injection h with h;subst h
   have e:first=#[]:=by simpa using hf
   subst e
   refine ⟨_,.fn f (caps.map ρ) (caps.toList.map r) (by simp) (λi u y hu hy=>getElem?_map_toList hρ caps i u y hu hy) hb,λw=>?_⟩
   simp [execOp,Instr.makeFunc]
  ·split at h
   ·rename_i hf
    injection h with h;subst h
    have e:caps=#[]:=by simpa using hf
    subst e
    refine ⟨_,.bnd f (first.map ρ) (first.toList.map r) (by simp) (λi u y hu hy=>getElem?_map_toList hρ first i u y hu hy) hb,λw=>?_⟩
    simp [execOp,Instr.makeFunc]
   ·cases h
 ·rename_i t x i
  have r':=hρ x
  split at h
  ·rename_i fs hu
   cases hf:fs[i]? with
   |none=>rw [hf] at h;cases h
   |some f =>
    rw [hf] at h
    simp only [x0q] at h
    cases hs:szO P f.type with
    |none=>rw [hs] at h;cases h
    |some n =>
     rw [hs] at h
     simp only [x0q] at h
     split at h
     ·cases h
     ·rename_i hn
      have key:∀ (b o:Nat) (w:World),ρ x=.pointer (some ⟨b,o,none⟩)->(execOp ρ { dst:=dst,op:=.fieldAddr t x i,type:=ty,pos:=pos,after:=aft,guard:=gd }).run P w=.ok (.value (.pointer (some ⟨b,o+f.offset,none⟩))) w:=by
       intro b o w e
       simp [execOp,e,Instr.fieldAt,q154 hu,hf,Instr.sureAddr,fieldPlace,q153 hs,hn,q10]
      split at h
      ·rename_i id off hx
       injection h with h;subst h
       rw [hx] at r'
       generalize hv:ρ x=vx at r'
       cases r' with
       |ptr _ _ g hm=>exact ⟨_,.ptr id (off+f.offset) g hm,λw=>key g off w hv⟩
      ·rename_i id k j off hx
       injection h with h;subst h
       rw [hx] at r'
       generalize hv:ρ x=vx at r'
       cases r' with
       |rptr _ _ _ _ g n c hm =>
        refine ⟨_,.rptr id k j (off+f.offset) g n c hm,λw=>?_⟩
        rw [key g (j*k+off) w hv,Nat.add_assoc]
      ·rename_i cs off hx
       injection h with h;subst h
       rw [hx] at r'
       generalize hv:ρ x=vx at r'
       cases r' with
       |eptr b o _ U _ hz hr =>
        refine ⟨_,.eptr b o (off+f.offset) U cs hz hr,λw=>?_⟩
        rw [key b (o+off) w hv,Nat.add_assoc]
      ·cases h
  ·cases h
 ·rename_i t x i
  have r':=hρ x
  split at h
  ·rename_i fs cs hu hx
   cases hf:fs[i]? with
   |none=>rw [hf] at h;cases h
   |some f =>
    rw [hf] at h
    simp only [x0q] at h
    rw [hx] at r'
    generalize hv:ρ x=vx at r'
    cases r' with
    |agg vs _ hl h1 hr =>
     obtain ⟨cv,h2,h3⟩:=qv0 h (.agg vs cs hl h1 hr)
     exact ⟨cv,h2,λw=>by simp [execOp,hv,Instr.field,q154 hu,hf,asAgg,h3]⟩
  ·cases h
 ·rename_i t x ix
  have r':=hρ x
  have ri:=hρ ix
  split at h
  ·rename_i e id n k0 i hu hx hi
   rw [hx] at r'
   rw [hi] at ri
   have ei:=qy0 ri
   cases hs:szO P e with
   |none=>rw [hs] at h;cases h
   |some k =>
    rw [hs] at h
    simp only [x0q] at h
    split at h
    ·rename_i hb
     injection h with h;subst h
     generalize hv:ρ x=vx at r'
     cases r' with
     |row _ _ A c hm hA =>
      obtain ⟨g,rfl⟩:=hA (by omega)
      refine ⟨_,.rptr id k i.toNat 0 g n c hm,λw=>?_⟩
      simp [execOp,hv,ei,Instr.indexAt,asIntOf,q154 hu,hb,q153 hs,q10]
     |row0 _ A hm=>omega
    ·cases h
  ·rename_i e es k0 i hu hx hi
   rw [hx] at r'
   rw [hi] at ri
   have ei:=qy0 ri
   cases hs:szO P e with
   |none=>rw [hs] at h;cases h
   |some k =>
    rw [hs] at h
    simp only [x0q] at h
    split at h
    ·rename_i hb
     cases he:es[i.toNat]? with
     |none=>rw [he] at h;cases h
     |some el =>
      rw [he] at h
      simp only [x0q] at h
      split at h
      ·rename_i hk
       injection h with h;subst h
       generalize hv:ρ x=vx at r'
       cases r' with
       |c r'=>cases r' with
        |sl A n c k' b off U _ hl hc hm hk' hA hz hr hN =>
         have hne:es≠[]:=by intro e;subst e;cases he
         have hi':=(List.getElem?_eq_some_iff.1 he).1
         have hkk:k'=k:=by rw [←hk];exact (hk' el (List.mem_of_getElem? he)).symm
         subst hkk
         have:=hA hne
         subst this
         refine ⟨_,.eptr b (off+i.toNat*k') 0 (λj=>U (i.toNat*k'+j)) el (λj x hj=>.inl (by rw [Nat.add_assoc];exact hz i.toNat el j x he hj)) (λj x hj=>hr i.toNat el j x he hj),λw=>?_⟩
         have hb':0<=i/\i<(n:Int):=by omega
         simp [execOp,hv,ei,Instr.indexAt,asIntOf,q154 hu,hb',q153 hs,q10]
      ·cases h
    ·cases h
  ·rename_i len e id off k0 i hu hx hi
   rw [hx] at r'
   rw [hi] at ri
   have ei:=qy0 ri
   cases hs:szO P e with
   |none=>rw [hs] at h;cases h
   |some k =>
    rw [hs] at h
    simp only [x0q] at h
    split at h
    ·rename_i hb
     injection h with h;subst h
     generalize hv:ρ x=vx at r'
     cases r' with
     |ptr _ _ g hm =>
      refine ⟨_,.ptr id (off+i.toNat*k) g hm,λw=>?_⟩
      simp [execOp,hv,ei,Instr.indexAt,asIntOf,q154 hu,hb,q153 hs,q10,Instr.sureAddr]
    ·cases h
  ·cases h
 ·rename_i t x ix
  have r':=hρ x
  have ri:=hρ ix
  split at h
  ·rename_i s k0 i hu hx hi
   rw [hx] at r'
   rw [hi] at ri
   have ei:=qy0 ri
   have es:=qy1 r'
   unfold strIx at h
   split at h
   ·rename_i hb
    cases hg:s[i.toNat]? with
    |none=>rw [hg] at h;cases h
    |some b =>
     rw [hg] at h
     injection h with h;subst h
     exact ⟨_,.c (.int _ _),λw=>by simp [execOp,ei,es,Instr.index,asIntOf,q154 hu,hb,hg]⟩
   ·cases h
  ·rename_i len e cs k0 i hu hx hi
   rw [hx] at r'
   rw [hi] at ri
   have ei:=qy0 ri
   cases hs:szO P e with
   |none=>rw [hs] at h;cases h
   |some k =>
    rw [hs] at h
    simp only [x0q] at h
    split at h
    ·rename_i hb
     generalize hv:ρ x=vx at r'
     cases r' with
     |agg vs _ hl h1 hr =>
      obtain ⟨cv,h2,h3⟩:=qv0 h (.agg vs cs hl h1 hr)
      exact ⟨cv,h2,λw=>by simp [execOp,hv,ei,Instr.index,asIntOf,q154 hu,hb,q153 hs,h3]⟩
    ·cases h
  ·cases h
 ·rename_i t x lo hi
  have r':=hρ x
  split at h
  ·rename_i s hu hx
   rw [hx] at r'
   have es:=qy1 r'
   cases hh:bnd (hi.map r) s.size s.size with
   |none=>rw [hh] at h;cases h
   |some u =>
    rw [hh] at h
    simp only [x0q] at h
    cases hl:bnd (lo.map r) 0 u with
    |none=>rw [hl] at h;cases h
    |some l =>
     rw [hl] at h
     injection h with h;subst h
     refine ⟨_,.c (.str _),λw=>?_⟩
     have b1:=q7v (P:=P) (code:=.sliceAlen) (vx:=hi.map ρ) hh (by simp) (λa b ha hb=>by cases hi <;> simp at ha hb;subst ha hb;exact hρ _) w
     have b2:=q7v (P:=P) (code:=.sliceB) (vx:=lo.map ρ) hl (by simp) (λa b ha hb=>by cases lo <;> simp at ha hb;subst ha hb;exact hρ _) w
     have hu':∀ n e,(TypeDesc.string=.array n e)->False:=by intro n e h;cases h
     cases hi <;> cases lo <;> simp [Option.map] at b1 b2 <;> simp [execOp,es,Instr.sliceAt,Instr.slice,q154 hu,Instr.sliceBounds,b1,b2]
  ·cases h
 ·rename_i x i
  have r':=hρ x
  split at h
  ·rename_i vs hx
   rw [hx] at r'
   generalize hv:ρ x=vx at r'
   cases r' with
   |tup cs _ hl hr =>
    have hi:i<cs.size:=by rw [hl];exact (List.getElem?_eq_some_iff.1 h).1
    exact ⟨cs[i],hr i _ _ (Array.getElem?_eq_getElem hi) h,λw=>by simp [execOp,hv,Instr.extract,Array.getElem?_eq_getElem hi]⟩
  ·cases h
 ·rename_i args ats
  have key:∀ (d:TypeDesc) (vx:Value) (n:Nat),(ats[0]?).bind P.underlying=some d->(args[0]?).map ρ=some vx->((d=.string/\∃ s,vx=.string s/\s.size=n)∨((∃ e,d=.slice e)/\∃ A c,vx=.slice A n c))->∀ w,
    (execOp ρ { dst:=dst,op:=.call { callee:=.builtin .len,args:=args,argTypes:=ats },type:=ty,pos:=pos,after:=aft,guard:=gd }).run P w=.ok (.value (.int .i64 n)) w:=by
   intro d vx n hd hx hc w
   cases ha:ats[0]? with
   |none=>rw [ha] at hd;cases hd
   |some t =>
    rw [ha] at hd
    have hx':(args.map ρ)[0]?=some vx:=by simpa using hx
    rcases hc with ⟨rfl,s,rfl,rfl⟩|⟨⟨e,rfl⟩,A,c,rfl⟩ <;> simp [execOp,resolve,invoke,builtin,Builtin.len_,ha,hx',q154 (show P.underlying t=_ from hd),goInt]
  have hget:∀ y,(args[0]?).map r=some y->∃ vx,(args[0]?).map ρ=some vx/\Rep Z Y m vx y:=by
   intro y hy
   cases ha:args[0]? with
   |none=>rw [ha] at hy;cases hy
   |some x=>rw [ha] at hy;injection hy with hy;subst hy;exact ⟨_,rfl,hρ x⟩
  split at h
  ·rename_i s hd hx
   injection h with h;subst h
   obtain ⟨vx,h1,h2⟩:=hget _ hx
   have:=qy1 h2
   subst this
   exact ⟨_,.c (.int _ _),key _ _ _ hd h1 (.inl ⟨rfl,s,rfl,rfl⟩)⟩
  ·rename_i e es hd hx
   injection h with h;subst h
   obtain ⟨vx,h1,h2⟩:=hget _ hx
   cases h2 with|c h2=>cases h2 with
    |sl A n c k' b off U _ hl hc hm hk' hA hz hr hN =>
     subst hl
     exact ⟨_,.c (.int _ _),key _ _ _ hd h1 (.inr ⟨⟨e,rfl⟩,_,_,rfl⟩)⟩
  ·rename_i e hd hx
   injection h with h;subst h
   obtain ⟨vx,h1,h2⟩:=hget _ hx
   cases h2 with|c h2=>cases h2;exact ⟨_,.c (.int _ _),key _ _ 0 hd h1 (.inr ⟨⟨e,rfl⟩,_,_,rfl⟩)⟩
  ·rename_i e hd hx
   injection h with h;subst h
   obtain ⟨vx,h1,h2⟩:=hget _ hx
   cases h2 with|c h2=>cases h2;exact ⟨_,.c (.int _ _),key _ _ 0 hd h1 (.inr ⟨⟨e,rfl⟩,_,_,rfl⟩)⟩
  ·rename_i e hd hx
   injection h with h;subst h
   obtain ⟨vx,h1,h2⟩:=hget _ hx
   cases h2 with|c h2=>cases h2;exact ⟨_,.c (.int _ _),key _ _ 0 hd h1 (.inr ⟨⟨e,rfl⟩,_,_,rfl⟩)⟩
  ·rename_i e id n hd hx
   injection h with h;subst h
   obtain ⟨vx,h1,h2⟩:=hget _ hx
   cases h2 with
   |row _ _ A c hm hA=>exact ⟨_,.c (.int _ _),key _ _ n hd h1 (.inr ⟨⟨e,rfl⟩,_,_,rfl⟩)⟩
   |row0 _ A hm=>exact ⟨_,.c (.int _ _),key _ _ 0 hd h1 (.inr ⟨⟨e,rfl⟩,_,_,rfl⟩)⟩
  ·rename_i e id hd hx
   injection h with h;subst h
   obtain ⟨vx,h1,h2⟩:=hget _ hx
   cases h2 with
   |rowE _ g n c hm hc=>exact ⟨_,.c (.int _ _),key _ _ 0 hd h1 (.inr ⟨⟨e,rfl⟩,_,_,rfl⟩)⟩
  ·cases h
 ·rename_i args ats
  split at h
  ·rename_i x y hx
   obtain ⟨a,b,hab⟩:∃ a b,args.toList=[a,b]:=by
    match args,hx with
    |⟨[a,b]⟩,_=>exact ⟨a,b,rfl⟩
   have ha:args=#[a,b]:=by rw [←Array.toList_inj];exact hab
   subst ha
   simp at hx
   obtain ⟨rfl,rfl⟩:=hx
   obtain ⟨cv,h1,h2⟩:=qsu (P:=P) h (hρ a) (hρ b)
   exact ⟨cv,h1,λw=>by have:=h2 w;simp only [x1q,x21q,Builtin.min_] at this;simp [execOp,resolve,invoke,builtin,Builtin.min_] at this ⊢;rw [this];rfl⟩
  ·cases h
 ·rename_i args ats
  split at h
  ·rename_i x y hx
   obtain ⟨a,b,hab⟩:∃ a b,args.toList=[a,b]:=by
    match args,hx with
    |⟨[a,b]⟩,_=>exact ⟨a,b,rfl⟩
   have ha:args=#[a,b]:=by rw [←Array.toList_inj];exact hab
   subst ha
   simp at hx
   obtain ⟨rfl,rfl⟩:=hx
   obtain ⟨cv,h1,h2⟩:=qsu (P:=P) h (hρ a) (hρ b)
   exact ⟨cv,h1,λw=>by have:=h2 w;simp only [x20q,Builtin.max_] at this;simp [execOp,resolve,invoke,builtin,Builtin.max_] at this ⊢;rw [this];rfl⟩
  ·cases h
 ·cases h
end
end Go.Proofs.YtmlcmoaonaomfaaGreatDoor
