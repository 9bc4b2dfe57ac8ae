/- A region that draws its order comes to what the machine says, in every order. -/
import Derived.Test.YtmlcmoaonaomfaaGreatDoorDComm
namespace Go.Proofs.YtmlcmoaonaomfaaGreatDoor
open Go.RowKit
section
variable {P:Program} {call:HP} {nt:Nat} {ops:Array Oper} {an:Nat->Nat} {rb:Nat}
theorem q18j {i:Nat} {o:Oper} {s s':St} (h:stepD P call nt ops an rb i o s=some s'):∀ q,q≠i->(noLog s q ↔ noLog s' q):=by
 intro q hq
 rw [q18i] at h
 split at h
 ·cases he:evD P call nt ops (visB s.h rb (an i)) (rb+8*i) o s with
  |none=>rw [he] at h;cases h
  |some e =>
   rw [he] at h
   injection h with h;subst h
   simp only [noLog,afD,upd,hq,x21q]
 ·cases h
variable (P call nt ops an rb) in
def st1 (j:Nat) (s:St):Oq St:=(ops[j]?).bind λo=>stepD P call nt ops an rb j o s
theorem q145 {j:Nat} {js:List Nat} {s:St}:runD P call nt ops an rb (j::js) s=(st1 P call nt ops an rb j s).bind (runD P call nt ops an rb js):=rfl
theorem q187 {i:Nat} {s s':St} (h:st1 P call nt ops an rb i s=some s'):∀ q,q≠i->(noLog s q ↔ noLog s' q):=by
 unfold st1 at h
 cases ho:ops[i]? with
 |none=>rw [ho] at h;cases h
 |some o=>rw [ho] at h;exact q18j h
theorem q186 {i j:Nat} {s:St} (hi:i<ops.size) (hj:j<ops.size) (hij:i≠j) (hord:ordB an i j=false) (hf:freeB P call.io ops (ops.getD i default) (ops.getD j default)=true) (hlv:∀ o∈ops.toList,∀ q b,o.dst=some q->q ∉ call.lv b) (l1:noLog s i) (l2:noLog s j) :
  (st1 P call nt ops an rb i s).bind (st1 P call nt ops an rb j)=(st1 P call nt ops an rb j s).bind (st1 P call nt ops an rb i):=by
 have ei:ops[i]?=some (ops.getD i default):=by simp [Array.getElem?_eq_getElem hi]
 have ej:ops[j]?=some (ops.getD j default):=by simp [Array.getElem?_eq_getElem hj]
 have f:∀ k o,ops[k]?=some o->st1 P call nt ops an rb k=stepD P call nt ops an rb k o:=λk o ho=>by funext s;simp [st1,ho]
 rw [f i _ ei,f j _ ej]
 exact comm hi hj hij hord hf (hlv _ (by simp [hi])) (hlv _ (by simp [hj])) l1 l2
theorem front (hlv:∀ o∈ops.toList,∀ q b,o.dst=some q->q ∉ call.lv b):∀ (l1:List Nat) {l2:List Nat} {i:Nat} {s:St},i<ops.size->(∀ j∈l1,j<ops.size/\j≠i/\ordB an j i=false/\freeB P call.io ops (ops.getD j default) (ops.getD i default)=true)->l1.Nodup->noLog s i->(∀ j∈l1,noLog s j) ->
  runD P call nt ops an rb (l1++i::l2) s=runD P call nt ops an rb (i::(l1++l2)) s
 |[],_,_,_,_,_,_,_,_=>rfl
 |j::l1,l2,i,s,hi,hc,hn,li,lj=>by
  obtain ⟨hjs,hji,hord,hf⟩:=hc j (by simp)
  rw [List.cons_append,q145,List.cons_append,q145]
  have e1:(st1 P call nt ops an rb j s).bind (runD P call nt ops an rb (l1++i::l2))=(st1 P call nt ops an rb j s).bind (runD P call nt ops an rb (i::(l1++l2))):=by
   cases hs:st1 P call nt ops an rb j s with
   |none=>rfl
   |some s' =>
    simp only [x0q]
    exact front hlv l1 hi (λq hq=>hc q (by simp [hq])) (List.nodup_cons.1 hn).2 ((q187 hs i (Ne.symm hji)).1 li) (λq hq=>(q187 hs q (λe=>(List.nodup_cons.1 hn).1 (e ▸ hq))).1 (lj q (by simp [hq])))
  rw [e1]
  have e2:runD P call nt ops an rb (i::(l1++l2))=λs=>(st1 P call nt ops an rb i s).bind (runD P call nt ops an rb (l1++l2)):=rfl
  have e3:runD P call nt ops an rb (j::(l1++l2))=λs=>(st1 P call nt ops an rb j s).bind (runD P call nt ops an rb (l1++l2)):=rfl
  rw [e2,e3,←Option.bind_assoc,←Option.bind_assoc,q186 hjs hi hji hord hf hlv (lj j (by simp)) li]
theorem qrm {acc:List Nat} {q:Nat}:∀ (l:List Edge),(l.foldr (λe s=>if Region.binds .any e then (1 <<< e.on) ||| (acc.getD e.on 0 ||| s) else s) 0).testBit q=true ↔ ∃ e∈l,Region.binds .any e=true/\(e.on=q∨(acc.getD e.on 0).testBit q=true)
 |[]=>by simp
 |e::l=>by
  simp only [List.foldr_cons,List.mem_cons,exists_eq_or_imp]
  have ih:=qrm (acc:=acc) (q:=q) l
  generalize l.foldr (λe s=>if Region.binds .any e then (1 <<< e.on) ||| (acc.getD e.on 0 ||| s) else s) 0=F at ih ⊢
  generalize acc.getD e.on 0=G
  by_cases hb:Region.binds .any e=true
  ·rw [if_pos hb,Nat.one_shiftLeft,Nat.testBit_or,Nat.testBit_or,Nat.testBit_two_pow,Bool.or_eq_true,Bool.or_eq_true,ih,decide_eq_true_eq]
   constructor
   ·rintro (h|h|h)
    ·exact .inl ⟨hb,.inl h⟩
    ·exact .inl ⟨hb,.inr h⟩
    ·exact .inr h
   ·rintro (⟨_,h|h⟩|h)
    ·exact .inl h
    ·exact .inr (.inl h)
    ·exact .inr (.inr h)
  ·rw [if_neg hb,ih]
   exact ⟨.inr,λh=>h.elim (λh=>absurd h.1 hb) id⟩
theorem q7h:∀ (l:List Oper) (acc:List Nat),∃ r,befL l acc=acc++r/\r.length=l.length/\∀ k o,l[k]?=some o->r[k]?=some (maskOf o ((befL l acc).take (acc.length+k)))
 |[],acc=>⟨[],by simp [befL],rfl,by simp⟩
 |o::l,acc=>by
  obtain ⟨r,h1,h2,h3⟩:=q7h l (acc++[maskOf o acc])
  refine ⟨maskOf o acc::r,by simp [befL,h1],by simp [h2],λk o' ho=>?_⟩
  cases k with
  |zero =>
   simp at ho
   subst ho
   simp only [List.getElem?_cons_zero,befL,h1,Nat.add_zero,Option.some.injEq]
   rw [List.append_assoc,List.take_left]
  |succ k =>
   have:=h3 k o' (by simpa using ho)
   simp only [x12q,x9q,x8q] at this
   simp only [List.getElem?_cons_succ,befL]
   rw [show acc.length+(k+1)=acc.length+(0+1)+k from by omega]
   exact this
theorem an_bit {j q:Nat} {o:Oper} (ho:ops[j]?=some o) (hlt:∀ e∈o.after,Region.binds .any e=true->e.on<j) (h:(anOf ops j).testBit q=true):∃ e∈o.after,Region.binds .any e=true/\(e.on=q∨(anOf ops e.on).testBit q=true):=by
 obtain ⟨r,h1,h2,h3⟩:=q7h ops.toList []
 have hj:=h3 j o (by simpa using ho)
 simp only [List.nil_append,x8q,x13q] at h1 hj
 have e1:anOf ops j=maskOf o ((befL ops.toList []).take j):=by
  unfold anOf
  rw [h1] at hj ⊢
  rw [x2q,hj]
  rfl
 rw [e1] at h
 unfold maskOf at h
 rw [qrm] at h
 obtain ⟨e,he,hb,hq⟩:=h
 refine ⟨e,by simpa using he,hb,hq.imp id (λhq=>?_)⟩
 have hlt':=hlt e (by simpa using he) hb
 unfold anOf
 rw [x2q,List.getElem?_take,if_pos hlt'] at hq
 rw [x2q]
 exact hq
def downC (ops:Array Oper) (listed:Array Bool):Prop:=∀ j o,ops[j]?=some o->listed.getD j false=true->∀ e∈o.after,Region.binds .any e=true->listed.getD e.on false=true
def edgesOk (ops:Array Oper):Prop:=∀ (j:Nat) o,ops[j]?=some o->∀ e∈o.after,Region.binds .any e=true->e.on<j
theorem q3q (he:edgesOk ops) {listed:Array Bool} (hd:downC ops listed):∀ (n j:Nat),j<n->j<ops.size->(∀ o,ops[j]?=some o->∀ e∈o.after,Region.binds .any e=true->listed.getD e.on false=true)->∀ q,(anOf ops j).testBit q=true->listed.getD q false=true
 |0,j,hn,_,_,_,_=>by omega
 |n+1,j,hn,hj,hp,q,hq=>by
  have ho:ops[j]?=some (ops[j]):=Array.getElem?_eq_getElem hj
  obtain ⟨e,hem,hb,hq'⟩:=an_bit ho (he j _ ho) hq
  have hlt:=he j _ ho e hem hb
  have hl:=hp _ ho e hem hb
  rcases hq' with rfl|hq'
  ·exact hl
  ·exact q3q he hd n e.on (by omega) (by omega) (λo ho e' he' hb'=>hd e.on o ho hl e' he' hb') q hq'
theorem an_lt (he:edgesOk ops):∀ (n j:Nat),j<n->j<ops.size->∀ q,(anOf ops j).testBit q=true->q<j
 |0,j,hn,_,_,_=>by omega
 |n+1,j,hn,hj,q,hq=>by
  have ho:ops[j]?=some (ops[j]):=Array.getElem?_eq_getElem hj
  obtain ⟨e,hem,hb,hq'⟩:=an_bit ho (he j _ ho) hq
  have hlt:=he j _ ho e hem hb
  rcases hq' with rfl|hq'
  ·exact hlt
  ·have:=an_lt he n e.on (by omega) (by omega) q hq';omega
def remL (n:Nat) (listed:Array Bool):List Nat:=(List.range n).filter λi=>!listed.getD i true
theorem qrr {n i:Nat} {listed:Array Bool}:i∈remL n listed ↔ i<n/\listed.getD i true=false:=by simp [remL]
theorem qxq {n i:Nat} {listed:Array Bool} {l1 l2:List Nat} (hs:listed.size=n) (h:remL n listed=l1++i::l2):remL n (listed.setIfInBounds i true)=l1++l2:=by
 have hnd:(l1++i::l2).Nodup:=by rw [←h];exact List.Pairwise.filter _ List.nodup_range
 have hi:i∈remL n listed:=by rw [h];simp
 have e:remL n (listed.setIfInBounds i true)=(remL n listed).filter (λj=>j != i):=by
  unfold remL
  rw [List.filter_filter]
  apply List.filter_congr
  intro j hj
  by_cases hji:j=i
  ·subst hji
   have:j<listed.size:=by rw [hs];simpa using hj
   simp [this]
  ·simp [Array.getElem?_setIfInBounds_ne (Ne.symm hji),hji]
 rw [e,h,List.filter_append,List.filter_cons]
 have hn1:∀ j∈l1,(j != i)=true:=λj hj=>by
  have:=(List.nodup_append.1 hnd).2.2 j hj i (by simp)
  simpa using this
 have hn2:∀ j∈l2,(j != i)=true:=λj hj=>by
  have:=(List.nodup_cons.1 (List.nodup_append.1 hnd).2.1).1
  simp;intro e;subst e;exact this hj
 rw [List.filter_eq_self.2 hn1,List.filter_eq_self.2 hn2]
 simp
end
section
variable {P:Program} {Y:ZMap} {w0:WB} {call:HP} {nt:Nat} {ops:Array Oper} {rb:Nat} {Q:Exit->Act->World->Prop}
theorem q3r {D:List Deferred} {G:Nat->Oq Value} (hcall:∀ g args res,call.call g args=some res->CallOk P g args res) (hch:∀ f g args s0 v s1,call.ch f=some g->g args s0=some (v,s1)->HeapOk P f args s0 v s1) (hNN:rb+8*ops.size<=call.N) (hlv:∀ o∈ops.toList,∀ q b,o.dst=some q->q ∉ call.lv b) (he:edgesOk ops) (hfree:∀ i j,i<j->j<ops.size->(anOf ops j).testBit i=true∨freeB P call.io ops (ops.getD i default) (ops.getD j default)=true) {s':St} {Z0:ZMap} {m0:Nat->Oq Value}
  (hQ:∀ a' w' Z' m',ZUp w0 Z0 Z'->MLe m0 m'->(∀ i,m' i≠none->i<rb+8*ops.size)->FrS D G w0 Z' Y m' nt s' a' w'->Q .normal a' w') :
  ∀ (fuel:Nat) (listed:Array Bool) {Z:ZMap} {m:Nat->Oq Value} {s:St} {a:Act} {w:World},listed.size=ops.size->(remL ops.size listed).length=fuel->downC ops listed->FrS D G w0 Z Y m nt s a w->ZUp w0 Z0 Z->MLe m0 m->(∀ i,m i≠none->i<rb∨∃ j,j<ops.size/\listed.getD j true=true/\rb+8*j<=i/\i<rb+8*j+8) ->
   (∀ i∈remL ops.size listed,noLog s i)->runD P call nt ops (anOf ops) rb (remL ops.size listed) s=some s'->wpAny P .any ops Q fuel listed a w:=by
 intro fuel
 induction fuel with
 |zero =>
  intro listed Z m s a w hs hl hd F hz hm hu hn hr
  have h0:remL ops.size listed=[]:=List.eq_nil_of_length_eq_zero hl
  rw [h0] at hr
  injection hr with hr;subst hr
  refine ⟨?_,hQ a w Z m hz hm (λi hi=>?_) F⟩
  ·rw [List.eq_nil_iff_forall_not_mem]
   intro i hi
   obtain ⟨hl',o,ho,_⟩:=mem_ready.1 hi
   have:i∈remL ops.size listed:=qrr.2 ⟨(Array.getElem?_eq_some_iff.1 ho).1,hl'⟩
   rw [h0] at this;cases this
  ·rcases hu i hi with h|⟨j,hj,_,h1,h2⟩ <;> omega
 |succ fuel ih =>
  intro listed Z m s a w hs hl hd F hz hm hu hn hr
  refine ⟨λh0=>?_,λi hi=>?_⟩
  ·-- something is ready
   exfalso
   cases hrem:remL ops.size listed with
   |nil=>rw [hrem] at hl;cases hl
   |cons i0 rest =>
    have hmem:i0∈remL ops.size listed:=by rw [hrem];simp
    obtain ⟨hi0,hl0⟩:=qrr.1 hmem
    have hmin:∀ j,j<i0->listed.getD j false=true:=by
     intro j hj
     cases hc:listed.getD j true with
     |true =>
      have hjs:j<listed.size:=by omega
      simpa [hjs] using hc
     |false =>
      have hjm:j∈remL ops.size listed:=qrr.2 ⟨by omega,hc⟩
      rw [hrem] at hjm
      have hp:(i0::rest).Pairwise (·<·):=by rw [←hrem];exact List.Pairwise.filter _ List.pairwise_lt_range
      rcases List.mem_cons.1 hjm with h|h
      ·omega
      ·have:=(List.pairwise_cons.1 hp).1 j h;omega
    have ho:ops[i0]?=some (ops[i0]):=Array.getElem?_eq_getElem hi0
    have:i0∈Region.ready .any ops listed:=mem_ready.2 ⟨hl0,_,ho,λe hem hb=>hmin _ (he i0 _ ho e hem hb)⟩
    rw [h0] at this;cases this
  ·obtain ⟨hl',o,ho,hpre⟩:=mem_ready.1 hi
   have his:i<ops.size:=(Array.getElem?_eq_some_iff.1 ho).1
   have hmem:i∈remL ops.size listed:=qrr.2 ⟨his,hl'⟩
   obtain ⟨l1,l2,hsplit⟩:=List.append_of_mem hmem
   have hp:(l1++i::l2).Pairwise (·<·):=by rw [←hsplit];exact List.Pairwise.filter _ List.pairwise_lt_range
   have hnd:(l1++i::l2).Nodup:=by rw [←hsplit];exact List.Pairwise.filter _ List.nodup_range
   have hl1:∀ j∈l1,j<ops.size/\j≠i/\ordB (anOf ops) j i=false/\freeB P call.io ops (ops.getD j default) (ops.getD i default)=true:=by
    intro j hj
    have hlt:j<i:=(List.pairwise_append.1 hp).2.2 j hj i (by simp)
    have hjm:j∈remL ops.size listed:=by rw [hsplit];simp [hj]
    have hjl:=(qrr.1 hjm).2
    have hb1:(anOf ops i).testBit j=false:=by
     cases hb:(anOf ops i).testBit j with
     |false=>rfl
     |true =>
      have:=q3q he hd (i+1) i (by omega) his (λo' ho' e hem hbb=>by rw [ho] at ho';injection ho' with ho';subst ho';exact hpre e hem hbb) j hb
      have hjs:j<listed.size:=by omega
      simp [hjs] at this hjl
      rw [this] at hjl;cases hjl
    have hb2:(anOf ops j).testBit i=false:=by
     cases hb:(anOf ops j).testBit i with
     |false=>rfl
     |true=>have:=an_lt he (j+1) j (by omega) (by omega) i hb;omega
    refine ⟨by omega,by omega,?_,?_⟩
    ·unfold ordB
     rw [hb1,hb2]
     simp
     omega
    ·rcases hfree j i hlt his with h|h
     ·rw [hb1] at h;cases h
     ·exact h
   have hr':=hr
   rw [hsplit,front hlv l1 his hl1 (List.nodup_append.1 hnd).1 (hn i hmem) (λj hj=>hn j (by rw [hsplit];simp [hj]))] at hr'
   rw [q145] at hr'
   cases hst:st1 P call nt ops (anOf ops) rb i s with
   |none=>rw [hst] at hr';cases hr'
   |some s1 =>
    rw [hst] at hr'
    simp only [x0q] at hr'
    have hst':stepD P call nt ops (anOf ops) rb i o s=some s1:=by simpa [st1,ho] using hst
    have hlogs:=q18j hst'
    unfold stepD at hst'
    split at hst'
    case isFalse=>cases hst'
    cases hop:opD P call nt ops (visB s.h rb (anOf ops i)) (rb+8*i) o s with
    |none=>rw [hop] at hst';cases hst'
    |some s2 =>
     rw [hop] at hst'
     injection hst' with hst'
     have hfr:∀ q,rb+8*i<=q->q<rb+8*i+8->m q=none/\s.h q=none:=λq h1 h2=>by
      have hmq:m q=none:=by
       cases hc:m q with
       |none=>rfl
       |some v =>
        rcases hu q (by rw [hc];simp) with h|⟨j,_,hjl,h3,h4⟩
        ·omega
        ·have:j=i:=by omega
         subst this
         rw [hl'] at hjl;cases hjl
      refine ⟨hmq,?_⟩
      cases hc:s.h q with
      |none=>rfl
      |some b=>exact absurd hmq (F.rel.m_of_h (by rw [hc];simp))
     have hset:=qxq hs hsplit
     unfold wpOp
     rw [ho]
     simp only
     have key:=quf (K:=wpAny P .any ops Q fuel (listed.setIfInBounds i true)) (Q:=Q) hcall (λ_=>hch) (λ_ q hq=>by rcases hu q hq with h|⟨j,hj,_,h1,h2⟩ <;> omega) F (hv:=visB s.h rb (anOf ops i)) (λid b hb=>by simp only [visB] at hb;split at hb;(exact hb);(cases hb)) hfr hop (λa' w' Z' m' u1 u2 u3 F'=>by
      refine ih (listed.setIfInBounds i true) (s:=s1) (by simp [hs]) (by rw [hset];have:=hl;rw [hsplit] at this;simp at this ⊢;omega) ?_ ?_ (hz.trans u1) (hm.trans u2) ?_ ?_ (by rw [hset];exact hr')
      ·intro j o' ho' hlj e hem hb
       by_cases hji:j=i
       ·subst hji
        rw [ho] at ho'
        injection ho' with ho';subst ho'
        exact getD_set_true (hpre e hem hb)
       ·rw [getD_set_ne false (Ne.symm hji)] at hlj
        exact getD_set_true (hd j o' ho' hlj e hem hb)
      ·rw [←hst']
       exact ⟨F'.fr,F'.rel,F'.og,F'.df⟩
      ·intro q hq
       rcases u3 q hq with h|h
       ·rcases hu q h with h|⟨j,h1,h2,h3,h4⟩
        ·exact .inl h
        ·refine .inr ⟨j,h1,?_,h3,h4⟩
         by_cases hji:j=i
         ·subst hji;rw [hl'] at h2;cases h2
         ·rw [getD_set_ne true (Ne.symm hji)];exact h2
       ·exact .inr ⟨i,his,by simp [hs,his],by omega,by omega⟩
      ·intro q hq
       rw [hset] at hq
       have hqi:q≠i:=by
        intro e;subst e
        rcases List.mem_append.1 hq with h|h
        ·exact (List.nodup_append.1 hnd).2.2 q h q (by simp) rfl
        ·exact (List.nodup_cons.1 (List.nodup_append.1 hnd).2.1).1 h
       exact (hlogs q hqi).1 (hn q (by rw [hsplit];rcases List.mem_append.1 hq with h|h <;> simp [h])))
     split at key
     ·rename_i hw;rw [if_pos hw];exact .inl key
     ·rename_i hw;rw [if_neg hw];exact key
theorem qcq {io:FuncId->Bool} {lv:Nat->List Nat} (h:drawOk P io lv ops=true):edgesOk ops/\∀ i j,i<j->j<ops.size->(anOf ops j).testBit i=true∨freeB P io ops (ops.getD i default) (ops.getD j default)=true:=by
 unfold drawOk at h
 rw [x6q] at h
 replace h:=h.1
 simp only [x6q,List.all_eq_true,List.mem_range,Bool.or_eq_true] at h
 refine ⟨λj o ho e he hb=>?_,λi j hij hj=>(h.2 j hj).2 i hij⟩
 have hj:j<ops.size:=(Array.getElem?_eq_some_iff.1 ho).1
 have hd:ops.getD j default=o:=by
  have:=(Array.getElem?_eq_some_iff.1 ho).2
  simp [hj,this]
 have:=(h.2 j hj).1
 rw [hd] at this
 have:=this e (by simpa using he)
 simpa [hb] using this
theorem qr9 {io:FuncId->Bool} {lv:Nat->List Nat} (h:drawOk P io lv ops=true):∀ o∈ops.toList,∀ q b,o.dst=some q->q ∉ lvD io lv ops rb b:=by
 intro o ho q b hq hm
 unfold drawOk at h
 rw [x6q] at h
 have h2:=h.2
 by_cases hj:(b - rb) / 8<ops.size
 ·have h3:=List.all_eq_true.1 h2 ((b - rb) / 8) (List.mem_range.2 hj)
  have e:lvD io lv ops 0 (8*((b - rb) / 8))=lvD io lv ops rb b:=by
   unfold lvD
   simp only [Nat.sub_zero,Nat.mul_div_cancel_left _ (show 0<8 by omega)]
  rw [e] at h3
  have h4:=List.all_eq_true.1 (List.all_eq_true.1 h3 q hm) o ho
  rw [hq] at h4
  simp at h4
 ·unfold lvD at hm
  rw [show ops.getD ((b - rb) / 8) default=default by simp [hj]] at hm
  have:isIo io (default:Oper).op=false:=rfl
  rw [this] at hm
  cases hm
theorem qcr {D:List Deferred} {G:Nat->Oq Value} (hmo:P.follows .mixedOrders=true) {cl:FuncId->List V->Oq (V×List B)} {io:FuncId->Bool} {ch:FuncId->Oq (List V->St->Oq (V×St))} {lv:Nat->List Nat} (hcall:∀ g args res,cl g args=some res->CallOk P g args res) (hch:∀ f g args s0 v s1,ch f=some g->g args s0=some (v,s1)->HeapOk P f args s0 v s1) {id:Nat} {Z:ZMap} {m:Nat->Oq Value} {s s':St} {a:Act} {w:World} (F:FrS D G w0 Z Y m nt s a w) (hu:∀ i,m i≠none->i<s.nx) (hd:drawOk P io lv ops=true)
  (hr:runD P ⟨cl,io,ch,lvD io lv ops s.nx,s.nx+8*ops.size⟩ nt ops (anOf ops) s.nx (List.range ops.size) { s with lr:=λ_=>[],lw:=λ_=>[] }=some s')
  (hQ:∀ a' w' Z' m',ZUp w0 Z Z'->MLe m m'->(∀ i,m' i≠none->i<s.nx+8*ops.size)->FrS D G w0 Z' Y m' nt s' a' w'->Q .normal a' w'):(Code.region id ops true).wp P Q a w:=by
 obtain ⟨h1,h2⟩:=qcq hd
 have hrem:remL ops.size (Array.replicate ops.size false)=List.range ops.size:=by
  unfold remL
  rw [List.filter_eq_self]
  intro i hi
  have:i<ops.size:=by simpa using hi
  simp [this]
 refine wp_region_any hmo ?_
 have F':FrS D G w0 Z Y m nt { s with lr:=λ_=>[],lw:=λ_=>[] } a { w with drawn:=w.drawn+1 }:=⟨F.fr,F.rel.later (Bel.refl w).drew,F.og,F.df⟩
 exact q3r (call:=⟨cl,io,ch,lvD io lv ops s.nx,s.nx+8*ops.size⟩) hcall hch (Nat.le_refl _) (qr9 hd) h1 h2 hQ ops.size (Array.replicate ops.size false) (by simp) (by rw [hrem];simp) (λj o _ hl=>by simp [Array.getElem?_replicate] at hl;split at hl <;> simp at hl) F' ZUp.refl (MLe.refl m) (λi hi=>.inl (hu i hi)) (λi _=>⟨rfl,rfl⟩) (by rw [hrem];exact hr)
end
end Go.Proofs.YtmlcmoaonaomfaaGreatDoor
namespace Go.Proofs.YtmlcmoaonaomfaaGreatDoor
open Go.RowKit
section
variable {P:Program} {Z Y:ZMap} {m m':Nat->Oq Value} {w0:WB} {w w':World} {h hv:Nat->Oq B} {sh:Nat->Bool}
def nilM (nid:Nat) (m:Nat->Oq Value):Nat->Oq Value:=λid=>if id<nid then m id else some (.slice none 0 0)
theorem qtc {nid:Nat} (hu:∀ i,m i≠none->i<nid):MLe m (nilM nid m):=λi v hi=>by
 simp only [nilM];rw [if_pos (hu i (by rw [hi];simp))];exact hi
theorem qt9 {nid q:Nat} (hu:∀ i,m i≠none->i<nid) (hq:nid<=q) {v:Value} {x:V} (h:Rep Z Y m v x):Rep Z Y (nilM nid m) v (nilC q x):=by
 have h':=h.mono (ZLe.refl Z) (qtc hu)
 unfold nilC
 split
 ·cases h with|c h =>
  cases h
  exact .row q 0 none 0 (by simp [nilM];omega) (by simp)
 ·cases h with|c h =>
  cases h with
  |zs A=>exact .row0 q A (by simp [nilM];omega)
 ·exact h'
theorem qta {nid:Nat} (hu:∀ i,m i≠none->i<nid):∀ (cs:List V) (q:Nat),nid<=q->(nilL q cs).length=cs.length/\∀ (i:Nat) (u:Value) x y,cs[i]?=some y->(nilL q cs)[i]?=some x->Rep Z Y m u y->Rep Z Y (nilM nid m) u x
 |[],q,_=>⟨rfl,by simp⟩
 |c::cs,q,hq=>by
  obtain ⟨h1,h2⟩:=qta hu cs (q+1) (by omega)
  refine ⟨by simp [nilL,h1],λi u x y hy hx r=>?_⟩
  cases i with
  |zero=>simp [nilL] at hx hy;subst hx hy;exact qt9 hu hq r
  |succ i=>exact h2 i u x y (by simpa using hy) (by simpa [nilL] using hx) r
theorem qtb {nid q:Nat} (hu:∀ i,m i≠none->i<nid) (hq:nid<=q) {cs:List V} {vs:Array Value} (h:Rep Z Y m (.agg vs) (.agg cs)):Rep Z Y (nilM nid m) (.agg vs) (.agg (nilL q cs)):=by
 obtain ⟨h1,h2⟩:=qta (Z:=Z) (Y:=Y) hu cs q hq
 cases h with
 |agg _ _ hl ho hr =>
  refine .agg vs _ (by rw [h1];exact hl) ho (λi u x hu' hx=>?_)
  have hi:i<cs.length:=by rw [←h1];exact (List.getElem?_eq_some_iff.1 hx).1
  exact h2 i u x _ (List.getElem?_eq_getElem hi) hx (hr i u _ hu' (List.getElem?_eq_getElem hi))
theorem qt7 {nid q:Nat} (hu:∀ i,m i≠none->i<nid) (hq:nid<=q) {v:Value} {x:V} (h:Rep Z Y m v x):Rep Z Y (nilM nid m) v (nilA q x):=by
 unfold nilA
 split
 ·cases h with
  |agg vs _ hl ho hr=>exact qtb hu hq (.agg vs _ hl ho hr)
 ·exact qt9 hu hq h
theorem qt8 {nid:Nat} (hu:∀ i,m i≠none->i<nid):∀ (cs:List V) (q:Nat),nid<=q->(nilAs q cs).length=cs.length/\∀ (i:Nat) (u:Value) x y,cs[i]?=some y->(nilAs q cs)[i]?=some x->Rep Z Y m u y->Rep Z Y (nilM nid m) u x
 |[],q,_=>⟨rfl,by simp⟩
 |c::cs,q,hq=>by
  obtain ⟨h1,h2⟩:=qt8 hu cs (q+100) (by omega)
  refine ⟨by simp [nilAs,h1],λi u x y hy hx r=>?_⟩
  cases i with
  |zero=>simp [nilAs] at hx hy;subst hx hy;exact qt7 hu hq r
  |succ i=>exact h2 i u x y (by simpa using hy) (by simpa [nilAs] using hx) r
theorem qtd {nid q:Nat} (hu:∀ i,m i≠none->i<nid) (hq:nid<=q) {v:Value} {x:V} (h:Rep Z Y m v x):Rep Z Y (nilM nid m) v (nilT q x):=by
 unfold nilT
 split
 ·rename_i vs
  obtain ⟨h1,h2⟩:=qt8 (Z:=Z) (Y:=Y) hu vs q hq
  cases h with
  |tup us _ hl hr =>
   refine .tup us _ (by rw [h1];exact hl) (λi u x hu' hx=>?_)
   have hi:i<vs.length:=by rw [←h1];exact (List.getElem?_eq_some_iff.1 hx).1
   exact h2 i u x _ (List.getElem?_eq_getElem hi) hx (hr i u _ hu' (List.getElem?_eq_getElem hi))
 ·exact qt7 hu hq h
theorem Rel.nils (R:Rel w0 Z Y m h sh w) {nid:Nat} (hu:∀ i,m i≠none->i<nid):Rel w0 Z Y (nilM nid m) (nilH nid h) (nilSh nid sh) w:=by
 have hle:=qtc hu
 refine ⟨R.bel,R.gw,R.zok,R.yok,λid cs hi=>?_,λid es hi=>?_,λid es i v hi=>?_,λid l hi=>?_,λid id' g h1 h2 e1 e2=>?_⟩
 ·unfold nilH at hi
  split at hi
  ·rename_i hlt
   cases hb:h id with
   |none=>rw [hb] at hi;cases hi
   |some b =>
    rw [hb] at hi
    injection hi with hi
    cases b with
    |mp l'=>cases hi
    |row es=>cases hi
    |tab es i v=>cases hi
    |box cs0 =>
     injection hi with hi;subst hi
     obtain ⟨g,hm,hat⟩:=R.box id cs0 hb
     obtain ⟨t,vs,hv,hr⟩:=hat.ex
     exact ⟨g,hle _ _ hm,⟨hat.base,⟨t,vs,hv,qtb hu (by omega) hr⟩,hat.apart⟩⟩
  ·cases hi
 ·unfold nilH at hi
  split at hi
  ·rename_i hlt
   cases hb:h id with
   |none=>rw [hb] at hi;cases hi
   |some b =>
    rw [hb] at hi
    injection hi with hi
    cases b with
    |mp l'=>cases hi
    |box cs0=>cases hi
    |tab es i v=>cases hi
    |row es0 =>
     injection hi with hi;subst hi
     have hs:nilSh nid sh id=sh id:=by simp [nilSh,hlt]
     rw [hs]
     rcases R.row id es0 hb with ⟨h0,h1⟩|⟨g,n,c,k,hm,hat⟩
     ·exact .inl ⟨hle _ _ h0,h1⟩
     ·exact .inr ⟨g,n,c,k,hle _ _ hm,hat⟩
  ·rename_i hge
   injection hi with hi;injection hi with hi;subst hi
   exact .inl ⟨by simp [nilM,hge],rfl⟩
 ·unfold nilH at hi
  split at hi
  ·cases hb:h id with
   |none=>rw [hb] at hi;cases hi
   |some b =>
    rw [hb] at hi
    injection hi with hi
    cases b with
    |mp l'=>cases hi
    |row es=>cases hi
    |box cs0=>cases hi
    |tab es0 i0 v0 =>
     injection hi with a1 a2 a3;subst a1 a2 a3
     obtain ⟨g,n,c,hm,hat⟩:=R.tab id _ _ _ hb
     have hat:=hat.up (ZLe.refl _) hle (λ_ h=>h) hat.apart
     obtain ⟨t,fz,cur,hv,hcs,hfz,hcell⟩:=hat.ex
     refine ⟨g,n,c,hle _ _ hm,⟨hat.base,⟨t,fz,cur,hv,hcs,hfz,λq x hx=>?_⟩,by have:=hat.len;simpa [tabC] using this,hat.le,hat.apart⟩⟩
     have hq:q<es0.length:=by have:=(List.getElem?_eq_some_iff.1 hx).1;simpa [tabC] using this
     unfold tabC at hx
     by_cases hqi:q=i0
     ·subst hqi
      rw [List.getElem?_set_self (by simpa using hq)] at hx
      injection hx with hx;subst hx
      obtain ⟨g',n',c',hm',hat'⟩:=R.tab id _ _ _ hb
      rw [hm] at hm'
      injection hm' with hm';injection hm' with a1 a2 a3;injection a1 with a1;injection a1 with a1
      subst a1 a2 a3
      obtain ⟨t',fz',cur',hv',_,_,hcell'⟩:=hat'.ex
      rw [hv] at hv'
      injection hv' with hv';injection hv' with b1 b2 b3;subst b1 b2 b3
      obtain ⟨u,a,b,r⟩:=hcell' q v0 (by unfold tabC;rw [List.getElem?_set_self (by simpa using hq)])
      exact ⟨u,a,b,qt9 hu (by omega) r⟩
     ·rw [List.getElem?_set_ne (Ne.symm hqi)] at hx
      exact hcell q x (by unfold tabC;rw [List.getElem?_set_ne (Ne.symm hqi)];exact hx)
  ·cases hi
 ·unfold nilH at hi
  split at hi
  ·cases hb:h id with
   |none=>rw [hb] at hi;cases hi
   |some b =>
    rw [hb] at hi
    injection hi with hi
    cases b with
    |row es=>cases hi
    |box cs0=>cases hi
    |tab es0 i0 v0=>cases hi
    |mp l' =>
     injection hi with hi;subst hi
     obtain ⟨g,hm,hat⟩:=R.mp id _ hb
     exact ⟨g,hle _ _ hm,hat⟩
  ·cases hi
 ·have hlt:∀ q g,blkOf (nilM nid m) q=some g->q<nid:=λq g hg=>by
   rcases Nat.lt_or_ge q nid with h|h
   ·exact h
   ·simp [blkOf,nilM,Nat.not_lt.2 h] at hg
  have c1:=hlt id g e1
  have c2:=hlt id' g e2
  refine R.inj id id' g ?_ ?_ ?_ ?_
  ·simp [nilH,c1] at h1;exact h1
  ·simp [nilH,c2] at h2;exact h2
  ·simpa [blkOf,nilM,c1] using e1
  ·simpa [blkOf,nilM,c2] using e2
theorem Rel.renum (R:Rel w0 Z Y m h sh w) (l:List Nat) (hl:l.Nodup):Rel w0 Z Y (λj=>(l[j]?).bind m) (λj=>((l[j]?).bind h).map (B.renO (λid=>pos id l))) (λj=>((l[j]?).map sh).getD false) w:=by
 have hm:∀ id j v,pos id l=some j->m id=some v->(λj=>(l[j]?).bind m) j=some v:=λid j v hp hv=>by
  show (l[j]?).bind m=some v
  rw [qv7 hp];exact hv
 refine ⟨R.bel,R.gw,R.zok,R.yok,λj cs hj=>?_,λj es hj=>?_,λj es i v hj=>?_,λj l' hj=>?_,λj j' g h1 h2 e1 e2=>?_⟩
 ·cases hlj:l[j]? with
  |none=>rw [hlj] at hj;cases hj
  |some id =>
   rw [hlj] at hj
   simp only [x0q] at hj
   cases hb:h id with
   |none=>rw [hb] at hj;cases hj
   |some b =>
    rw [hb] at hj
    injection hj with hj
    cases b with
    |mp l'=>cases hj
    |row es=>cases hj
    |tab es i v=>cases hj
    |box cs0 =>
     injection hj with hj;subst hj
     obtain ⟨g,hmg,hat⟩:=R.box id cs0 hb
     obtain ⟨t,vs,hv,hr⟩:=hat.ex
     refine ⟨g,hmg,⟨hat.base,⟨t,vs,hv,?_⟩,hat.apart⟩⟩
     cases hr with
     |agg _ _ hll ho hrr=>exact .agg vs _ (by simp [hll]) ho (qrk (λv x h=>q17 hm h) hrr)
 ·cases hlj:l[j]? with
  |none=>rw [hlj] at hj;cases hj
  |some id =>
   rw [hlj] at hj
   simp only [x0q] at hj
   cases hb:h id with
   |none=>rw [hb] at hj;cases hj
   |some b =>
    rw [hb] at hj
    injection hj with hj
    cases b with
    |mp l'=>cases hj
    |box cs=>cases hj
    |tab es i v=>cases hj
    |row es0 =>
     injection hj with hj;subst hj
     simp only [x18q,Option.getD_some]
     rcases R.row id es0 hb with ⟨h0,h1⟩|⟨g,n,c,k,hmg,hat⟩
     ·exact .inl ⟨by show (l[j]?).bind m=_;rw [hlj];exact h0,h1⟩
     ·exact .inr ⟨g,n,c,k,by show (l[j]?).bind m=_;rw [hlj];exact hmg,hat⟩
 ·cases hlj:l[j]? with
  |none=>rw [hlj] at hj;cases hj
  |some id =>
   rw [hlj] at hj
   simp only [x0q] at hj
   cases hb:h id with
   |none=>rw [hb] at hj;cases hj
   |some b =>
    rw [hb] at hj
    injection hj with hj
    cases b with
    |mp l'=>cases hj
    |box cs=>cases hj
    |row es0=>cases hj
    |tab es0 i0 v0 =>
     injection hj with a1 a2 a3;subst a1 a2 a3
     obtain ⟨g,n,c,hmg,hat⟩:=R.tab id _ _ _ hb
     obtain ⟨t,fz,cur,hv,hcs,hfz,hcell⟩:=hat.ex
     refine ⟨g,n,c,hmg,⟨hat.base,⟨t,fz,cur,hv,hcs,hfz,λq x hx=>?_⟩,by have:=hat.len;simpa [tabC] using this,hat.le,hat.apart⟩⟩
     have hq:q<es0.length:=by have:=(List.getElem?_eq_some_iff.1 hx).1;simpa [tabC] using this
     by_cases hqi:q=i0
     ·subst hqi
      unfold tabC at hx
      rw [List.getElem?_set_self (by simpa using hq)] at hx
      injection hx with hx;subst hx
      obtain ⟨u,a,b,r⟩:=hcell q v0 (by unfold tabC;rw [List.getElem?_set_self (by simpa using hq)])
      exact ⟨u,a,b,q17 hm r⟩
     ·unfold tabC at hx
      rw [List.getElem?_set_ne (Ne.symm hqi)] at hx
      obtain ⟨u,a,b,r⟩:=hcell q x (by unfold tabC;rw [List.getElem?_set_ne (Ne.symm hqi)];exact hx)
      refine ⟨u,a,b,?_⟩
      rw [x14q,List.getElem?_eq_getElem hq] at hx
      injection hx with hx;subst hx
      unfold headV at r ⊢
      split at r
      ·cases r with|c r=>exact .c r
      ·exact .any _
 ·cases hlj:l[j]? with
  |none=>rw [hlj] at hj;cases hj
  |some id =>
   rw [hlj] at hj
   simp only [x0q] at hj
   cases hb:h id with
   |none=>rw [hb] at hj;cases hj
   |some b =>
    rw [hb] at hj
    injection hj with hj
    cases b with
    |box cs=>cases hj
    |row es0=>cases hj
    |tab es0 i0 v0=>cases hj
    |mp l0 =>
     injection hj with hj;subst hj
     obtain ⟨g,hmg,hat⟩:=R.mp id _ hb
     exact ⟨g,hmg,hat⟩
 ·have key:∀ q,((l[q]?).bind h).map (B.renO (λid=>pos id l))≠none->blkOf (λj=>(l[j]?).bind m) q=some g->∃ id,l[q]?=some id/\h id≠none/\blkOf m id=some g:=by
   intro q hq hg
   cases hlq:l[q]? with
   |none=>rw [hlq] at hq;exact absurd rfl hq
   |some id =>
    refine ⟨id,rfl,?_,?_⟩
    ·rw [hlq] at hq
     intro hn
     rw [x0q,hn] at hq
     exact hq rfl
    ·simpa [blkOf,hlq] using hg
  obtain ⟨id,a1,a2,a3⟩:=key j h1 e1
  obtain ⟨id',b1,b2,b3⟩:=key j' h2 e2
  have:=R.inj id id' g a2 b2 a3 b3
  subst this
  obtain ⟨hj,q1⟩:=List.getElem?_eq_some_iff.1 a1
  obtain ⟨hj',q2⟩:=List.getElem?_eq_some_iff.1 b1
  have hp:=List.pairwise_iff_getElem.1 hl
  rcases Nat.lt_trichotomy j j' with h|h|h
  ·exact absurd (q1.trans q2.symm) (hp j j' hj hj' h)
  ·exact h
  ·exact absurd (q2.trans q1.symm) (hp j' j hj' hj h)
theorem qxg {h:Nat->Oq B} {vs:List V} {v:V} {id:Nat} (hv:v∈vs) (hi:id∈v.ids):id∈reach h vs:=by
 unfold reach
 exact dd_mem (List.mem_append_left _ (dd_mem (List.mem_append_left _ (dd_mem (List.mem_flatMap.2 ⟨v,hv,hi⟩)))))
theorem q94 {D : List Deferred} {G : Nat -> Oq Value} {nt : Nat} {s : St} {a : Act} (live : List Nat) (F : FrS D G w0 Z Y m nt s a w) (hu : ∀ i, m i ≠ none -> i < s.nx) : ∃ m', FrS D G w0 Z Y m' nt (canon live s) a w /\ ∀ i, m' i ≠ none -> i < (canon live s).nx := by
  have hl : ∀ L : List V, L = (live.map λi => nilA (s.nx + 200 * i) (s.t i)) ++ s.og.map (λid => .ptr id 0) -> ∃ m', FrS D G w0 Z Y m' nt (canon live s) a w /\ ∀ i, m' i ≠ none -> i < (canon live s).nx := by
    intro L hL
    have hc : canon live s = { t := λi => if i ∈ live then aggO (λid => pos id (reach (nilH s.nx s.h) L)) (nilA (s.nx + 200 * i) (s.t i)) else .any,
                               h := λj => (((reach (nilH s.nx s.h) L)[j]?).bind (nilH s.nx s.h)).map (B.renO (λid => pos id (reach (nilH s.nx s.h) L))),
                               sh := λj => (((reach (nilH s.nx s.h) L)[j]?).map (nilSh s.nx s.sh)).getD false,
                               nx := (reach (nilH s.nx s.h) L).length, lr := λ_ => [], lw := λ_ => [], og := s.og.map λid => (pos id (reach (nilH s.nx s.h) L)).getD 0 } := by rw [hL]; rfl
    rw [hc]
    refine ⟨λj => ((reach (nilH s.nx s.h) L)[j]?).bind (nilM s.nx m), ⟨⟨F.fr.size, λi => ?_⟩, ?_, ?_, F.df⟩, λi hi => ?_⟩
    · show Rep _ _ _ _ (if i ∈ live then aggO _ (nilA (s.nx + 200 * i) (s.t i)) else .any)
      split
      · refine q17 (λid j v hp hv => ?_) (qt7 hu (by omega) (F.fr.rep i))
        show Option.bind _ _ = some v
        rw [qv7 hp]; exact hv
      · exact .any _
    · exact (F.rel.nils hu).renum _ (qc1 _)
    · intro i id v h1 h2
      simp only [x14q, Option.map_eq_some_iff] at h1
      obtain ⟨id0, h1, e⟩ := h1
      have hm := F.og i id0 v h1 h2
      have hmem : id0 ∈ reach (nilH s.nx s.h) L := qxg (v := .ptr id0 0) (by rw [hL]; exact List.mem_append_right _ (List.mem_map.2 ⟨id0, List.mem_of_getElem? h1, rfl⟩)) (by simp [V.ids])
      obtain ⟨j, hj⟩ := qv8 hmem
      rw [hj, Option.getD_some] at e
      subst e
      show Option.bind _ _ = some v
      rw [qv7 hj]
      show nilM s.nx m id0 = some v
      unfold nilM
      rw [if_pos (hu id0 (by rw [hm]; simp))]
      exact hm
    · show i < (reach (nilH s.nx s.h) L).length
      rcases Nat.lt_or_ge i (reach (nilH s.nx s.h) L).length with h | h
      · exact h
      · exfalso; apply hi; simp only; rw [List.getElem?_eq_none h]; rfl
  exact hl _ rfl
end
end Go.Proofs.YtmlcmoaonaomfaaGreatDoor
