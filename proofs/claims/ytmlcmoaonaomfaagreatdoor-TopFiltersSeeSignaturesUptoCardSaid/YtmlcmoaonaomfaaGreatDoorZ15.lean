/- The machine in continuation style: operations on values. -/
import Derived.Test.YtmlcmoaonaomfaaGreatDoorZ14
namespace Go.Proofs.YtmlcmoaonaomfaaGreatDoor
open Go.RowKit
section
variable (P:Program) {β:Type}
def eqE:Nat->TypeId->V->V->Oq Bool
 |0,_,_,_=>none
 |d+1,t,x,y =>
  match P.underlying t,x,y with
  |some (.struct fs),.agg xs,.agg ys =>
   if P.stoodInHeld t || P.eqGuardType P.depth t || fs.toList.any (fun f => f.name == "_") then none
   else fs.toList.foldr (λf r=>(partV P f.type xs f.offset).bind λa=>(partV P f.type ys f.offset).bind λb=>(eqE d f.type a b).bind λq=>r.map λr=>q&&r) (some true)
  |_,_,_=>eqV P (d+1) t x y
theorem eqE_ok:∀ (d:Nat) (t:TypeId) (x y:V) (q:Bool),eqE P d t x y=some q->eqV P d t x y=some q
 |0,_,_,_,_,h=>by simp [eqE] at h
 |d+1,t,x,y,q,h=>by
  unfold eqE at h
  split at h
  ·rename_i fs xs ys ht
   unfold eqV
   rw [ht]
   simp only
   split at h
   ·cases h
   ·rename_i hn
    rw [if_neg hn]
    clear hn ht
    generalize fs.toList=l at h
    induction l generalizing q with
    |nil=>exact h
    |cons f l ih =>
     simp only [List.foldr_cons] at h ⊢
     cases h1:partV P f.type xs f.offset with
     |none=>rw [h1] at h;cases h
     |some a =>
      rw [h1] at h
      cases h2:partV P f.type ys f.offset with
      |none=>rw [h2] at h;cases h
      |some b =>
       rw [h2] at h
       simp only [x0q] at h ⊢
       cases h3:eqE P d f.type a b with
       |none=>rw [h3] at h;cases h
       |some c =>
        rw [h3] at h
        rw [eqE_ok d f.type a b c h3]
        simp only [x0q] at h ⊢
        obtain ⟨r,hr,hq⟩:=Option.map_eq_some_iff.1 h
        rw [ih r hr]
        cases c <;> simp_all
  ·exact h
def binE (op:BinOp) (t:TypeId) (x y:V) (k:V->Oq β):Oq β :=
 match x,y with
 |.c (.int a n),.c (.int b m) =>
  match op with
  |.quo=>if a=b then brE (m==0) none (k (.c (.int a (a.wrap (n.tdiv m))))) else none
  |.rem=>if a=b then brE (m==0) none (k (.c (.int a (n.tmod m)))) else none
  |.shl=>brE (decide (m<0)) none (k (.c (.int a (a.wrap (n*2 ^ (min m.toNat a.bits))))))
  |.shr=>brE (decide (m<0)) none (k (.c (.int a (n.fdiv (2 ^ (min m.toNat a.bits))))))
  |_=>(binV P op t x y).bind k
 |.c (.str a),.c (.str b) =>
  match op with
  |.add=>brE (decide (((a.size+b.size:Nat):Int)>IntKind.i64.max)) none (k (.c (.str (a++b))))
  |_=>(binV P op t x y).bind k
 |.agg xs,.agg ys =>
  match op with
  |.eql=>(eqE P 9 t (.agg xs) (.agg ys)).bind λq=>k (.c (.bool q))
  |.neq=>(eqE P 9 t (.agg xs) (.agg ys)).bind λq=>k (.c (.bool !q))
  |_=>none
 |.c (.sl es),.c .nilS =>
  match P.underlying t with
  |some (.slice _) =>
   match op with
   |.eql=>gdE (!es.isEmpty) (k (.c (.bool false)))
   |.neq=>gdE (!es.isEmpty) (k (.c (.bool true)))
   |_=>none
  |_=>none
 |x,y=>(binV P op t x y).bind k
theorem q86 {q:Bool} {a:Oq β} {r:β} (h:brE q none a=some r):q=false/\a=some r:=by cases q <;> simp_all [brE]
theorem q7n {op:BinOp} {t:TypeId} {x y:V} {k:V->Oq β} {r:β} (h:binE P op t x y k=some r):(binV P op t x y).bind k=some r:=by
 unfold binE at h
 split at h
 ·split at h
  ·split at h
   ·rename_i e
    obtain ⟨h0,h⟩:=q86 h
    simp only [beq_eq_false_iff_ne] at h0
    subst e
    simp [binV,intOp,h0,h]
   ·cases h
  ·split at h
   ·rename_i e
    obtain ⟨h0,h⟩:=q86 h
    simp only [beq_eq_false_iff_ne] at h0
    subst e
    simp [binV,intOp,h0,h]
   ·cases h
  ·obtain ⟨h0,h⟩:=q86 h
   simp only [decide_eq_false_iff_not] at h0
   simp [binV,shOp,h0,h]
  ·obtain ⟨h0,h⟩:=q86 h
   simp only [decide_eq_false_iff_not] at h0
   simp [binV,shOp,h0,h]
  ·exact h
 ·split at h
  ·obtain ⟨h0,h⟩:=q86 h
   simp only [decide_eq_false_iff_not] at h0
   simp only [binV,strOp,if_neg h0]
   exact h
  ·exact h
 ·split at h
  ·cases e:eqE P 9 t (.agg _) (.agg _) with
   |none=>rw [e] at h;cases h
   |some q=>rw [e] at h;simp only [binV,eqE_ok P _ _ _ _ _ e];exact h
  ·cases e:eqE P 9 t (.agg _) (.agg _) with
   |none=>rw [e] at h;cases h
   |some q=>rw [e] at h;simp only [binV,eqE_ok P _ _ _ _ _ e];exact h
  ·cases h
 ·rename_i es
  split at h
  ·rename_i ht
   split at h
   ·obtain ⟨h0,h⟩:=qk4 h
    cases es with
    |nil=>simp at h0
    |cons e es=>simp only [binV,eqV,ht,x18q,x0q];exact h
   ·obtain ⟨h0,h⟩:=qk4 h
    cases es with
    |nil=>simp at h0
    |cons e es=>simp only [binV,eqV,ht,x18q,x0q];exact h
   ·cases h
  ·cases h
 ·exact h
def bndE (x:Oq V) (d:Nat) (m:Nat) (k:Nat->Oq β):Oq β :=
 match x with
 |none=>k d
 |some (.c (.int _ i))=>gdE (decide (0<=i)&&decide (i<=m)) (k i.toNat)
 |_=>none
theorem q7u {x:Oq V} {d m:Nat} {k:Nat->Oq β} {r:β} (h:bndE x d m k=some r):∃ n,bnd x d m=some n/\k n=some r:=by
 unfold bndE at h
 split at h
 ·exact ⟨d,rfl,h⟩
 ·obtain ⟨h0,h⟩:=qk4 h
  simp only [x6q,decide_eq_true_eq] at h0
  exact ⟨_,if_pos h0,h⟩
 ·cases h
def strIxE (s:BA) (i:Int) (k:V->Oq β):Oq β:=gdE (decide (0<=i)&&decide (i.toNat<s.size)) (k (.c (.int .u8 (s.data.getD i.toNat 0).toNat)))
theorem q18s {s:BA} {i:Int} {k:V->Oq β} {r:β} (h:strIxE s i k=some r):(strIx s i).bind k=some r:=by
 unfold strIxE at h
 obtain ⟨h0,h⟩:=qk4 h
 simp only [x6q,decide_eq_true_eq] at h0
 unfold strIx
 rw [if_pos h0.1]
 have e:s[i.toNat]?=some (s.data.getD i.toNat 0):=by
  rw [getElem?_pos s i.toNat h0.2]
  congr 1
  have h1:i.toNat<s.data.size:=h0.2
  simp only [Array.getD,h1,dite_true]
  rfl
 rw [e]
 exact h
def atE (e:TypeId) (es:List (List C)) (n:Nat) (k:List C->Oq β):Oq β :=
 match shapeT P 5 e with
 |some ks=>forceKs ks λks=>gdE (decide (n<es.length)&&isE ks 0 (es.getD n [])) (k (decE ks 0 (es.getD n [])))
 |none=>none
theorem atE_ok {e:TypeId} {es:List (List C)} {n:Nat} {k:List C->Oq β} {r:β} (h:atE P e es n k=some r):∃ el,es[n]?=some el/\k el=some r:=by
 unfold atE at h
 split at h
 ·rw [qjg] at h
  obtain ⟨h0,h⟩:=qk4 h
  simp only [x6q,decide_eq_true_eq] at h0
  rw [qc4 h0.2] at h
  refine ⟨_,?_,h⟩
  rw [List.getElem?_eq_getElem h0.1]
  simp [List.getD_eq_getElem?_getD,List.getElem?_eq_getElem h0.1]
 ·cases h
def isStrs:List V->Bool
 |[]=>true
 |.c (.str _)::l=>isStrs l
 |_=>false
def strsE {γ:Type}:List V->(List BA->Oq γ)->Oq γ
 |[],k=>k []
 |.c (.str s)::l,k=>strsE l λl'=>k (s::l')
 |_,_=>none
theorem q19z {γ:Type}:∀ {cs:List V} {k:List BA->Oq γ} {r:γ},strsE cs k=some r->∃ l,cs=l.map (λs=>V.c (.str s))/\k l=some r
 |[],k,r,h=>⟨[],rfl,h⟩
 |v::cs,k,r,h=>by
  cases v with
  |c x =>
   cases x with
   |str s =>
    simp only [strsE] at h
    obtain ⟨l',h1,h2⟩:=q19z h
    exact ⟨s::l',by rw [h1];rfl,h2⟩
   |_=>simp [strsE] at h
  |_=>simp [strsE] at h
def isInts:List V->Bool
 |[]=>true
 |.c (.int .i64 _)::l=>isInts l
 |_=>false
def intsE {γ:Type}:List V->(List Int->Oq γ)->Oq γ
 |[],k=>k []
 |.c (.int .i64 n)::l,k=>intsE l λl'=>k (n::l')
 |_,_=>none
theorem qo7 {γ:Type}:∀ {cs:List V} {k:List Int->Oq γ} {r:γ},intsE cs k=some r->∃ l,cs=l.map (λn=>V.c (.int .i64 n))/\k l=some r
 |[],k,r,h=>⟨[],rfl,h⟩
 |v::cs,k,r,h=>by
  cases v with
  |c x =>
   cases x with
   |int q n =>
    cases q with
    |i64 =>
     simp only [intsE] at h
     obtain ⟨l',h1,h2⟩:=qo7 h
     exact ⟨n::l',by rw [h1];rfl,h2⟩
    |_=>simp [intsE] at h
   |_=>simp [intsE] at h
  |_=>simp [intsE] at h
def arrE (len:Nat) (e:TypeId) (cs:List V) (i:Int) (k:V->Oq β) (d:Oq β):Oq β:=match isStrs cs,szO P e,aggB P e with
 |true,some 1,some false=>strsE cs λl=>gdE (decide (0<=i)&&decide (i<len)&&decide (i.toNat<l.length)) (k (.c (.str (l.getD i.toNat ByteArray.empty))))
 |false,some 1,some false=>bif isInts cs then (intsE cs λl=>gdE (decide (0<=i)&&decide (i<len)&&decide (i.toNat<l.length)) (k (.c (.int .i64 (l.getD i.toNat 0))))) else d
 |_,_,_=>d
theorem q49 {len:Nat} {e:TypeId} {cs:List V} {i:Int} {k:V->Oq β} {d:Oq β} {r:β} (h:arrE P len e cs i k d=some r):d=some r∨((szO P e).bind λz=>if 0<=i/\i<len then partV P e cs (i.toNat*z) else none).bind k=some r:=by
 unfold arrE at h
 split at h
 ·rename_i e1 e2 e3
  right
  obtain ⟨l,h1,h2⟩:=q19z h
  obtain ⟨h3,h4⟩:=qk4 h2
  simp only [x6q,decide_eq_true_eq] at h3
  obtain ⟨⟨a1,a2⟩,a3⟩:=h3
  rw [e2]
  simp only [x0q]
  rw [if_pos ⟨a1,a2⟩]
  unfold partV
  rw [e3,e2]
  simp only [x0q,x1q,x21q]
  subst h1
  have e4:(l.map λs=>V.c (.str s))[i.toNat*1]?=some (V.c (.str (l.getD i.toNat ByteArray.empty))):=by
   rw [Nat.mul_one,x14q,List.getElem?_eq_getElem a3,x2q,List.getElem?_eq_getElem a3]
   rfl
  rw [e4]
  exact h4
 ·rename_i e1 e2 e3
  cases hi:isInts cs with
  |false=>rw [hi] at h;exact .inl h
  |true =>
  rw [hi,x22q] at h
  right
  obtain ⟨l,h1,h2⟩:=qo7 h
  obtain ⟨h3,h4⟩:=qk4 h2
  simp only [x6q,decide_eq_true_eq] at h3
  obtain ⟨⟨a1,a2⟩,a3⟩:=h3
  rw [e2]
  simp only [x0q]
  rw [if_pos ⟨a1,a2⟩]
  unfold partV
  rw [e3,e2]
  simp only [x0q,x1q,x21q]
  subst h1
  have e4:(l.map λn=>V.c (.int .i64 n))[i.toNat*1]?=some (V.c (.int .i64 (l.getD i.toNat 0))):=by
   rw [Nat.mul_one,x14q,List.getElem?_eq_getElem a3,x2q,List.getElem?_eq_getElem a3]
   rfl
  rw [e4]
  exact h4
 ·exact .inl h
def ev0E (r:Operand->V) (o:Op) (k:V->Oq β):Oq β :=
 match o with
 |.pick c a b=>match r c with|.c (.bool q)=>brE q (k (r a)) (k (r b))|_=>none
 |.binOp op t x y _=>binE P op t (r x) (r y) k
 |.indexAddr t x ix =>
  match P.underlying t,r x,r ix with
  |some (.slice e),.row id n,.c (.int _ i)=>(szO P e).bind λz=>gdE (decide (0<=i)&&decide (i<n)) (k (.rptr id z i.toNat 0))
  |some (.slice e),.c (.sl es),.c (.int _ i)=>(szO P e).bind λz=>gdE (decide (0<=i)) (atE P e es i.toNat λel=>if el.length=z then k (.eptr el 0) else none)
  |some (.array len e),.ptr id off,.c (.int _ i)=>(szO P e).bind λz=>gdE (decide (0<=i)&&decide (i<len)) (k (.ptr id (off+i.toNat*z)))
  |_,_,_=>none
 |.index t x ix =>
  match P.underlying t,r x,r ix with
  |some .string,.c (.str s),.c (.int _ i)=>strIxE s i k
  |some (.array len e),.agg cs,.c (.int _ i)=>arrE P len e cs i k ((ev0 P r (.index t x ix)).bind k)
  |_,_,_=>(ev0 P r (.index t x ix)).bind k
 |.slice t x lo hi none =>
  match P.underlying t,r x with
  |some .string,.c (.str s)=>bndE (hi.map r) s.size s.size λh=>bndE (lo.map r) 0 h λl=>k (.c (.str (s.extract l h)))
  |_,_=>none
 |o=>(ev0 P r o).bind k
theorem qfd {r:Operand->V} {o:Op} {k:V->Oq β} {x:β} (h:ev0E P r o k=some x):(ev0 P r o).bind k=some x:=by
 unfold ev0E at h
 split at h
 ·split at h
  ·rename_i q e
   simp only [ev0,e]
   cases q <;> exact h
  ·cases h
 ·exact q7n P h
 ·unfold ev0
  split at h
  ·rename_i e1 e2 e3
   simp only [e1,e2,e3]
   cases hz:szO P _ with
   |none=>rw [hz] at h;cases h
   |some z =>
    rw [hz] at h
    simp only [x0q] at h ⊢
    obtain ⟨h0,h⟩:=qk4 h
    simp only [x6q,decide_eq_true_eq] at h0
    rw [if_pos h0]
    exact h
  ·rename_i e1 e2 e3
   simp only [e1,e2,e3]
   cases hz:szO P _ with
   |none=>rw [hz] at h;cases h
   |some z =>
    rw [hz] at h
    simp only [x0q] at h ⊢
    obtain ⟨h0,h⟩:=qk4 h
    simp only [decide_eq_true_eq] at h0
    rw [if_pos h0]
    obtain ⟨el,h1,h⟩:=atE_ok P h
    rw [h1]
    simp only [x0q]
    split at h
    ·rename_i h2
     rw [if_pos h2]
     exact h
    ·cases h
  ·rename_i e1 e2 e3
   simp only [e1,e2,e3]
   cases hz:szO P _ with
   |none=>rw [hz] at h;cases h
   |some z =>
    rw [hz] at h
    simp only [x0q] at h ⊢
    obtain ⟨h0,h⟩:=qk4 h
    simp only [x6q,decide_eq_true_eq] at h0
    rw [if_pos h0]
    exact h
  ·cases h
 ·split at h
  ·rename_i e1 e2 e3
   unfold ev0
   simp only [e1,e2,e3]
   exact q18s h
  ·rename_i e1 e2 e3
   rcases q49 P h with h|h
   ·exact h
   ·unfold ev0
    simp only [e1,e2,e3]
    exact h
  ·exact h
 ·split at h
  ·rename_i e1 e2
   unfold ev0
   simp only [e1,e2]
   obtain ⟨u,h1,h⟩:=q7u h
   obtain ⟨l,h2,h⟩:=q7u h
   rw [h1]
   simp only [x0q,h2,x18q]
   exact h
  ·cases h
 ·exact h
end
end Go.Proofs.YtmlcmoaonaomfaaGreatDoor
namespace Go.Proofs.YtmlcmoaonaomfaaGreatDoor
open Go.RowKit
def isP:List K1->Nat->List C->Bool
 |[],_,_=>true
 |k::ks,i,el=>isK k (el.getD i .ne)&&isP ks (i+1) el
theorem qc5:∀ (ks:List K1) (i:Nat) (el:List C),isP ks i el=true->i+ks.length<=el.length->decE ks i el=(el.drop i).take ks.length
 |[],i,el,_,_=>by simp [decE]
 |k::ks,i,el,h,hl=>by
  simp only [isP,x6q] at h
  simp only [x9q] at hl
  rw [decE,qc2 h.1,qc5 ks (i+1) el h.2 (by omega)]
  have hi:i<el.length:=by omega
  rw [List.drop_eq_getElem_cons hi,x9q,List.take_succ_cons]
  simp [List.getD_eq_getElem?_getD,List.getElem?_eq_getElem hi]
section
variable (P:Program) {β:Type}
def partE (t:TypeId) (el:List C) (off z:Nat) (k:V->Oq β):Oq β :=
 match shapeT P 5 t,aggB P t with
 |some ks,some b=>forceKs ks λks=>if szO P t=some ks.length/\off+ks.length<=z then gdE (isP ks off el) (match b with|true=>k (.agg ((decE ks off el).map .c))|false=>match decE ks off el with|[x]=>k (.c x)|_=>none) else none
 |_,_=>none
theorem quz {t:TypeId} {el:List C} {off:Nat} {k:V->Oq β} {r:β} (h:partE P t el off el.length k=some r):(partV P t (el.map .c) off).bind k=some r:=by
 unfold partE at h
 split at h
 ·rename_i ks b h1 h2
  rw [qjg] at h
  split at h
  ·rename_i h3
   obtain ⟨h0,h⟩:=qk4 h
   rw [qc5 ks off el h0 h3.2] at h
   unfold partV
   rw [h2,h3.1]
   simp only [x0q]
   cases b with
   |true =>
    simp only [x20q,List.length_map,if_pos h3.2,x0q]
    rw [←List.map_drop,←List.map_take]
    exact h
   |false =>
    simp only at h
    split at h
    ·rename_i x hx
     have hn:ks.length=1∨ks.length≠1:=by omega
     have hl:((el.drop off).take ks.length).length=1:=by rw [hx];rfl
     simp only [List.length_take,List.length_drop] at hl
     have ho:off<el.length:=by omega
     have e:el[off]?=some x:=by
      rw [List.drop_eq_getElem_cons ho] at hx
      have hk:ks.length=(ks.length - 1)+1:=by omega
      rw [hk,List.take_succ_cons] at hx
      injection hx with hx _
      rw [List.getElem?_eq_getElem ho,hx]
     simp only [x1q,x21q,x14q,e,x18q,x0q]
     exact h
    ·cases h
  ·cases h
 ·cases h
def loadE (h:Nat->Oq B) (t:TypeId) (a:V) (k:V->Oq β):Oq β :=
 match a with
 |.rptr id z i off=>match h id with
  |some (.row es)=>gdE (decide (i<es.length)&&(es.getD i []).length==z) (partE P t (es.getD i []) off z k)
  |some (.tab es q v)=>if z=1/\off=0 then gdE (decide (i<es.length)) (brE (i==q) ((partV P t [v] 0).bind k) (gdE ((es.getD i []).length==1) (partE P t (es.getD i []) 0 1 k))) else none
  |_=>none
 |a=>(loadV P h t a).bind k
theorem qk5 {α:Type} {l:List α} {n:Nat} {d:α} (h:n<l.length):l[n]?=some (l.getD n d):=by
 rw [List.getElem?_eq_getElem h]
 simp [List.getD_eq_getElem?_getD,List.getElem?_eq_getElem h]
theorem qqp {h:Nat->Oq B} {t:TypeId} {a:V} {k:V->Oq β} {r:β} (hh:loadE P h t a k=some r):(loadV P h t a).bind k=some r:=by
 unfold loadE at hh
 split at hh
 ·rename_i id z i off
  split at hh
  ·rename_i e
   obtain ⟨h0,hh⟩:=qk4 hh
   simp only [x6q,decide_eq_true_eq,beq_iff_eq] at h0
   simp only [loadV,e,qk5 (d:=[]) h0.1,Option.bind_some,if_pos h0.2]
   rw [←h0.2] at hh
   exact quz P hh
  ·rename_i es q v e
   split at hh
   case isFalse=>cases hh
   rename_i hz
   obtain ⟨rfl,rfl⟩:=hz
   obtain ⟨h0,hh⟩:=qk4 hh
   simp only [decide_eq_true_eq] at h0
   simp only [loadV,e,qk5 (d:=[]) h0,Option.bind_some,and_self,if_true]
   by_cases hq':i=q
   ·have:(i==q)=true:=by simpa using hq'
    simp only [this,brE] at hh
    simp only [hq',x20q]
    exact hh
   ·have:(i==q)=false:=by simpa using hq'
    simp only [this,brE] at hh
    obtain ⟨h1,hh⟩:=qk4 hh
    simp only [beq_iff_eq] at h1
    simp only [hq',x21q,h1,x20q]
    rw [←h1] at hh
    exact quz P hh
  ·cases hh
 ·exact hh
def forceEs (l:List (List C)) (k:List (List C)->Oq β):Oq β:=match l with
 |[]=>k []
 |x::l=>forceCs x λx=>forceEs l λl=>k (x::l)
theorem qjd:∀ (l:List (List C)) (k:List (List C)->Oq β),forceEs l k=k l
 |[],_=>rfl
 |x::l,k=>by rw [forceEs,qjc,qjd]
def forceRw (l:List B) (k:List B->Oq β):Oq β:=match l with
 |[.row es]=>forceEs es λes=>k [.row es]
 |l=>k l
theorem qjm (l:List B) (k:List B->Oq β):forceRw l k=k l:=by
 unfold forceRw
 split
 ·rw [qjd]
 ·rfl
def bytesL (s:BA):List (List C):=s.data.toList.map λb=>[byteC b]
def convE (h:Nat->Oq B) (r:Operand->V) (base:Nat) (src dst:TypeId) (x:Operand) (k:V×List B×List Nat->Oq β):Oq β :=
 match P.underlying src,P.underlying dst with
 |some .string,some (.slice e)=>match P.underlying e,r x with
  |some (.int .u8),.c (.str s)=>if szO P e=some 1 then gdE (decide (s.size<=9223372036854775807)&&!(s.size==0)) (k (.row base s.size,[.row (bytesL s)],[])) else none
  |_,_=>none
 |some (.slice e),some .string=>match P.underlying e with
  |some (.int .u8)=>(frzC h (r x)).bind λy=>match y.1 with
   |.sl es=>(bytesOf es).bind λl=>k (.c (.str ⟨l.toArray⟩),[],[])
   |_=>none
  |_=>none
 |_,_=>none
theorem qbi {call:FuncId->List V->Oq (V×List B)} {h:Nat->Oq B} {r:Operand->V} {base:Nat} {src dst:TypeId} {x:Operand} {k:V×List B×List Nat->Oq β} {q:β} (hh:convE P h r base src dst x k=some q):(ev1 P call h r base (.convert src dst x)).bind k=some q:=by
 unfold convE at hh
 unfold ev1
 split at hh
 ·rename_i e h1 h2
  split at hh
  ·rename_i s h3 h4
   split at hh
   case isFalse=>cases hh
   rename_i h5
   obtain ⟨h6,hh⟩:=qk4 hh
   simp only [x6q,decide_eq_true_eq,Bool.not_eq_true',beq_eq_false_iff_ne,ne_eq] at h6
   simp only [h1,h2,h3,h4,h5,h6.1,h6.2,and_self,x20q,x21q,x0q]
   exact hh
  ·cases hh
 ·rename_i e h1 h2
  split at hh
  ·rename_i h3
   simp only [h1,h2,h3]
   cases hf:frzC h (r x) with
   |none=>rw [hf] at hh;cases hh
   |some y =>
    rw [hf] at hh
    simp only [x0q] at hh ⊢
    split at hh
    ·rename_i es h4
     cases hb:bytesOf es with
     |none=>rw [hb] at hh;cases hh
     |some l=>rw [hb] at hh;simp only [x0q] at hh;simp only [h4,hb,x18q,x0q];exact hh
    ·cases hh
  ·cases hh
 ·cases hh
def ev1E (callE:FuncId->List V->(V×List B->Oq β)->Oq β) (h:Nat->Oq B) (r:Operand->V) (base:Nat) (o:Op) (k:V×List B×List Nat->Oq β):Oq β :=
 match o with
 |.load t a=>loadE P h t (r a) λv=>k (v,[],[])
 |.makeSlice t l c =>
  match P.underlying t,r l,r c with
  |some (.slice e),.c (.int _ n),.c (.int _ m)=>(P.info? e).bind λi=>gdE (decide (n=m)&&decide (0<=n)&&decide (n*i.bytes<=140737488355328)&&decide (n<=9223372036854775807)) (if 0<i.size then
    (zeroV P e).bind λz=>z.cells.bind λzc=>(frzL h zc).bind λz'=>if z'.1.length=i.size/\z'.2=[] then forceCs z'.1 λzl=>k (.row base n.toNat,[mkB P e i.size n.toNat (List.replicate n.toNat zl)],[]) else none
   else none)
  |_,_,_=>none
 |.slice t x lo hi mx =>
  match P.underlying t with
  |some (.slice e)=>(frzC h (r x)).bind λy=>match y.1 with
   |.sl es=>(szO P e).bind λz=>bndE (mx.map r) es.length es.length λm=>bndE (hi.map r) es.length m λu=>bndE (lo.map r) 0 u λl =>
     match mx with
     |none=>gdE (es.all (λel=>el.length==z)) (k (.c (.sl ((es.drop l).take (u - l))),[],y.2))
     |some _=>if hi.isNone then none else brE (l==m) (k (.c .zs,[],[])) (gdE (es.all (λel=>el.length==z)) (k (.c (.sl ((es.drop l).take (u - l))),[],y.2)))
   |_=>none
  |_=>none
 |.call { callee:=.value f,args,.. } =>
  match r f with
  |.fn g caps=>(bodyOf P (cFn g)).bind λ_=>(frzAs h (args.toList.map r)).bind λx=>(frzPs h caps).bind λy =>
    callE (cFn g) (cAr g x.1 y.1) λz=>if z.2.length<=8 then k (z.1.ren (λi=>base+i),z.2,bif lendB z then [] else x.2++y.2) else none
  |_=>none
 |.convert src dst x=>convE P h r base src dst x k
 |.buildSlice t len parts=>(ev1 P (λ_ _=>none) h r base (.buildSlice t len parts)).bind λx=>forceRw x.2.1 λbs=>k (x.1,bs,x.2.2)
 |.call { callee:=.builtin .append,args,argTypes } =>
  match argTypes.toList,args.toList with
  |[t,t'],[s,x]=>match P.underlying t,P.underlying t',r s with
   |some (.slice e),some (.slice _),.c .zs=>(P.info? e).bind λi=>if 0<i.size/\i.zero.map (λz=>z.cells.size)=some i.size then
     (frzC h (r x)).bind λy=>match y.1 with
     |.sl xs=>gdE (xs.all (λel=>el.length==i.size)&&decide ((xs.length+xs.length / 4+192)*i.bytes<=281474976710656)&&decide (xs.length<=9223372036854775807)) (k (.row base xs.length,[.row xs],y.2))
     |_=>none
    else none
   |_,_,_=>none
  |_,_=>none
 |o=>(ev1 P (λ_ _=>none) h r base o).bind k
theorem qfg {call:FuncId->List V->Oq (V×List B)} {callE:FuncId->List V->(V×List B->Oq β)->Oq β} (hc:∀ f a k r,callE f a k=some r->(call f a).bind k=some r)
  {h:Nat->Oq B} {r:Operand->V} {base:Nat} {o:Op} {k:V×List B×List Nat->Oq β} {x:β} (hh:ev1E P callE h r base o k=some x):(ev1 P call h r base o).bind k=some x:=by
 unfold ev1E at hh
 split at hh
 ·have:=qqp P hh
  simp only [ev1]
  cases e:loadV P h _ (r _) with
  |none=>rw [e] at this;cases this
  |some v=>rw [e] at this;exact this
 ·unfold ev1
  split at hh
  ·rename_i e1 e2 e3
   simp only [e1,e2,e3]
   cases hz:P.info? _ with
   |none=>rw [hz] at hh;cases hh
   |some i =>
    rw [hz] at hh
    simp only [x0q] at hh ⊢
    obtain ⟨h0,hh⟩:=qk4 hh
    simp only [x6q,decide_eq_true_eq] at h0
    split at hh
    ·rename_i h1
     rw [if_pos ⟨h0.1.1.1,h0.1.1.2,h0.1.2,h0.2,h1⟩]
     cases a1:zeroV P _ with
     |none=>rw [a1] at hh;cases hh
     |some z =>
      rw [a1] at hh
      simp only [x0q] at hh ⊢
      cases a2:z.cells with
      |none=>rw [a2] at hh;cases hh
      |some zc =>
       rw [a2] at hh
       simp only [x0q] at hh ⊢
       cases a3:frzL h zc with
       |none=>rw [a3] at hh;cases hh
       |some z' =>
        rw [a3] at hh
        simp only [x0q] at hh ⊢
        split at hh
        ·rename_i h2
         rw [if_pos h2]
         rw [qjc] at hh
         exact hh
        ·cases hh
    ·cases hh
  ·cases hh
 ·unfold ev1
  split at hh
  ·rename_i e1
   simp only [e1]
   cases a1:frzC h (r _) with
   |none=>rw [a1] at hh;cases hh
   |some y =>
    rw [a1] at hh
    simp only [x0q] at hh ⊢
    split at hh
    ·rename_i es e2
     simp only [e2]
     cases hz:szO P _ with
     |none=>rw [hz] at hh;cases hh
     |some z =>
      rw [hz] at hh
      simp only [x0q] at hh ⊢
      obtain ⟨m,b1,hh⟩:=q7u hh
      obtain ⟨u,b2,hh⟩:=q7u hh
      obtain ⟨l,b3,hh⟩:=q7u hh
      simp only [b1,b2,b3,x0q]
      split at hh
      ·obtain ⟨h0,hh⟩:=qk4 hh
       simp only [Option.isSome_none,x1q,false_and,x21q,h0,x20q]
       exact hh
      ·split at hh
       ·cases hh
       ·rename_i hn
        simp only [Option.isSome_some,true_and,hn]
        by_cases hl:l=m
        ·simp only [hl,x19q,brE,x20q] at hh ⊢
         exact hh
        ·have:(l==m)=false:=by simpa using hl
         simp only [this,brE] at hh
         obtain ⟨h0,hh⟩:=qk4 hh
         simp only [hl,x21q,h0,x20q]
         exact hh
    ·cases hh
  ·cases hh
 ·unfold ev1
  split at hh
  ·rename_i e1
   simp only [e1]
   cases a1:bodyOf P _ with
   |none=>rw [a1] at hh;cases hh
   |some z =>
    rw [a1] at hh
    simp only [x0q] at hh ⊢
    cases a2:frzAs h _ with
    |none=>rw [a2] at hh;cases hh
    |some x1 =>
     rw [a2] at hh
     simp only [x0q] at hh ⊢
     cases a3:frzPs h _ with
     |none=>rw [a3] at hh;cases hh
     |some y1 =>
      rw [a3] at hh
      simp only [x0q] at hh ⊢
      have hh:=hc _ _ _ _ hh
      cases a4:call _ (cAr _ x1.1 y1.1) with
      |none=>rw [a4] at hh;cases hh
      |some z1 =>
       rw [a4] at hh
       simp only [x0q] at hh ⊢
       split at hh
       ·rename_i h2
        rw [if_pos h2]
        exact hh
       ·cases hh
  ·cases hh
 ·exact qbi P hh
 ·simp only [qjm] at hh
  exact hh
 ·unfold ev1
  split at hh
  ·rename_i e1 e2
   simp only [e1,e2]
   split at hh
   ·rename_i e3 e4 e5
    simp only [e3,e4,e5]
    cases hz:P.info? _ with
    |none=>rw [hz] at hh;cases hh
    |some i =>
     rw [hz] at hh
     simp only [x0q] at hh ⊢
     split at hh
     case isFalse=>cases hh
     rename_i h1
     rw [if_pos h1]
     cases a1:frzC h (r _) with
     |none=>rw [a1] at hh;cases hh
     |some y =>
      rw [a1] at hh
      simp only [x0q] at hh ⊢
      split at hh
      ·rename_i xs e6
       simp only [e6]
       obtain ⟨h0,hh⟩:=qk4 hh
       simp only [x6q,decide_eq_true_eq] at h0
       rw [if_pos ⟨h0.1.1,h0.1.2,h0.2⟩]
       exact hh
      ·cases hh
   ·cases hh
  ·cases hh
 ·rename_i hn1 hn2 hn3 hn4 hn5 hn6 hn7
  have e:ev1 P (λ_ _=>none) h r base o=ev1 P call h r base o:=by
   unfold ev1
   split <;> first|rfl|skip
   rename_i f args _ _
   exact (hn4 _ _ _ rfl).elim
  rw [e] at hh
  exact hh
def convB (r:Operand->V) (base:Nat) (src dst:TypeId) (x:Operand) (k:V×List B×List Nat->Oq β):Oq β :=
 match P.underlying src,P.underlying dst with
 |some .string,some (.slice e)=>match P.underlying e,r x with
  |some (.int .u8),.c (.str s)=>if szO P e=some 1 then gdE (decide (s.size<=9223372036854775807)) (brE (s.size==0) (k (.c (.sl []),[],[])) (k (.row base s.size,[.row (bytesL s)],[]))) else none
  |_,_=>none
 |_,_=>none
theorem qbh {call:FuncId->List V->Oq (V×List B)} {h:Nat->Oq B} {r:Operand->V} {base:Nat} {src dst:TypeId} {x:Operand} {k:V×List B×List Nat->Oq β} {q:β} (hh:convB P r base src dst x k=some q):(ev1 P call h r base (.convert src dst x)).bind k=some q:=by
 unfold convB at hh
 unfold ev1
 split at hh
 ·rename_i e h1 h2
  split at hh
  ·rename_i s h3 h4
   split at hh
   case isFalse=>cases hh
   rename_i h5
   obtain ⟨h6,hh⟩:=qk4 hh
   simp only [decide_eq_true_eq] at h6
   by_cases h7:s.size=0
   ·have h8:(s.size==0)=true:=by simpa using h7
    rw [h8] at hh
    simp only [brE] at hh
    simp only [h1,h2,h3,h4,h5,h6,h7,and_self,Nat.zero_le,x20q,x0q]
    exact hh
   ·have h8:(s.size==0)=false:=by simpa using h7
    rw [h8] at hh
    simp only [brE] at hh
    simp only [h1,h2,h3,h4,h5,h6,h7,and_self,x20q,x21q,x0q]
    exact hh
  ·cases hh
 ·cases hh
def ev1Q (q:Bool) (callE:FuncId->List V->(V×List B->Oq β)->Oq β) (h:Nat->Oq B) (r:Operand->V) (base:Nat) (o:Op) (k:V×List B×List Nat->Oq β):Oq β :=
 match q,o with
 |true,.convert src dst x=>match P.underlying src with
  |some .string=>convB P r base src dst x k
  |_=>convE P h r base src dst x k
 |_,o=>ev1E P callE h r base o k
theorem qfh {q:Bool} {call:FuncId->List V->Oq (V×List B)} {callE:FuncId->List V->(V×List B->Oq β)->Oq β} (hc:∀ f a k r,callE f a k=some r->(call f a).bind k=some r)
  {h:Nat->Oq B} {r:Operand->V} {base:Nat} {o:Op} {k:V×List B×List Nat->Oq β} {x:β} (hh:ev1Q P q callE h r base o k=some x):(ev1 P call h r base o).bind k=some x:=by
 unfold ev1Q at hh
 split at hh
 ·split at hh
  ·exact qbh P hh
  ·exact qbi P hh
 ·exact qfg P hc hh
end
end Go.Proofs.YtmlcmoaonaomfaaGreatDoor
