/- canonical.body at any body: a range over bytes.SplitSeq. -/
import Derived.Test.YtmlcmoaonaomfaaGreatDoorZ32
import Derived.Lib.AppendStr
import Derived.OwnWalkIn
namespace Go.Proofs.YtmlcmoaonaomfaaGreatDoor
open Go.RowKit
def ofB (xs:List Int):BA:=⟨(Lib.bytesOf xs).toArray⟩
theorem qu5 (xs:List Int):(ofB xs).size=xs.length:=by
 show (Lib.bytesOf xs).toArray.size=_
 rw [List.size_toArray,q8m]
def crlfB:List UInt8:=[13,10]
def stepB (sq:BA->BA) (o:List UInt8×Nat) (p:BA):List UInt8×Nat :=
 if sq p=⟨#[]⟩ then (o.1,o.2+1) else (o.1++((List.replicate o.2 crlfB).flatten++(sq p).data.toList++crlfB),0)
def bodF (sq:BA->BA):Nat->List Int->List UInt8×Nat->List UInt8×Nat
 |0,_,o=>o
 |f+1,r,o=>if cut2 r<0 then stepB sq o (ofB r) else bodF sq f (r.drop ((cut2 r).toNat+2)) (stepB sq o (ofB (r.take (cut2 r).toNat)))
def bodL (sq:BA->BA) (xs:List Int):List UInt8:=(bodF sq (xs.length+1) xs ([],0)).1
theorem qh0:∀ n:Nat,((List.replicate n crlfB).flatten).length=2*n
 |0=>rfl
 |n+1=>by rw [List.replicate_succ,List.flatten_cons,x12q,qh0 n];simp [crlfB];omega
theorem q188 {sq:BA->BA} (h:∀ s,(sq s).size<=s.size) (o:List UInt8×Nat) (p:BA):(stepB sq o p).1.length+2*(stepB sq o p).2<=o.1.length+2*o.2+p.size+2:=by
 unfold stepB
 split
 ·show o.1.length+2*(o.2+1)<=_
  omega
 ·show (o.1++_).length+2*0<=_
  have:=h p
  have e:(sq p).data.toList.length=(sq p).size:=by rw [x24q];rfl
  rw [x12q,x12q,x12q,qh0,e]
  simp [crlfB]
  omega
def rowB (l:List UInt8):List Value:=l.map λb=>Value.int .u8 b.toNat
structure Bq (w W:World) (L D:Nat) (rec:Loop) (p0 p1 p2 p3 p4 p5 o:Nat) (s:Value) (mm:Int) (out:Value) (e:Nat) (l:List UInt8):Prop where
 lp:W.heap[L]?=some (.loop rec)
 dd:W.heap[D]?=some (.deferred (some []))
 b0:W.heap[p0]?=some (.cells #[out] 26)
 b1:W.heap[p1]?=some (.cells #[.int .i64 (e:Int)] 3)
 b2:W.heap[p2]?=some (.cells #[.int .u8 13,.int .u8 10] 5 (2,3))
 b3:W.heap[p3]?=some (.cells #[s] 26)
 b4:W.heap[p4]?=some (.cells #[.slice (some ⟨p2,0,none⟩) 2 2] 26)
 b5:W.heap[p5]?=some (.cells #[.int .i64 0] 3)
 bel:Bel w W
 ml:w.cell? ⟨0,0,none⟩=some (.int .i64 mm)
 own:W.ownsRow o 5 1 out l.length (rowB l)
 sz:o<=W.heap.size
structure Nq (w:World) (L D p0 p1 p2 p3 p4 p5 o:Nat):Prop where
 h0:p0=w.heap.size
 h1:p1=w.heap.size+1
 h2:p2=w.heap.size+2
 h3:p3=w.heap.size+3
 h4:p4=w.heap.size+4
 h5:p5=w.heap.size+5
 hD:D=w.heap.size+6
 hL:L=w.heap.size+7
 ho:o=w.heap.size+8
section
variable {w W W':World} {L D:Nat} {r r':Loop} {p0 p1 p2 p3 p4 p5 o:Nat} {s s' out out':Value} {mm:Int} {e e':Nat} {l l':List UInt8}
theorem Bq.sp (h:Bq w W L D r p0 p1 p2 p3 p4 p5 o s mm out e l):SpI W p4 p3 p5 p2 s mm :=
 ⟨(qao h.b4).trans rfl,(qao h.b3).trans rfl,frz_at h.b3,(qao h.b5).trans rfl,(qao h.b2).trans rfl,(qao h.b2).trans rfl,by rw [h.bel.cell _ (qar h.ml)];exact h.ml⟩
theorem Bq.keep (h:Bq w W L D r p0 p1 p2 p3 p4 p5 o s mm out e l) (hb:Bel w W') (hs:W.heap.size<=W'.heap.size) (hk:∀ (k:Nat) (x:Obj),W.heap[k]?=some x->W'.heap[k]?=some x):Bq w W' L D r p0 p1 p2 p3 p4 p5 o s mm out e l :=
 ⟨hk _ _ h.lp,hk _ _ h.dd,hk _ _ h.b0,hk _ _ h.b1,hk _ _ h.b2,hk _ _ h.b3,hk _ _ h.b4,hk _ _ h.b5,hb,h.ml,by
  obtain ⟨h1,h2⟩:=h.own
  refine ⟨h1,?_⟩
  rcases h2 with h2|⟨g,cap,cur,e1,e2,e3,e4⟩
  ·exact .inl h2
  ·exact .inr ⟨g,cap,cur,e1,e2,hk _ _ e3,e4⟩,Nat.le_trans h.sz hs⟩
theorem Bq.later (h:Bq w W L D r p0 p1 p2 p3 p4 p5 o s mm out e l) (hb:Bel W W'):Bq w W' L D r p0 p1 p2 p3 p4 p5 o s mm out e l :=
 h.keep (h.bel.trans hb) hb.size λk x hx=>(hb.block k (Array.getElem?_eq_some_iff.1 hx).1).trans hx
theorem quu {v:Value} {n:Nat} {xs:List Value} (h:W.ownsRow o 5 1 v n xs) (hk:∀ (k:Nat) (x:Obj),o<=k->W.heap[k]?=some x->W'.heap[k]?=some x):W'.ownsRow o 5 1 v n xs:=by
 obtain ⟨h1,h2⟩:=h
 refine ⟨h1,?_⟩
 rcases h2 with h2|⟨g,cap,cur,e1,e2,e3,e4⟩
 ·exact .inl h2
 ·exact .inr ⟨g,cap,cur,e1,e2,hk _ _ e2 e3,e4⟩
theorem Bq.put (h:Bq w W L D r p0 p1 p2 p3 p4 p5 o s mm out e l) (N:Nq w L D p0 p1 p2 p3 p4 p5 o):Bq w (W.putObj L (.loop r')) L D r' p0 p1 p2 p3 p4 p5 o s mm out e l:=by
 obtain ⟨n0,n1,n2,n3,n4,n5,nD,nL,no⟩:=N
 have hlt:L<W.heap.size:=(Array.getElem?_eq_some_iff.1 h.lp).1
 have hb:Bel w (W.putObj L (.loop r')):=⟨h.bel.os,h.bel.tape,h.bel.output,by simpa using h.bel.size,λk hk=>(World.putObj_heap_other (by omega)).trans (h.bel.block k hk)⟩
 have k:∀ {j:Nat} {x:Obj},j≠L->W.heap[j]?=some x->(W.putObj L (.loop r')).heap[j]?=some x:=λhj hx=>(World.putObj_heap_other hj).trans hx
 exact ⟨World.putObj_heap_same hlt,k (by omega) h.dd,k (by omega) h.b0,k (by omega) h.b1,k (by omega) h.b2,k (by omega) h.b3,k (by omega) h.b4,k (by omega) h.b5,hb,h.ml,quu h.own λj x hj hx=>k (by omega) hx,by simpa using h.sz⟩
theorem set1 {W:World} {p:Nat} {y a:Value} {t:TypeId} (h:W.heap[p]?=some (.cells #[y] t)):(W.setCell ⟨p,0,none⟩ a).heap[p]?=some (.cells #[a] t):=by
 simp [World.setCell,Array.getElem?_modify,h]
theorem setO {W:World} {p j:Nat} {x:Obj} {a:Value} (h:W.heap[j]?=some x) (hj:j≠p):(W.setCell ⟨p,0,none⟩ a).heap[j]?=some x :=
 (Below.heap_setCell W ⟨p,0,none⟩ a j hj).trans h
theorem Bq.setS (h:Bq w W L D r p0 p1 p2 p3 p4 p5 o s mm out e l) (N:Nq w L D p0 p1 p2 p3 p4 p5 o) (v:Value):Bq w (W.setCell ⟨p3,0,none⟩ v) L D r p0 p1 p2 p3 p4 p5 o v mm out e l:=by
 obtain ⟨n0,n1,n2,n3,n4,n5,nD,nL,no⟩:=N
 have hb:Bel w (W.setCell ⟨p3,0,none⟩ v):=h.bel.setCell (p:=⟨p3,0,none⟩) (by show w.heap.size<=p3;omega) v
 exact ⟨setO h.lp (by omega),setO h.dd (by omega),setO h.b0 (by omega),setO h.b1 (by omega),setO h.b2 (by omega),set1 h.b3,setO h.b4 (by omega),setO h.b5 (by omega),hb,h.ml,quu h.own λj x hj hx=>setO hx (by omega),by simpa using h.sz⟩
theorem Bq.setE (h:Bq w W L D r p0 p1 p2 p3 p4 p5 o s mm out e l) (N:Nq w L D p0 p1 p2 p3 p4 p5 o) (n:Nat):Bq w (W.setCell ⟨p1,0,none⟩ (.int .i64 (n:Int))) L D r p0 p1 p2 p3 p4 p5 o s mm out n l:=by
 obtain ⟨n0,n1,n2,n3,n4,n5,nD,nL,no⟩:=N
 have hb:Bel w (W.setCell ⟨p1,0,none⟩ (.int .i64 (n:Int))):=h.bel.setCell (p:=⟨p1,0,none⟩) (by show w.heap.size<=p1;omega) _
 exact ⟨setO h.lp (by omega),setO h.dd (by omega),setO h.b0 (by omega),set1 h.b1,setO h.b2 (by omega),setO h.b3 (by omega),setO h.b4 (by omega),setO h.b5 (by omega),hb,h.ml,quu h.own λj x hj hx=>setO hx (by omega),by simpa using h.sz⟩
theorem Bq.grow (h:Bq w W L D r p0 p1 p2 p3 p4 p5 o s mm out e l) (N:Nq w L D p0 p1 p2 p3 p4 p5 o) (hg:W.grownBy W' out.ownBlock) (ho:W'.ownsRow o 5 1 out' l'.length (rowB l')):Bq w (W'.setCell ⟨p0,0,none⟩ out') L D r p0 p1 p2 p3 p4 p5 o s mm out' e l':=by
 obtain ⟨n0,n1,n2,n3,n4,n5,nD,nL,no⟩:=N
 have hob:∀ j,out.ownBlock=some j->o<=j:=λj hj=>by
  rcases h.own.2 with ⟨e,_⟩|⟨g,cap,cur,e,hgo,_⟩
  ·subst e;cases hj
  ·subst e;injection hj with hj;subst hj;exact hgo
 have ne:∀ {j:Nat} {x:Obj},W.heap[j]?=some x->j<o->W'.heap[j]?=some x:=λ{j x} hx hj=>(hg.block j (Array.getElem?_eq_some_iff.1 hx).1 (λe=>by have:=hob j e.symm;omega)).trans hx
 have hb:Bel w W':=by
  refine ⟨hg.os.trans h.bel.os,hg.tape.trans h.bel.tape,hg.output.trans h.bel.output,Nat.le_trans h.bel.size hg.size,λj hj=>?_⟩
  have h1:=h.bel.size
  exact (hg.block j (by omega) (λe=>by have:=hob j e.symm;omega)).trans (h.bel.block j hj)
 have hb2:Bel w (W'.setCell ⟨p0,0,none⟩ out'):=hb.setCell (p:=⟨p0,0,none⟩) (by show w.heap.size<=p0;omega) _
 exact ⟨setO (ne h.lp (by omega)) (by omega),setO (ne h.dd (by omega)) (by omega),set1 (ne h.b0 (by omega)),setO (ne h.b1 (by omega)) (by omega),setO (ne h.b2 (by omega)) (by omega),setO (ne h.b3 (by omega)) (by omega),setO (ne h.b4 (by omega)) (by omega),setO (ne h.b5 (by omega)) (by omega),hb2,h.ml,quu ho λj x hj hx=>setO hx (by omega),by have:=h.sz;have:=hg.size;simp;omega⟩
end
theorem Bq.kept0 {w W W':World} {L D:Nat} {r:Loop} {p0 p1 p2 p3 p4 p5 o:Nat} {s out:Value} {mm:Int} {e:Nat} {l:List UInt8} (h:Bq w W L D r p0 p1 p2 p3 p4 p5 o s mm out e l) (N:Nq w L D p0 p1 p2 p3 p4 p5 o) (hg:W.grownBy W' out.ownBlock):W'.heap[p0]?=some (.cells #[out] 26):=by
 obtain ⟨n0,n1,n2,n3,n4,n5,nD,nL,no⟩:=N
 refine (hg.block p0 (Array.getElem?_eq_some_iff.1 h.b0).1 λhe=>?_).trans h.b0
 rcases h.own.2 with ⟨e1,_⟩|⟨g,cap,cur,e1,hgo,_⟩
 ·subst e1;cases he
 ·subst e1
  have he2:p0=g:=Option.some.inj he
  omega
theorem conv8 {W:World} {v:Value} {xs:List Int} (h:Sl8 W v xs) (h8:U8 xs):(convert 26 9 v).run Tryz.prog W=.ok (.string (ofB xs)) W:=by
 obtain ⟨A,c,rfl,hc,hcm,hA,hcell⟩:=h
 have hr:RepC (λb o=>W.cell? ⟨b,o,none⟩) (.slice A xs.length c) (.sl (xs.map λx=>[C.int .u8 x])):=by
  by_cases hx:xs=[]
  ·subst hx
   exact qxw _ (by simpa using hcm) hA
  ·have h0:0<xs.length:=List.length_pos_iff.2 hx
   cases A with
   |none=>have:=hA rfl;omega
   |some a =>
    have ha:=Lib.plain_of_cell (by have:=hcell a rfl 0 xs[0] (List.getElem?_eq_getElem h0);simpa [Addr.add] using this:W.cell? a=some (.int .u8 xs[0]))
    obtain ⟨b,off,sp⟩:=a
    simp only [Addr.mk.injEq,true_and] at ha
    subst ha
    refine .sl _ xs.length c 1 b off (λj=>.int .u8 (xs.getD j 0)) _ (by simp) hc hcm (λe he=>by obtain ⟨x,_,rfl⟩:=List.mem_map.1 he;rfl) (λ_=>rfl) ?_ ?_ (by simp)
    ·intro i e j x he hx
     rw [x14q] at he
     cases hi:xs[i]? with
     |none=>rw [hi] at he;cases he
     |some y =>
      rw [hi] at he
      injection he with he
      subst he
      match j,hx with
      |0,hx =>
       have h1:=hcell _ rfl i y hi
       rw [Lib.add_plain'] at h1
       show W.cell? ⟨b,off+(i*1+0),none⟩=_
       rw [show off+(i*1+0)=off+i by omega,h1]
       simp [List.getD_eq_getElem?_getD,hi]
      |j+1,hx=>simp at hx
    ·intro i e j x he hx
     rw [x14q] at he
     cases hi:xs[i]? with
     |none=>rw [hi] at he;cases he
     |some y =>
      rw [hi] at he
      injection he with he
      subst he
      match j,hx with
      |0,hx =>
       simp at hx
       subst hx
       have e1:xs.getD (i*1+0) 0=y:=by simp [List.getD_eq_getElem?_getD,hi]
       show RepC _ (.int .u8 (xs.getD (i*1+0) 0)) _
       rw [e1]
       exact .int _ _
      |j+1,hx=>simp at hx
 refine qbn (l:=Lib.bytesOf xs) (q8s (Z:=λb o=>W.cell? ⟨b,o,none⟩) (λ_ _ _ h=>h) hr ?_) ⟨_,_,_,rfl⟩
 clear hcell hr hc hcm hA
 induction xs with
 |nil=>rfl
 |cons x xs ih =>
  have h1:=ih (λy hy=>h8 y (List.mem_cons_of_mem _ hy))
  have hx:=h8 x (by simp)
  simp only [List.map_cons,bytesOf,h1]
  rfl
theorem q3v {F:Fence} {n:Nat} {P:Program} {lq:Nat} {o:Oper} {a:Act} {w w':World} {K:Act->World->Prop} {Q:Exit->Act->World->Prop} (s x:Operand) (t u:TypeId) (hop:o.op=Op.call { callee:=Callee.builtin Builtin.append,args:=#[s,x],argTypes:=#[t,u] })
  {v xv v':Value} (hs:a.eval s=v) (hx:a.eval x=xv) (hrun:(Builtin.append_ #[t,u] o.type #[v,xv]).run P w=.ok v' w'):Oper.wpIn (F.inRound lq) n P o a w K Q=K (a.put o.dst v') w':=by
 unfold Oper.wpIn
 have h1:∀ f,o.about P w a.eval=some f->(F.inRound lq).fn f:=by
  simp [Oper.about,hop,resolve,Target.leads,Sem.run_pure]
 have h2:((o.semAt (F.inRound lq).round a.eval).run P w)=.ok (.value v') w':=by
  rw [Oper.semAt_eq _ _ _ (by rw [hop];intro c hc';cases hc')]
  simp [execOp,hop,resolve,invoke,builtin,hs,hx,hrun,Result.andThen]
 rw [h2,Oper.uponIn_value]
 exact propext ⟨λh=>h.2,λh=>⟨h1,h⟩⟩
theorem qxy (e:Nat) (he:e<=1000000) (w:World):Calls Tryz.prog 62 #[.string ⟨#[13,10]⟩,.int .i64 (e:Int)] w λx w'=>x=.returned (.string ⟨((List.replicate e crlfB).flatten).toArray⟩)/\Bel w w' :=
 (Any.strings_Repeat lays105 qa ⟨#[13,10]⟩ e w (by omega) (by show 2*e<=_;omega)).mono λx w' h=>⟨by
  rw [h.1]
  have:∀ n:Nat,Lib.repeatL crlfB n=(List.replicate n crlfB).flatten:=λn=>by
   induction n with
   |zero=>rfl
   |succ n ih=>rw [Lib.repeatL,ih,List.replicate_succ,List.flatten_cons]
  rw [←this]
  rfl,⟨h.2.os,h.2.tape,h.2.output,h.2.size,h.2.block⟩⟩
theorem q47 {W:World} {o:Nat} {v:Value} {l:List UInt8} (h:W.ownsRow o 5 1 v l.length (rowB l)) (ho:o<=W.heap.size) (s:BA) (hl:l.length<=4000000) (hs:s.size<=8000000) :
  ∃ v' W',(Builtin.append_ #[26,9] 26 #[v,.string s]).run Tryz.prog W=.ok v' W'/\W'.ownsRow o 5 1 v' (l++s.data.toList).length (rowB (l++s.data.toList))/\W.grownBy W' v.ownBlock:=by
 obtain ⟨i0,z,hi,hsz,hz,hb⟩:=u8Info
 have hz0:i0.zero=some (.int .u8 0):=by
  have h1:(Tryz.prog.info? 5).bind (·.zero)=some (.int .u8 0):=by kernel_rfl
  rw [hi] at h1
  exact h1
 obtain ⟨v',W',r1,r2,r3,_⟩:=Lib.run_append_own_string (P:=Tryz.prog) (w:=W) o 26 9 26 5 i0 Tryz.underlying26 Tryz.underlying9 hi hz0 hsz hb v l.length (rowB l) h s (by unfold maxLen;omega) (by omega) ho
 refine ⟨v',W',r1,?_,r3⟩
 have e1:(l++s.data.toList).length=l.length+s.size:=by rw [x12q,x24q];rfl
 have e2:rowB (l++s.data.toList)=rowB l++Lib.strCells s:=by unfold rowB Lib.strCells;rw [List.map_append]
 rw [e1,e2]
 exact r2
set_option maxHeartbeats 4000000 in
set_option maxRecDepth 100000 in
theorem q7z (sq:BA->BA) (hsl:∀ s,(sq s).size<=s.size) (hsq:∀ s:BA,s.size<=1000000->CallOk Tryz.prog 116 [.c (.str s)] (.c (.str (sq s)),[])) (A:Oq Addr) (n c:Nat) (xs:List Int) (w:World) (hG:GW w) (h0:Sl8 w (.slice A n c) xs) (h8:U8 xs) (hn:xs.length<=1000000) :
  CallsIn Fence.wide 6 Tryz.prog 82 #[.slice A n c] w λe w'=>∃ v,e=.returned v/\Bel w w'/\w'.ownsRow (w.heap.size+8) 5 1 v (bodL sq xs).length (rowB (bodL sq xs)):=by
 obtain ⟨mm,hml⟩:∃ mm,w.cell? ⟨0,0,none⟩=some (.int .i64 mm):=by have h:=hG;unfold GW at h;exact h.1
 have kc:=Lib.run_convert_bytes_const (P:=Tryz.prog) ((w.alloc (.cells #[.slice none 0 0] 26)).alloc (.cells #[.int .i64 0] 3)) 26 5 #[.int .u8 13,.int .u8 10] 2 2 Tryz.underlying26 Tryz.underlying5
 simp only [World.size_alloc] at kc
 refine callsIn_of_wp_marks Tryz.func82 rfl trivial ?_ rfl
 simp only [Tryz.ntmps82,List.size_toArray,x9q,x8q,Nat.reduceAdd,Nat.reduceSub,Array.replicate_succ,Array.replicate_zero,List.push_toArray,List.append_toArray,List.nil_append,List.cons_append]
 gi_wp2_with (first|(rw [kc];simp only [Result.andThen,Oper.uponIn_value])|skip;refine ⟨trivial,(callsIn_wide.2 (q181 _ _ _ _ _ _ _)).mono ?_⟩;rintro e w' ⟨rfl,rfl⟩)
 generalize hW0:spW _ _ _=W0
 have hs0:W0.heap.size=w.heap.size+6:=by rw [←hW0];simp [spW]
 have hb0:Bel w W0:=by rw [←hW0];exact ((((((Bel.refl w).alloc _).alloc _).alloc _).alloc _).alloc _).alloc _
 have s6:=six w (.cells #[.slice none 0 0] 26) (.cells #[.int .i64 0] 3) (.cells #[.int .u8 13,.int .u8 10] 5 (2,3)) (.cells #[.slice A n c] 26) (.cells #[.slice (some ⟨w.heap.size+1+1,0,none⟩) 2 2] 26) (.cells #[.int .i64 0] 3)
 unfold spW at hW0
 rw [hW0] at s6
 obtain ⟨b0,b1,b2,b3,b4,b5⟩:=s6
 clear hW0 kc
 refine qxf rfl (by decide) (gf:=157) (lb:=#[.pointer (some ⟨w.heap.size+1+1+1+1,0,none⟩),.pointer (some ⟨w.heap.size+1+1+1,0,none⟩),.pointer (some ⟨w.heap.size+1+1+1+2,0,none⟩)]) rfl trivial (enters_of Tryz.func157 (by kernel_rfl) rfl) ?_
 intro fn hfn
 generalize hW1:(W0.alloc (.deferred (some []))).alloc _=W1
 have hK:W1.heap[w.heap.size+6]?=some (.deferred (some [])):=by rw [←hW1];exact q1b _ (q19 _ _ hs0.symm)
 have hL:=q19 (W0.alloc (.deferred (some []))) _ (k:=w.heap.size+7) (by simp [hs0]) |> (λh=>(congrArg (λW:World=>W.heap[w.heap.size+7]?) hW1).symm.trans h)
 have hold:∀ k x,W0.heap[k]?=some x->W1.heap[k]?=some x:=λk x h=>by rw [←hW1];exact q1b _ (q1b _ h)
 have hb1:Bel w W1:=by rw [←hW1];exact (hb0.alloc _).alloc _
 have hs1:W1.heap.size=w.heap.size+8:=by rw [←hW1];simp [hs0]
 replace b0:=hold _ _ b0
 replace b1:=hold _ _ b1
 replace b2:=hold _ _ b2
 replace b3:=hold _ _ b3
 replace b4:=hold _ _ b4
 replace b5:=hold _ _ b5
 clear hW1 hold hb0
 rw [hs0] at hL ⊢
 revert hL
 generalize hrec:recL fn _ _ _ _ _=rec
 intro hL
 have hN:Nq w (w.heap.size+7) (w.heap.size+6) w.heap.size (w.heap.size+1) (w.heap.size+1+1) (w.heap.size+1+1+1) (w.heap.size+1+1+1+1) (w.heap.size+1+1+1+2) (w.heap.size+8):=⟨rfl,rfl,rfl,rfl,rfl,rfl,rfl,rfl,rfl⟩
 have hB1:Bq w W1 (w.heap.size+7) (w.heap.size+6) (rec .ready none) w.heap.size (w.heap.size+1) (w.heap.size+1+1) (w.heap.size+1+1+1) (w.heap.size+1+1+1+1) (w.heap.size+1+1+1+2) (w.heap.size+8) (.slice A n c) mm (.slice none 0 0) 0 [] :=
  ⟨hL,hK,b0,b1,b2,b3,b4,b5,hb1,hml,World.ownsRow_nil W1 _ _ 1,by rw [hs1];exact Nat.le_refl _⟩
 clear b0 b1 b2 b3 b4 b5 hK hL hb1 hs1 hs0 hml
 revert hN hB1 hrec
 generalize w.heap.size+1+1+1+2=p5
 generalize w.heap.size+1+1+1+1=p4
 generalize w.heap.size+1+1+1=p3
 generalize w.heap.size+1+1=p2
 generalize w.heap.size+1=p1
 have h7:w.heap.size+6+1=w.heap.size+7:=rfl
 rw [h7]
 generalize hL7:w.heap.size+7=L7
 generalize hD6:w.heap.size+6=D6
 generalize ho8:w.heap.size+8=o8
 generalize hp0:w.heap.size=p0
 intro hrec hN hB1
 have hszw:Aside (w.heap.size+8=o8):=ho8
 have hround:∀ (R:Ending->World->Prop) s v W m out (e:Nat) l ps,Bq w W L7 D6 (rec .ready none) p0 p1 p2 p3 p4 p5 o8 s mm out e l->Sl8 W v ps->U8 ps->ps.length<=1000000->e<=1000000->l.length<=4000000 ->
   (∀ W3 out' (e':Nat) l',Bq w W3 L7 D6 (rec .ready none) p0 p1 p2 p3 p4 p5 o8 s mm out' e' l'->stepB sq (l,e) (ofB ps)=(l',e')->R (.returned (.bool true)) W3)->YieldAt Fence.wide m Tryz.prog L7 #[v] W R:=by
  intro R s v W m out e l ps hB hv hv8 hpl he1 hl1 hR
  have hL':=hB.lp
  rw [←hrec] at hL'
  refine q1ez trivial hL' rfl ?_
  rw [hrec]
  gi_wp2_with (rw [Oper.semAt_eq _ _ _ (λc h=>by cases h)];go_simp;try go_bits)
  intro W2 hW2
  have hB2:Bq w W2 L7 D6 (rec .busy none) p0 p1 p2 p3 p4 p5 o8 s mm out e l:=by
   rw [hW2]
   exact hB.put hN
  have hv2:Sl8 W2 v ps:=by
   obtain ⟨A',c',e',h1,h2,h3,h4⟩:=hv
   refine ⟨A',c',e',h1,h2,h3,λa ha i x hx=>?_⟩
   have hc:=h4 a ha i x hx
   rw [hW2,World.cell?_of_block (World.putObj_heap_other (λhq=>by
    have h5:=hB.lp
    rw [←hq] at h5
    simp [World.cell?,h5] at hc))]
   exact hc
  clear hW2 hL' hv hB
  have hcv:=conv8 hv2 hv8
  have hsqc:=hsq (ofB ps) (by rw [qu5];exact hpl)
  generalize hsv:sq (ofB ps)=sv at hsqc
  gi_wp2_with (first
   |(rw [hcv];simp only [Result.andThen,Oper.uponIn_value])
   |(rw [Oper.semAt_eq _ _ _ (λc h=>by cases h)];go_simp;try go_bits))
  refine ⟨trivial,(λh=>by cases h),CallsIn.mono (show CallsIn (Fence.wide.inRound _) _ _ _ _ _ _ from callsIn_wide.2 (q91 hsqc _ (gwb hG hB2.bel))) ?_⟩
  rintro e1 w2 ⟨rfl,hb2⟩
  have hB3:=hB2.later hb2
  clear hcv hsqc hv2 hB2 hb2
  have g1:w2.cell? ⟨p1,0,none⟩=some (.int .i64 (e:Int)):=(qao hB3.b1).trans rfl
  have g2:w2.frozen? ⟨p1,0,none⟩=false:=frz_at hB3.b1
  have hfin:∀ (W3:World) out' (e':Nat) l',Bq w W3 L7 D6 (rec .busy none) p0 p1 p2 p3 p4 p5 o8 s mm out' e' l'->stepB sq (l,e) (ofB ps)=(l',e')->rndPost L7 rec R Exit.normal { tmps:=#[],defers:=[] } W3:=λW3 out' e' l' hB' he =>
   ⟨hB'.lp,hR _ out' e' l' (hB'.put (r':=rec .ready none) hN) he⟩
  by_cases hse:sv=⟨#[]⟩
  ·subst hse
   gi_wp2_with (rw [Oper.semAt_eq _ _ _ (λc h=>by cases h)];go_simp;try go_bits)
   have:=hfin _ out (e+1) l (hB3.setE hN (e+1)) (by unfold stepB;rw [if_pos hsv])
   simpa [rndPost] using this
  ·have hse2:sv.toList.isEmpty=false:=by
    rw [List.isEmpty_eq_false_iff,ByteArray.toList_eq]
    exact λh=>hse (ByteArray.ext (Array.toList_inj.1 h))
   gi_wp2_with (rw [Oper.semAt_eq _ _ _ (λc h=>by cases h)];go_simp;try go_bits)
   have hsz:sv.size<=1000000:=by rw [←hsv];have:=hsl (ofB ps);rw [qu5] at this;omega
   have hfl:=qh0 e
   have hst2:stepB sq (l,e) (ofB ps)=(l++((List.replicate e crlfB).flatten++sv.data.toList++crlfB),0):=by unfold stepB;rw [hsv,if_neg hse]
   have hrep:=qxy e he1
   generalize (List.replicate e crlfB).flatten=rl at hrep hst2 hfl
   have hc1:¬ (9223372036854775807<rl.length+sv.size):=by omega
   have hc2:¬ (9223372036854775807<rl.length+sv.size+2):=by omega
   have happ:∀ W,Bq w W L7 D6 (rec .busy none) p0 p1 p2 p3 p4 p5 o8 s mm out e l->∃ A3 n3 c3 W',(∀ (o:Oper) (a:Act) K Q,o.op=Op.call { callee:=Callee.builtin Builtin.append,args:=#[.tmp 19,.tmp 24],argTypes:=#[26,9] }->o.type=26->a.eval (.tmp 19)=out->a.eval (.tmp 24)=.string (((⟨rl.toArray⟩:BA)++sv)++⟨#[13,10]⟩)->Oper.wpIn (Fence.wide.inRound L7) m Tryz.prog o a W K Q=K (a.put o.dst (.slice A3 n3 c3)) W')/\W'.cell? ⟨p0,0,none⟩=some out/\W'.frozen? ⟨p0,0,none⟩=false/\Bq w (W'.setCell ⟨p0,0,none⟩ (.slice A3 n3 c3)) L7 D6 (rec .busy none) p0 p1 p2 p3 p4 p5 o8 s mm (.slice A3 n3 c3) e (l++(rl++sv.data.toList++crlfB)):=λW hW=>by
    have es:((((⟨rl.toArray⟩:BA)++sv)++⟨#[13,10]⟩):BA).data.toList=rl++sv.data.toList++crlfB:=by
     simp [ByteArray.data_append,crlfB]
    obtain ⟨v',W',r1,r2,r3⟩:=q47 hW.own hW.sz (((⟨rl.toArray⟩:BA)++sv)++⟨#[13,10]⟩) hl1 (by
     have:((((⟨rl.toArray⟩:BA)++sv)++⟨#[13,10]⟩):BA).size=rl.length+sv.size+2:=by simp [ByteArray.size_append];rfl
     omega)
    rw [es] at r2
    have hG2:=hW.grow hN r3 r2
    have hp:=hW.kept0 hN r3
    obtain ⟨A3,n3,c3,hv'⟩:∃ A3 n3 c3,v'=.slice A3 n3 c3:=by
     rcases r2.2 with ⟨e1,_⟩|⟨g,cap,cur,e1,_⟩
     ·exact ⟨_,_,_,e1⟩
     ·exact ⟨_,_,_,e1⟩
    subst hv'
    exact ⟨A3,n3,c3,W',λo a K Q ho ht h1 h2=>q3v _ _ _ _ ho h1 h2 (by rw [ht];exact r1),(qao hp).trans rfl,frz_at hp,hG2⟩
   have hmo:=mo_okY
   have hsem:∀ (l:Nat) (ρ:Operand->Value) (o:Oper),(∀ c,o.op≠.defer c)->Oper.semAt (some l) ρ o=execOp ρ o:=Oper.semAt_some
   have hfr:Fence.wide.fn 62:=trivial
   have hdp:Fence.wide.depth.isSome=false:=rfl
   have g0:w2.drew.cell? ⟨p0,0,none⟩=some out:=(qao hB3.b0).trans rfl
   have g3:w2.drew.cell? ⟨p1,0,none⟩=some (.int .i64 (e:Int)):=g1
   have HB:Aside (Bq w w2.drew L7 D6 (rec .busy none) p0 p1 p2 p3 p4 p5 o8 s mm out e l):=hB3.later (Bel.refl w2).drew
   have HN:Aside (Nq w L7 D6 p0 p1 p2 p3 p4 p5 o8):=hN
   clear hB3 hN hfl hsl hsq hv8 hse hsv h0 h8 hn hB1 hR hpl he1 hl1
   refine wpIn_region_any hmo ?_
   change wpAnyIn _ _ _ _ _ _ _ _ _ (World.drew _)
   refine wpAnyIn_ready (rs:=[0,1,3]) (by kernel_rfl) (by simp) ?_
   refine AllReadyIn.cons rfl (λK hK=>?_) ?_
   go_simp
   refine hK _ _ ?_;clear hK K
   refine wpAnyIn_ready (rs:=[1,3]) (by kernel_rfl) (by simp) ?_
   refine AllReadyIn.cons rfl (λK hK=>?_) ?_
   go_simp
   refine hK _ _ ?_;clear hK K
   refine wpAnyIn_ready (rs:=[2,3]) (by kernel_rfl) (by simp) ?_
   refine AllReadyIn.cons rfl (λK hK=>?_) ?_
   go_simp
   gi_at_call 62;refine (CallsIn.inRound _ (callsIn_wide.2 (hrep _))).mono ?_;rintro e1 w3 ⟨rfl,hb3⟩;have hB4:=HB.out.later hb3;have q0:w3.cell? ⟨p0,0,none⟩=some out:=(qao hB4.b0).trans rfl;obtain ⟨A3,n3,c3,w4,qr,q1,q2,hB5⟩:=happ w3 hB4
   refine hK _ _ ?_;clear hK K
   refine wpAnyIn_ready (rs:=[3]) (by kernel_rfl) (by simp) ?_
   refine AllReadyIn.cons rfl (λK hK=>?_) ?_
   go_simp
   refine hK _ _ ?_;clear hK K
   refine wpAnyIn_ready (rs:=[4]) (by kernel_rfl) (by simp) ?_
   refine AllReadyIn.cons rfl (λK hK=>?_) ?_
   go_simp
   refine hK _ _ ?_;clear hK K
   refine wpAnyIn_ready (rs:=[5]) (by kernel_rfl) (by simp) ?_
   refine AllReadyIn.cons rfl (λK hK=>?_) ?_
   go_simp
   refine hK _ _ ?_;clear hK K
   rotate_left
   exact AllReadyIn.nil
   exact AllReadyIn.nil
   exact AllReadyIn.nil
   refine AllReadyIn.cons rfl (λK hK=>?_) ?_
   go_simp
   refine hK _ _ ?_;clear hK K
   refine wpAnyIn_ready (rs:=[2]) (by kernel_rfl) (by simp) ?_
   refine AllReadyIn.cons rfl (λK hK=>?_) ?_
   go_simp
   gi_at_call 62;refine (CallsIn.inRound _ (callsIn_wide.2 (hrep _))).mono ?_;rintro e1 w3 ⟨rfl,hb3⟩;have hB4:=HB.out.later hb3;have q0:w3.cell? ⟨p0,0,none⟩=some out:=(qao hB4.b0).trans rfl;obtain ⟨A3,n3,c3,w4,qr,q1,q2,hB5⟩:=happ w3 hB4
   refine hK _ _ ?_;clear hK K
   refine wpAnyIn_ready (rs:=[4]) (by kernel_rfl) (by simp) ?_
   refine AllReadyIn.cons rfl (λK hK=>?_) ?_
   go_simp
   refine hK _ _ ?_;clear hK K
   refine wpAnyIn_ready (rs:=[5]) (by kernel_rfl) (by simp) ?_
   refine AllReadyIn.cons rfl (λK hK=>?_) ?_
   go_simp
   refine hK _ _ ?_;clear hK K
   rotate_left
   exact AllReadyIn.nil
   exact AllReadyIn.nil
   exact AllReadyIn.nil
   exact AllReadyIn.nil
   refine AllReadyIn.cons rfl (λK hK=>?_) ?_
   go_simp
   refine hK _ _ ?_;clear hK K
   refine wpAnyIn_ready (rs:=[1]) (by kernel_rfl) (by simp) ?_
   refine AllReadyIn.cons rfl (λK hK=>?_) ?_
   go_simp
   refine hK _ _ ?_;clear hK K
   refine wpAnyIn_ready (rs:=[2]) (by kernel_rfl) (by simp) ?_
   refine AllReadyIn.cons rfl (λK hK=>?_) ?_
   go_simp
   gi_at_call 62;refine (CallsIn.inRound _ (callsIn_wide.2 (hrep _))).mono ?_;rintro e1 w3 ⟨rfl,hb3⟩;have hB4:=HB.out.later hb3;have q0:w3.cell? ⟨p0,0,none⟩=some out:=(qao hB4.b0).trans rfl;obtain ⟨A3,n3,c3,w4,qr,q1,q2,hB5⟩:=happ w3 hB4
   refine hK _ _ ?_;clear hK K
   refine wpAnyIn_ready (rs:=[4]) (by kernel_rfl) (by simp) ?_
   refine AllReadyIn.cons rfl (λK hK=>?_) ?_
   go_simp
   refine hK _ _ ?_;clear hK K
   refine wpAnyIn_ready (rs:=[5]) (by kernel_rfl) (by simp) ?_
   refine AllReadyIn.cons rfl (λK hK=>?_) ?_
   go_simp
   refine hK _ _ ?_;clear hK K
   rotate_left
   exact AllReadyIn.nil
   exact AllReadyIn.nil
   exact AllReadyIn.nil
   exact AllReadyIn.nil
   exact AllReadyIn.nil
   refine AllReadyIn.cons rfl (λK hK=>?_) ?_
   go_simp
   refine hK _ _ ?_;clear hK K
   refine wpAnyIn_ready (rs:=[0,2,3]) (by kernel_rfl) (by simp) ?_
   refine AllReadyIn.cons rfl (λK hK=>?_) ?_
   go_simp
   refine hK _ _ ?_;clear hK K
   refine wpAnyIn_ready (rs:=[2,3]) (by kernel_rfl) (by simp) ?_
   refine AllReadyIn.cons rfl (λK hK=>?_) ?_
   go_simp
   gi_at_call 62;refine (CallsIn.inRound _ (callsIn_wide.2 (hrep _))).mono ?_;rintro e1 w3 ⟨rfl,hb3⟩;have hB4:=HB.out.later hb3;have q0:w3.cell? ⟨p0,0,none⟩=some out:=(qao hB4.b0).trans rfl;obtain ⟨A3,n3,c3,w4,qr,q1,q2,hB5⟩:=happ w3 hB4
   refine hK _ _ ?_;clear hK K
   refine wpAnyIn_ready (rs:=[3]) (by kernel_rfl) (by simp) ?_
   refine AllReadyIn.cons rfl (λK hK=>?_) ?_
   go_simp
   refine hK _ _ ?_;clear hK K
   refine wpAnyIn_ready (rs:=[4]) (by kernel_rfl) (by simp) ?_
   refine AllReadyIn.cons rfl (λK hK=>?_) ?_
   go_simp
   refine hK _ _ ?_;clear hK K
   refine wpAnyIn_ready (rs:=[5]) (by kernel_rfl) (by simp) ?_
   refine AllReadyIn.cons rfl (λK hK=>?_) ?_
   go_simp
   refine hK _ _ ?_;clear hK K
   rotate_left
   exact AllReadyIn.nil
   exact AllReadyIn.nil
   exact AllReadyIn.nil
   refine AllReadyIn.cons rfl (λK hK=>?_) ?_
   go_simp
   refine hK _ _ ?_;clear hK K
   refine wpAnyIn_ready (rs:=[2]) (by kernel_rfl) (by simp) ?_
   refine AllReadyIn.cons rfl (λK hK=>?_) ?_
   go_simp
   gi_at_call 62;refine (CallsIn.inRound _ (callsIn_wide.2 (hrep _))).mono ?_;rintro e1 w3 ⟨rfl,hb3⟩;have hB4:=HB.out.later hb3;have q0:w3.cell? ⟨p0,0,none⟩=some out:=(qao hB4.b0).trans rfl;obtain ⟨A3,n3,c3,w4,qr,q1,q2,hB5⟩:=happ w3 hB4
   refine hK _ _ ?_;clear hK K
   refine wpAnyIn_ready (rs:=[4]) (by kernel_rfl) (by simp) ?_
   refine AllReadyIn.cons rfl (λK hK=>?_) ?_
   go_simp
   refine hK _ _ ?_;clear hK K
   refine wpAnyIn_ready (rs:=[5]) (by kernel_rfl) (by simp) ?_
   refine AllReadyIn.cons rfl (λK hK=>?_) ?_
   go_simp
   refine hK _ _ ?_;clear hK K
   rotate_left
   exact AllReadyIn.nil
   exact AllReadyIn.nil
   exact AllReadyIn.nil
   exact AllReadyIn.nil
   refine AllReadyIn.cons rfl (λK hK=>?_) ?_
   go_simp
   gi_at_call 62;refine (CallsIn.inRound _ (callsIn_wide.2 (hrep _))).mono ?_;rintro e1 w3 ⟨rfl,hb3⟩;have hB4:=HB.out.later hb3;have q0:w3.cell? ⟨p0,0,none⟩=some out:=(qao hB4.b0).trans rfl;obtain ⟨A3,n3,c3,w4,qr,q1,q2,hB5⟩:=happ w3 hB4
   refine hK _ _ ?_;clear hK K
   refine wpAnyIn_ready (rs:=[0,3]) (by kernel_rfl) (by simp) ?_
   refine AllReadyIn.cons rfl (λK hK=>?_) ?_
   go_simp
   refine hK _ _ ?_;clear hK K
   refine wpAnyIn_ready (rs:=[3]) (by kernel_rfl) (by simp) ?_
   refine AllReadyIn.cons rfl (λK hK=>?_) ?_
   go_simp
   refine hK _ _ ?_;clear hK K
   refine wpAnyIn_ready (rs:=[4]) (by kernel_rfl) (by simp) ?_
   refine AllReadyIn.cons rfl (λK hK=>?_) ?_
   go_simp
   refine hK _ _ ?_;clear hK K
   refine wpAnyIn_ready (rs:=[5]) (by kernel_rfl) (by simp) ?_
   refine AllReadyIn.cons rfl (λK hK=>?_) ?_
   go_simp
   refine hK _ _ ?_;clear hK K
   rotate_left
   exact AllReadyIn.nil
   exact AllReadyIn.nil
   exact AllReadyIn.nil
   refine AllReadyIn.cons rfl (λK hK=>?_) ?_
   go_simp
   refine hK _ _ ?_;clear hK K
   refine wpAnyIn_ready (rs:=[0,4]) (by kernel_rfl) (by simp) ?_
   refine AllReadyIn.cons rfl (λK hK=>?_) ?_
   go_simp
   refine hK _ _ ?_;clear hK K
   refine wpAnyIn_ready (rs:=[4]) (by kernel_rfl) (by simp) ?_
   refine AllReadyIn.cons rfl (λK hK=>?_) ?_
   go_simp
   refine hK _ _ ?_;clear hK K
   refine wpAnyIn_ready (rs:=[5]) (by kernel_rfl) (by simp) ?_
   refine AllReadyIn.cons rfl (λK hK=>?_) ?_
   go_simp
   refine hK _ _ ?_;clear hK K
   rotate_left
   exact AllReadyIn.nil
   exact AllReadyIn.nil
   refine AllReadyIn.cons rfl (λK hK=>?_) ?_
   go_simp
   refine hK _ _ ?_;clear hK K
   refine wpAnyIn_ready (rs:=[0,5]) (by kernel_rfl) (by simp) ?_
   refine AllReadyIn.cons rfl (λK hK=>?_) ?_
   go_simp
   refine hK _ _ ?_;clear hK K
   refine wpAnyIn_ready (rs:=[5]) (by kernel_rfl) (by simp) ?_
   refine AllReadyIn.cons rfl (λK hK=>?_) ?_
   go_simp
   refine hK _ _ ?_;clear hK K
   rotate_left
   exact AllReadyIn.nil
   refine AllReadyIn.cons rfl (λK hK=>?_) ?_
   go_simp
   refine hK _ _ ?_;clear hK K
   refine wpAnyIn_ready (rs:=[0]) (by kernel_rfl) (by simp) ?_
   refine AllReadyIn.cons rfl (λK hK=>?_) ?_
   go_simp
   refine hK _ _ ?_;clear hK K
   rotate_left
   exact AllReadyIn.nil
   exact AllReadyIn.nil
   exact AllReadyIn.nil
   exact AllReadyIn.nil
   refine AllReadyIn.cons rfl (λK hK=>?_) ?_
   go_simp
   refine hK _ _ ?_;clear hK K
   refine wpAnyIn_ready (rs:=[0,2]) (by kernel_rfl) (by simp) ?_
   refine AllReadyIn.cons rfl (λK hK=>?_) ?_
   go_simp
   refine hK _ _ ?_;clear hK K
   refine wpAnyIn_ready (rs:=[2]) (by kernel_rfl) (by simp) ?_
   refine AllReadyIn.cons rfl (λK hK=>?_) ?_
   go_simp
   gi_at_call 62;refine (CallsIn.inRound _ (callsIn_wide.2 (hrep _))).mono ?_;rintro e1 w3 ⟨rfl,hb3⟩;have hB4:=HB.out.later hb3;have q0:w3.cell? ⟨p0,0,none⟩=some out:=(qao hB4.b0).trans rfl;obtain ⟨A3,n3,c3,w4,qr,q1,q2,hB5⟩:=happ w3 hB4
   refine hK _ _ ?_;clear hK K
   refine wpAnyIn_ready (rs:=[4]) (by kernel_rfl) (by simp) ?_
   refine AllReadyIn.cons rfl (λK hK=>?_) ?_
   go_simp
   refine hK _ _ ?_;clear hK K
   refine wpAnyIn_ready (rs:=[5]) (by kernel_rfl) (by simp) ?_
   refine AllReadyIn.cons rfl (λK hK=>?_) ?_
   go_simp
   refine hK _ _ ?_;clear hK K
   rotate_left
   exact AllReadyIn.nil
   exact AllReadyIn.nil
   exact AllReadyIn.nil
   refine AllReadyIn.cons rfl (λK hK=>?_) ?_
   go_simp
   gi_at_call 62;refine (CallsIn.inRound _ (callsIn_wide.2 (hrep _))).mono ?_;rintro e1 w3 ⟨rfl,hb3⟩;have hB4:=HB.out.later hb3;have q0:w3.cell? ⟨p0,0,none⟩=some out:=(qao hB4.b0).trans rfl;obtain ⟨A3,n3,c3,w4,qr,q1,q2,hB5⟩:=happ w3 hB4
   refine hK _ _ ?_;clear hK K
   refine wpAnyIn_ready (rs:=[0,4]) (by kernel_rfl) (by simp) ?_
   refine AllReadyIn.cons rfl (λK hK=>?_) ?_
   go_simp
   refine hK _ _ ?_;clear hK K
   refine wpAnyIn_ready (rs:=[4]) (by kernel_rfl) (by simp) ?_
   refine AllReadyIn.cons rfl (λK hK=>?_) ?_
   go_simp
   refine hK _ _ ?_;clear hK K
   refine wpAnyIn_ready (rs:=[5]) (by kernel_rfl) (by simp) ?_
   refine AllReadyIn.cons rfl (λK hK=>?_) ?_
   go_simp
   refine hK _ _ ?_;clear hK K
   rotate_left
   exact AllReadyIn.nil
   exact AllReadyIn.nil
   refine AllReadyIn.cons rfl (λK hK=>?_) ?_
   go_simp
   refine hK _ _ ?_;clear hK K
   refine wpAnyIn_ready (rs:=[0,5]) (by kernel_rfl) (by simp) ?_
   refine AllReadyIn.cons rfl (λK hK=>?_) ?_
   go_simp
   refine hK _ _ ?_;clear hK K
   refine wpAnyIn_ready (rs:=[5]) (by kernel_rfl) (by simp) ?_
   refine AllReadyIn.cons rfl (λK hK=>?_) ?_
   go_simp
   refine hK _ _ ?_;clear hK K
   rotate_left
   exact AllReadyIn.nil
   refine AllReadyIn.cons rfl (λK hK=>?_) ?_
   go_simp
   refine hK _ _ ?_;clear hK K
   refine wpAnyIn_ready (rs:=[0]) (by kernel_rfl) (by simp) ?_
   refine AllReadyIn.cons rfl (λK hK=>?_) ?_
   go_simp
   refine hK _ _ ?_;clear hK K
   rotate_left
   exact AllReadyIn.nil
   exact AllReadyIn.nil
   exact AllReadyIn.nil
   exact AllReadyIn.nil
   exact AllReadyIn.nil
   refine AllReadyIn.cons rfl (λK hK=>?_) ?_
   go_simp
   refine hK _ _ ?_;clear hK K
   refine wpAnyIn_ready (rs:=[0,1]) (by kernel_rfl) (by simp) ?_
   refine AllReadyIn.cons rfl (λK hK=>?_) ?_
   go_simp
   refine hK _ _ ?_;clear hK K
   refine wpAnyIn_ready (rs:=[1]) (by kernel_rfl) (by simp) ?_
   refine AllReadyIn.cons rfl (λK hK=>?_) ?_
   go_simp
   refine hK _ _ ?_;clear hK K
   refine wpAnyIn_ready (rs:=[2]) (by kernel_rfl) (by simp) ?_
   refine AllReadyIn.cons rfl (λK hK=>?_) ?_
   go_simp
   gi_at_call 62;refine (CallsIn.inRound _ (callsIn_wide.2 (hrep _))).mono ?_;rintro e1 w3 ⟨rfl,hb3⟩;have hB4:=HB.out.later hb3;have q0:w3.cell? ⟨p0,0,none⟩=some out:=(qao hB4.b0).trans rfl;obtain ⟨A3,n3,c3,w4,qr,q1,q2,hB5⟩:=happ w3 hB4
   refine hK _ _ ?_;clear hK K
   refine wpAnyIn_ready (rs:=[4]) (by kernel_rfl) (by simp) ?_
   refine AllReadyIn.cons rfl (λK hK=>?_) ?_
   go_simp
   refine hK _ _ ?_;clear hK K
   refine wpAnyIn_ready (rs:=[5]) (by kernel_rfl) (by simp) ?_
   refine AllReadyIn.cons rfl (λK hK=>?_) ?_
   go_simp
   refine hK _ _ ?_;clear hK K
   rotate_left
   exact AllReadyIn.nil
   exact AllReadyIn.nil
   exact AllReadyIn.nil
   exact AllReadyIn.nil
   refine AllReadyIn.cons rfl (λK hK=>?_) ?_
   go_simp
   refine hK _ _ ?_;clear hK K
   refine wpAnyIn_ready (rs:=[0,2]) (by kernel_rfl) (by simp) ?_
   refine AllReadyIn.cons rfl (λK hK=>?_) ?_
   go_simp
   refine hK _ _ ?_;clear hK K
   refine wpAnyIn_ready (rs:=[2]) (by kernel_rfl) (by simp) ?_
   refine AllReadyIn.cons rfl (λK hK=>?_) ?_
   go_simp
   gi_at_call 62;refine (CallsIn.inRound _ (callsIn_wide.2 (hrep _))).mono ?_;rintro e1 w3 ⟨rfl,hb3⟩;have hB4:=HB.out.later hb3;have q0:w3.cell? ⟨p0,0,none⟩=some out:=(qao hB4.b0).trans rfl;obtain ⟨A3,n3,c3,w4,qr,q1,q2,hB5⟩:=happ w3 hB4
   refine hK _ _ ?_;clear hK K
   refine wpAnyIn_ready (rs:=[4]) (by kernel_rfl) (by simp) ?_
   refine AllReadyIn.cons rfl (λK hK=>?_) ?_
   go_simp
   refine hK _ _ ?_;clear hK K
   refine wpAnyIn_ready (rs:=[5]) (by kernel_rfl) (by simp) ?_
   refine AllReadyIn.cons rfl (λK hK=>?_) ?_
   go_simp
   refine hK _ _ ?_;clear hK K
   rotate_left
   exact AllReadyIn.nil
   exact AllReadyIn.nil
   exact AllReadyIn.nil
   refine AllReadyIn.cons rfl (λK hK=>?_) ?_
   go_simp
   gi_at_call 62;refine (CallsIn.inRound _ (callsIn_wide.2 (hrep _))).mono ?_;rintro e1 w3 ⟨rfl,hb3⟩;have hB4:=HB.out.later hb3;have q0:w3.cell? ⟨p0,0,none⟩=some out:=(qao hB4.b0).trans rfl;obtain ⟨A3,n3,c3,w4,qr,q1,q2,hB5⟩:=happ w3 hB4
   refine hK _ _ ?_;clear hK K
   refine wpAnyIn_ready (rs:=[0,4]) (by kernel_rfl) (by simp) ?_
   refine AllReadyIn.cons rfl (λK hK=>?_) ?_
   go_simp
   refine hK _ _ ?_;clear hK K
   refine wpAnyIn_ready (rs:=[4]) (by kernel_rfl) (by simp) ?_
   refine AllReadyIn.cons rfl (λK hK=>?_) ?_
   go_simp
   refine hK _ _ ?_;clear hK K
   refine wpAnyIn_ready (rs:=[5]) (by kernel_rfl) (by simp) ?_
   refine AllReadyIn.cons rfl (λK hK=>?_) ?_
   go_simp
   refine hK _ _ ?_;clear hK K
   rotate_left
   exact AllReadyIn.nil
   exact AllReadyIn.nil
   refine AllReadyIn.cons rfl (λK hK=>?_) ?_
   go_simp
   refine hK _ _ ?_;clear hK K
   refine wpAnyIn_ready (rs:=[0,5]) (by kernel_rfl) (by simp) ?_
   refine AllReadyIn.cons rfl (λK hK=>?_) ?_
   go_simp
   refine hK _ _ ?_;clear hK K
   refine wpAnyIn_ready (rs:=[5]) (by kernel_rfl) (by simp) ?_
   refine AllReadyIn.cons rfl (λK hK=>?_) ?_
   go_simp
   refine hK _ _ ?_;clear hK K
   rotate_left
   exact AllReadyIn.nil
   refine AllReadyIn.cons rfl (λK hK=>?_) ?_
   go_simp
   refine hK _ _ ?_;clear hK K
   refine wpAnyIn_ready (rs:=[0]) (by kernel_rfl) (by simp) ?_
   refine AllReadyIn.cons rfl (λK hK=>?_) ?_
   go_simp
   refine hK _ _ ?_;clear hK K
   rotate_left
   exact AllReadyIn.nil
   exact AllReadyIn.nil
   exact AllReadyIn.nil
   exact AllReadyIn.nil
   exact AllReadyIn.nil
   exact AllReadyIn.nil
   all_goals
    clear HB happ hrep g0 g1 g2 g3
    refine wpAnyIn_ready (rs:=[6]) (by kernel_rfl) (by simp) ?_
    refine AllReadyIn.cons rfl (λK hK=>?_) AllReadyIn.nil
    rw [if_pos (by rfl)]
    rw [qr _ _ _ _ rfl rfl rfl rfl]
    refine hK _ _ ?_;clear hK K qr
    refine wpAnyIn_ready (rs:=[7]) (by kernel_rfl) (by simp) ?_
    refine AllReadyIn.cons rfl (λK hK=>?_) AllReadyIn.nil
    go_simp
    refine hK _ _ ?_;clear hK K
    refine wpAnyIn_done (by kernel_rfl) ?_ _
    have k1:(w4.setCell ⟨p0,0,none⟩ (.slice A3 n3 c3)).cell? ⟨p1,0,none⟩=some (.int .i64 (e:Int)):=(qao hB5.b1).trans rfl
    have k2:(w4.setCell ⟨p0,0,none⟩ (.slice A3 n3 c3)).frozen? ⟨p1,0,none⟩=false:=frz_at hB5.b1
    generalize w4.setCell ⟨p0,0,none⟩ (.slice A3 n3 c3)=w5 at k1 k2 hB5 ⊢
    gi_wp2_with (rw [Oper.semAt_eq _ _ _ (λc h=>by cases h)];go_simp;try go_bits)
    have:=hfin _ (.slice A3 n3 c3) 0 _ (hB5.setE HN.out 0) hst2
    simpa [rndPost] using this
 refine (q17u L7 p4 p3 p5 p2 mm xs (.slice A n c) W1
  (λr s W=>∃ out e l f,Bq w W L7 D6 (rec .ready none) p0 p1 p2 p3 p4 p5 o8 s mm out e l/\Sl8 w s r/\U8 r/\r.length<f/\bodF sq f r (l,e)=bodF sq (xs.length+1) xs ([],0)/\l.length+2*e+r.length<=xs.length)
  (λr s W h=>by obtain ⟨out,e,l,f,h1,h2,h3,_,_,h4⟩:=h;exact ⟨h1.sp,h2.bel h1.bel,h3,by omega⟩)
  (λr s W q h=>by obtain ⟨out,e,l,f,h1,h2⟩:=h;exact ⟨out,e,l,f,h1.later ((Bel.refl W).drewN q),h2⟩)
  ⟨_,0,[],xs.length+1,hB1,h0,h8,Nat.lt_succ_self _,rfl,by simp⟩ ?_
  (λW=>∃ s out e,Bq w W L7 D6 (rec .ready none) p0 p1 p2 p3 p4 p5 o8 s mm out e (bodL sq xs)) ?_).mono ?_
 ·intro r s k v W m hJ hcut hv
  obtain ⟨out,e,l,f,hB,hS,hr8,hf,hbod,hlen⟩:=hJ
  have hroom:=qbr (xs:=r) (by omega)
  have hlk:(r.take k).length=k:=by rw [List.length_take];omega
  have hbod2:bodF sq (f - 1) (r.drop (k+2)) (stepB sq (l,e) (ofB (r.take k)))=bodF sq (xs.length+1) xs ([],0):=by
   obtain ⟨f,rfl⟩:∃ f',f=f'+1:=⟨f - 1,by omega⟩
   rw [←hbod]
   conv=>rhs;rw [bodF]
   rw [hcut,if_neg (by omega),x3q]
   rfl
  have hst:=q188 hsl (l,e) (ofB (r.take k))
  rw [qu5,hlk] at hst
  refine hround _ s v W m out e l (r.take k) hB hv (hr8.take k) (by omega) (by omega) (by omega) λW3 out' e' l' hB4 he=>⟨rfl,hB4.sp,λs' hs'=>⟨out',e',l',f - 1,hB4.setS hN s',hS.sub hs' (by omega) (by omega),hr8.drop _,by rw [List.length_drop];omega,by rw [←he];exact hbod2,?_⟩⟩
  rw [he] at hst
  rw [List.length_drop]
  simp only at hst
  omega
 ·intro r s v W m hJ hcut hv
  obtain ⟨out,e,l,f,hB,hS,hr8,hf,hbod,hlen⟩:=hJ
  refine hround _ s v W m out e l r hB hv hr8 (by omega) (by omega) (by omega) λW3 out' e' l' hB4 he=>⟨rfl,s,out',e',?_⟩
  have hl':l'=bodL sq xs:=by
   unfold bodL
   rw [←hbod]
   obtain ⟨f,rfl⟩:∃ f',f=f'+1:=⟨f - 1,by omega⟩
   rw [bodF,hcut,if_pos (by omega),he]
  rw [←hl']
  exact hB4
 ·rintro e1 W3 ⟨⟨v,rfl⟩,s,out,e,hB⟩
  have hend:(Instr.endLoop (D6+1)).run Tryz.prog W3=.ok none (W3.putObj (D6+1) (.loop { rec .ready none with state:=.exhausted })):=by
   have hlq:D6+1=L7:=by have:=hN.hD;have:=hN.hL;omega
   rw [hlq]
   have h:=run_endLoop (P:=Tryz.prog) hB.lp (by rw [←hrec];simp [recL])
   have hp:(rec .ready none).pending=none:=by rw [←hrec];rfl
   rw [h]
   show Result.ok (rec .ready none).pending _=_
   rw [hp]
   first|done|rfl|(simp only [hp];done)
  rw [show D6+1=L7 by have:=hN.hD;have:=hN.hL;omega] at hend
  have hB4:=hB.put (r':={ rec .ready none with state:=.exhausted }) hN
  generalize W3.putObj L7 (.loop { rec .ready none with state:=.exhausted })=W4 at hend hB4
  refine ⟨none,W4,hend,?_⟩
  have k1:W4.cell? ⟨p0,0,none⟩=some out:=(qao hB4.b0).trans rfl
  simp only
  gi_wp2
  have hq:=hB4.dd
  obtain ⟨n0,n1,n2,n3,n4,n5,nD,nL,no⟩:=hN
  have hbel:Bel w (W4.putObj D6 (.deferred none)):=⟨hB4.bel.os,hB4.bel.tape,hB4.bel.output,by simpa using hB4.bel.size,λk hk=>(World.putObj_heap_other (by omega)).trans (hB4.bel.block k hk)⟩
  refine ⟨by simp,.inl ⟨_,_,rfl,run_takeDeferred hq,?_⟩⟩
  exact ⟨_,results_tmp rfl _ _ _,out,rfl,hbel,by rw [show p0+8=o8 by omega];exact quu hB4.own λj x hj hx=>(World.putObj_heap_other (by omega)).trans hx⟩
end Go.Proofs.YtmlcmoaonaomfaaGreatDoor
