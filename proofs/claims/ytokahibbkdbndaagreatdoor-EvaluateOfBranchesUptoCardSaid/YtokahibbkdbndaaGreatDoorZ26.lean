/- A field folded; a header's checks. -/
import Derived.Test.YtokahibbkdbndaaGreatDoorZ25
namespace Go.Proofs.YtokahibbkdbndaaGreatDoor
open Go.RowKit
def foldP (n v:ByteArray) (r:(Nat × (Int × Int)) × List ByteArray):Prop:=r.1.1=r.2.length∧r.1.1≤100001∧szB r.2∧(r.1.2.1=0→fnameB n=true∧v.size≤4000)∧(fnameB n=true→v.size=0→r.1.2.1=0)
theorem qh3 (n v:ByteArray):Ok (qgh n v) (foldP n v):=.via qg0 (by
 unfold qgi
 refine qpc (q27j (qfu n)) fun r0 hr0=>?_
 subst hr0
 refine q27i (fun hb=>qpc (qf4 _ _) fun r hr=>qpd ?_) (fun hb=>?_)
 ·subst hr
  have hb:fnameB n=false:=by simpa using hb
  exact ⟨rfl,by simp,(fun e he=>by simp [EC.decL] at he),(fun h=>by simp at h),(fun h=>by rw [hb] at h;cases h)⟩
 ·have hb:fnameB n=true:=by simpa using hb
  have hn:n.size≤60:=by
   unfold fnameB at hb
   rw [Bool.and_eq_true,Bool.and_eq_true] at hb
   have:=of_decide_eq_true hb.2.1
   omega
  refine q27i (fun hv=>qpc (qf4 _ _) fun r hr=>qpd ?_) (fun hv=>?_)
  ·subst hr
   have:=of_decide_eq_true hv
   exact ⟨rfl,by simp,(fun e he=>by simp [EC.decL] at he),(fun h=>by simp at h),(fun _ h=>by omega)⟩
  ·have hv4:v.size≤4000:=by have:=of_decide_eq_false hv;omega
   refine qpc (q11p v (by omega)) fun r1 hr1=>q27i (fun hb1=>qpc (qf4 _ _) fun r hr=>qpd ?_) (fun hb1=>?_)
   ·subst hr
    exact ⟨rfl,by simp,(fun e he=>by simp [EC.decL] at he),(fun h=>by simp at h),(fun _ h=>by rw [hr1 h] at hb1;cases hb1)⟩
   ·have hc2:(ByteArray.mk (List.toArray [(58:UInt8),(32:UInt8)])).size=2:=rfl
    have hsz:((n++(ByteArray.mk (List.toArray [(58:UInt8),(32:UInt8)])))++v).size=n.size+2+v.size:=by rw [ByteArray.size_append,ByteArray.size_append,hc2]
    have hsz1:(n++(ByteArray.mk (List.toArray [(58:UInt8),(32:UInt8)]))).size=n.size+2:=by rw [ByteArray.size_append,hc2]
    rw [maxI,hc2,hsz1]
    refine q27i (fun h=>absurd (of_decide_eq_true h) (by omega)) (fun _=>q27i (fun h=>absurd (of_decide_eq_true h) (by omega)) (fun _=>?_))
    have hw:IntKind.i64.wrap ((n.size:Int)+2)=((n.size+2:Nat):Int):=by rw [q27x (by omega)];rfl
    rw [hw,qg]
    refine qpc (qgq _ _ _ 0 [] (Nat.le_refl _) rfl (by rw [hsz];omega) (by omega) (fun e he=>by cases he)) ?_
    intro r hr
    have fin:∀ (c d:Int) (s:ByteArray) (o:Nat) (l:List ByteArray),o=l.length→o≤100000→s.size≤100000→szB l→(n.size+2+v.size≤78→s.size≤78∧l=[]) →
      Ok (Option.bind (qg1 (o+1) (o+1) (((o+1:Nat)):Int) 0 c d (l++[s])) fun r4=>Sum.elim (fun r5=>some ((r5.1.1,(r5.2.2.1,r5.2.2.2)),r5.2.1)) (fun r5=>Option.bind q6e fun r6=>some ((r5.1.2.1,(r6.1,r6.2)),r5.2.2)) r4) (foldP n v):=by
     intro c d s o l ho h1 h2 h3 h4
     have hl:(l++[s]).length=o+1:=by simp [ho]
     have hz:=qz0 h3 h2
     have hwd:=q11w (o+1) c d (l++[s]) (by omega) (l++[s]).length 0 (by omega)
     rw [hl] at hwd
     refine qpc hwd ?_
     rintro (x|x) hx
     ·obtain ⟨x1,x2,x3,x4⟩:=hx
      refine qpd ⟨by rw [x1,x2];rfl,by rw [x1];omega,by rw [x2];exact (fun e he=>by cases he),(fun h=>by rw [x3] at h;cases h),(fun _ h0=>absurd (fun e he=>?_) x4)⟩
      obtain ⟨g1,g2⟩:=h4 (by omega)
      subst g2
      have:e=s:=by simpa using he
      rw [this];omega
     ·obtain ⟨x1,x2⟩:=hx
      refine qpc qp6 fun r6 hr6=>qpd ?_
      subst hr6
      exact ⟨by rw [x1,x2,hl],by rw [x1];omega,by rw [x2];exact hz,(fun _=>⟨hb,hv4⟩),(fun _ _=>rfl)⟩
    rcases r with r|r
    ·obtain ⟨q1,q2,q3,q4,q5⟩:=hr
     simp only [flQ,Sum.elim_inl] at q1 q2 q3 q4 q5
     have hf:=fin r.2.1.1 r.2.1.2 r.1.2.1 r.1.2.2.2.1 r.2.2 q1 q2 q3 q4 (fun h=>by
      have:=q5 (by rw [hsz];omega)
      rw [Prod.mk.injEq,Prod.mk.injEq] at this
      rw [this.1,this.2.2]
      exact ⟨by rw [hsz];omega,rfl⟩)
     show Ok (gdE _ _) _
     refine q27k (by simp [q268];omega) (q27k (by simp [EC.isL_encL,q26a]) ?_)
     simp only [EC.decL_encL,EC.isL_encL,q26a,q26z,if_true]
     exact hf
    ·obtain ⟨q1,q2,q3,q4,q5⟩:=hr
     simp only [flQ,Sum.elim_inr] at q1 q2 q3 q4 q5
     have hf:=fin r.2.1.1 r.2.1.2 r.1.2.1 r.1.2.2.1 r.2.2 q1 q2 q3 q4 (fun h=>by
      have:=q5 (by rw [hsz];omega)
      rw [Prod.mk.injEq,Prod.mk.injEq] at this
      rw [this.1,this.2.2]
      exact ⟨by rw [hsz];omega,rfl⟩)
     show Ok (gdE _ _) _
     refine q27k (by simp [q268];omega) (q27k (by simp [EC.isL_encL,q26a]) ?_)
     simp only [EC.decL_encL,EC.isL_encL,q26a,q26z,if_true]
     exact hf)
def fieldB (x:S55):Prop:=fnameB x.Name=true∧x.Value.size≤4000
theorem qkl (l:List S55) (hl:l.length≤60) (c d:Int):∀ m k:Nat,k+m=l.length→Ok (qjl l l.length k c d) fun x=>Sum.elim (fun r=>r.2.1≠0) (fun _=>∀ x∈l.drop k,fieldB x) x:=by
 intro m
 induction m with
 |zero =>
  intro k hk
  refine .via qjn ?_
  unfold qjs
  refine q27i (fun h=>?_) (fun _=>q27k (by simp [EC.isL_encL]) (qpd ?_))
  ·have:=of_decide_eq_true h
   omega
  ·rw [List.drop_eq_nil_of_le (by omega)]
   intro x hx;cases hx
 |succ m ih =>
  intro k hk
  have hlt:k<l.length:=by omega
  have e2:IntKind.i64.wrap ((k:Int)+1)=((k+1:Nat):Int):=by rw [q27x (by omega)];rfl
  refine .via qjn ?_
  unfold qjs
  simp only [EC.decL_encL,EC.isL_encL,EC.encL_length,isE_55,q4e,q4f,Int.toNat_natCast,e2]
  refine q27i (fun h=>?_) (fun h=>?_)
  ·refine q27k (by simp) (q27k (by simp [hlt]) ?_)
   refine qpc (qh3 _ _) fun r hr=>?_
   rw [qik hlt] at hr
   refine qpc (q27j (qf3 _ _)) fun r1 hr1=>?_
   subst hr1
   refine q27i (fun hb=>qpc (qf4 _ _) fun r2 hr2=>qpd ?_) (fun hb=>?_)
   ·subst hr2
    show r.1.2.1≠0
    simpa using hb
   ·have h0:r.1.2.1=0:=by simpa using hb
    refine q27k rfl ((ih (k+1) (by omega)).mono fun x hx=>?_)
    rcases x with x|x
    ·exact hx
    ·show ∀ y∈l.drop k,fieldB y
     rw [q97 hlt]
     intro y hy
     rcases List.mem_cons.1 hy with rfl|hy
     ·exact hr.2.2.2.1 h0
     ·exact hx y hy
  ·have:=of_decide_eq_false h
   omega
def hvalP (l:List S55) (r:Int × Int):Prop:=r.1=0→l.length≤60∧∀ x∈l,fieldB x
theorem qkm (l:List S55):Ok (qjt l) (hvalP l):=.via qjk (by
 unfold qju
 simp only [EC.decL_encL,EC.isL_encL,EC.encL_length]
 refine q27i (fun h=>qpc (qf4 _ _) fun r hr=>qpd ?_) (fun h=>q27k rfl ?_)
 ·subst hr
  intro h;cases h
 ·have hl:l.length≤60:=by have:=of_decide_eq_false h;omega
  refine qpc (qkl l hl 0 0 l.length 0 (by omega)) ?_
  rintro (r|r) hr
  ·exact qpd (fun h=>absurd h hr)
  ·refine qpc qp6 fun r2 hr2=>qpd ?_
   intro _
   exact ⟨hl,by rw [List.drop_zero] at hr;exact hr⟩)
theorem qkd (s:ByteArray):Ok (qjz s) fun r=>r=fnameB s:=.via qjy (by
 unfold qk0
 refine qpc (qh3 _ _) fun r hr=>?_
 refine qpc (q27j (qf3 _ _)) fun r1 hr1=>qpd ?_
 subst hr1
 obtain ⟨_,_,_,h1,h2⟩:=hr
 cases hb:fnameB s with
 |true=>rw [h2 hb rfl];rfl
 |false =>
  have:r.1.2.1≠0:=fun h=>by rw [(h1 h).1] at hb;cases hb
  simpa using this)
end Go.Proofs.YtokahibbkdbndaaGreatDoor
namespace Go.Proofs.YtokahibbkdbndaaGreatDoor
open Go.RowKit
theorem qiu (s p:ByteArray):Ok (qye s p) fun _=>True:=.via qyd (by
 unfold qyf
 refine qpc (P:=fun _=>True) (.via qyp ?_) fun r _=>qpd trivial
 unfold qyr
 refine q27i (fun h=>q27k ?_ (qpd trivial)) (fun _=>qpd trivial)
 simp at h ⊢
 exact h)
theorem qj2 (s p:ByteArray) (hs:s.size≤2000000):Ok (qyk s p) fun _=>True:=.via qyj (by
 unfold qyl
 refine qpc (P:=fun _=>True) (.via qyv ?_) fun r _=>qpd trivial
 unfold qyx
 refine q27i (fun h=>q27k ?_ (qpd trivial)) (fun _=>qpd trivial)
 have h:(s.size:Int) ≥ (p.size:Int):=by simpa using h
 rw [q27x (by omega)]
 simp
 omega)
theorem qos (s:ByteArray):Ok (q68 s) fun _=>True:=.via q67 (by
 unfold q69
 refine q27i (fun _=>q27i (fun h=>?_) (fun _=>qpd trivial)) (fun _=>qpd trivial)
 have h:(s.size:Int)≤60:=by simpa using h
 exact qpc (q27j (q2u s (by omega))) fun r _=>qpd trivial)
theorem q94 (s:ByteArray):Ok (qab s) fun r=>r=true→s.size≤60:=.via qaa (by
 unfold qac
 refine q27i (fun _=>q27i (fun h=>?_) (fun _=>qpd (fun h=>by cases h))) (fun _=>qpd (fun h=>by cases h))
 have h:(s.size:Int)≤60:=by simpa using h
 have hs:s.size≤60:=by omega
 refine qpc (q27j (q1e s (by omega))) fun r _=>?_
 refine q27i (fun _=>qpc (qiu _ _) fun r1 _=>q27i (fun _=>qpc (qj2 _ _ (by omega)) fun r2 _=>q27i (fun _=>?_) (fun _=>qpd (fun _=>hs))) (fun _=>qpd (fun _=>hs))) (fun _=>qpd (fun _=>hs))
 refine qpc (P:=fun _=>True) ⟨_,by unfold contP;rw [if_pos (by omega)],trivial⟩ fun r3 _=>qpd (fun _=>hs))
theorem q8i (s sep:List UInt8) (h:(Lib.cut s sep).2.2=true):(Lib.cut s sep).1.length+sep.length+(Lib.cut s sep).2.1.length=s.length:=by
 unfold Lib.cut at *
 split at h
 ·rename_i h0
  rw [if_pos h0]
  have:=Lib.index_room s sep h0
  simp only [List.length_drop,List.length_take]
  omega
 ·cases h
theorem qxo (s:ByteArray) (hs:s.size≤2000000):Ok (qb7 s) fun r=>r.2.2=true→s.size≤121:=.via qb6 (by
 unfold qb8
 have hc:=q8i s.data.toList [64]
 refine qpc (P:=fun r:ByteArray × ByteArray × Bool=>r.2.2=true→r.1.size+1+r.2.1.size=s.size) ⟨_,by unfold cutP;rw [if_pos (by omega)],fun h=>?_⟩ fun r hr=>?_
 ·have:=hc h
  have e:s.data.toList.length=s.size:=by rw [Array.length_toList];rfl
  rw [e] at this
  exact this
 ·refine q27i (fun hk=>?_) (fun _=>qpd (fun h=>by cases h))
  have hk:=hr (by simpa using hk)
  refine q27i (fun _=>q27i (fun h=>?_) (fun _=>qpd (fun h=>by cases h))) (fun _=>qpd (fun h=>by cases h))
  have h:(r.1.size:Int)≤60:=by simpa using h
  refine qpc (q27j (q2d r.1 (by omega))) fun r1 _=>q27i (fun _=>?_) (fun _=>qpd (fun h=>by cases h))
  exact qpc (q94 _) fun r2 h2=>qpd (fun h3=>by have:=h2 h3;omega))
theorem qr (s:ByteArray) (hs:s.size≤2000000):Ok (q9z s) fun r=>r=true→s.size≤121:=.via q9y (by
 unfold qa0
 exact qpc (qxo s hs) fun r h=>qpd h)
theorem qp9 (n:Int):Ok (qah n) fun _=>True:=.via qag (by
 unfold qai
 exact q27i (fun _=>qpd trivial) (fun _=>qpd trivial))
theorem ql1 (l:List S118) (hl:l.length≤2000000) (f:ByteArray) (n:Int):∀ m k:Nat,k+m=l.length→Ok (qkt l f n l.length k) fun _=>True:=by
 intro m
 induction m with
 |zero =>
  intro k hk
  refine .via qkv ?_
  unfold ql0
  refine q27i (fun h=>?_) (fun _=>q27k (by simp [EC.isL_encL]) (qpd trivial))
  have:=of_decide_eq_true h
  omega
 |succ m ih =>
  intro k hk
  have hlt:k<l.length:=by omega
  have e2:IntKind.i64.wrap ((k:Int)+1)=((k+1:Nat):Int):=by rw [q27x (by omega)];rfl
  refine .via qkv ?_
  unfold ql0
  simp only [EC.decL_encL,EC.isL_encL,EC.encL_length,qlh,q3o,q3p,Int.toNat_natCast,e2]
  refine q27i (fun h=>?_) (fun h=>?_)
  ·refine q27k (by simp) (q27k (by simp [hlt]) ?_)
   refine qpc (P:=fun _=>True) (.via qss (qpd trivial)) fun r _=>q27i (fun _=>qpd trivial) (fun _=>q27k rfl (ih (k+1) (by omega)))
  ·have:=of_decide_eq_false h
   omega
theorem qiz (l:List S118) (hl:l.length≤2000000) (f:ByteArray) (n:Int):Ok (qj0 l f n) fun _=>True:=.via qiy (by
 unfold qj1
 simp only [EC.decL_encL,EC.isL_encL]
 refine q27k rfl (qpc (P:=fun _=>True) (.via qks ?_) fun r _=>qpd trivial)
 unfold ql3
 simp only [EC.decL_encL,EC.isL_encL,EC.encL_length]
 refine q27k rfl (qpc (ql1 l hl f n l.length 0 (by omega)) ?_)
 rintro (r|r) _
 ·exact qpd trivial
 ·exact qpd trivial)
theorem qsv (l:List S118) (hl:l.length≤2000000) (ha:∀ x∈l,x.Address.size≤2000000) (c d:Int):∀ m k:Nat,k+m=l.length→Ok (qan l l l.length k c d) fun x=>Sum.elim (fun r=>r.2.1≠0) (fun _=>∀ x∈l.drop k,x.Address.size≤121) x:=by
 intro m
 induction m with
 |zero =>
  intro k hk
  refine .via qap ?_
  unfold qau
  refine q27i (fun h=>?_) (fun _=>q27k (by simp [EC.isL_encL]) (q27k (by simp [EC.isL_encL]) (qpd ?_)))
  ·have:=of_decide_eq_true h
   omega
  ·rw [List.drop_eq_nil_of_le (by omega)]
   intro x hx;cases hx
 |succ m ih =>
  intro k hk
  have hlt:k<l.length:=by omega
  have e2:IntKind.i64.wrap ((k:Int)+1)=((k+1:Nat):Int):=by rw [q27x (by omega)];rfl
  refine .via qap ?_
  unfold qau
  simp only [EC.decL_encL,EC.isL_encL,EC.encL_length,qlh,q3o,q3p,q3b,Int.toNat_natCast,e2,qh,qf]
  refine q27i (fun h=>?_) (fun h=>?_)
  ·refine q27k (by simp) (q27k (by simp [hlt]) ?_)
   rw [qik hlt]
   refine qpc (qr _ (ha _ (List.getElem_mem hlt))) fun r0 hr0=>q27i (fun _=>qpc (qf4 _ _) fun r1 hr1=>qpd ?_) (fun hb=>?_)
   ·subst hr1
    intro h;cases h
   ·refine qpc (qp9 _) fun r1 _=>q27i (fun _=>qpc (qf4 _ _) fun r2 hr2=>qpd ?_) (fun _=>?_)
    ·subst hr2
     intro h;cases h
    ·refine q27k (by simp;omega) (q27k (by simp []) ?_)
     refine q27k rfl (qpc (qiz _ (by simp;omega) _ _) fun r2 _=>q27i (fun _=>qpc (qf4 _ _) fun r3 hr3=>qpd ?_) (fun _=>q27k rfl (q27k rfl ((ih (k+1) (by omega)).mono fun x hx=>?_))))
     ·subst hr3
      intro h;cases h
     ·rcases x with x|x
      ·exact hx
      ·show ∀ y∈l.drop k,y.Address.size≤121
       rw [q97 hlt]
       intro y hy
       rcases List.mem_cons.1 hy with rfl|hy
       ·exact hr0 (by simpa using hb)
       ·exact hx y hy
  ·have:=of_decide_eq_false h
   omega
theorem qsw (l:List S118) (hl:l.length≤2000000) (ha:∀ x∈l,x.Address.size≤2000000):Ok (qav l) fun r=>r.1=0→∀ x∈l,x.Address.size≤121:=.via qam (by
 unfold qaw
 simp only [EC.decL_encL,EC.isL_encL,EC.encL_length]
 refine q27k rfl (q27k rfl (qpc (qsv l hl ha 0 0 l.length 0 (by omega)) ?_))
 rintro (r|r) hr
 ·exact qpd (fun h=>absurd h hr)
 ·refine qpc qp6 fun r2 hr2=>qpd ?_
  intro _
  rw [List.drop_zero] at hr
  exact hr)
def envB (f:ByteArray) (l:List S118):Prop:=f.size≤121∧l.length≤60∧∀ x∈l,x.Address.size≤121
theorem env_ok (f:ByteArray) (l:List S118) (i:ByteArray) (hf:f.size≤2000000) (hl:l.length≤2000000) (ha:∀ x∈l,x.Address.size≤2000000):Ok (qbd f l i) fun r=>r.1=0→envB f l:=.via qbc (by
 unfold qbe
 simp only [EC.decL_encL,EC.isL_encL,EC.encL_length,q26w]
 have rest:f.size≤121→l.length≤60→Ok (brE ((!em i)==true) (Option.bind (q68 i) fun r0=>brE (!r0) (Option.bind (q5d 10 (-12)) fun r1=>some (r1.1,r1.2)) (gdE true <| Option.bind (qav l) fun r1=>some (r1.1,r1.2))) (gdE true <| Option.bind (qav l) fun r0=>some (r0.1,r0.2))) fun r=>r.1=0→envB f l:=by
  intro h1 h2
  have fin:Ok (gdE true <| Option.bind (qav l) fun r0=>some (r0.1,r0.2)) fun r=>r.1=0→envB f l:=q27k rfl (qpc (qsw l hl ha) fun r hr=>qpd fun h=>⟨h1,h2,hr h⟩)
  refine q27i (fun _=>qpc (qos _) fun r _=>q27i (fun _=>qpc (qf4 _ _) fun r1 hr1=>qpd ?_) (fun _=>fin)) (fun _=>fin)
  subst hr1
  intro h;cases h
 have bad:∀ a b:Int,a≠0→Ok (Option.bind (q5d a b) fun r1=>some (r1.1,r1.2)) fun r=>r.1=0→envB f l:=fun a b h0=>qpc (qf4 _ _) fun r hr=>qpd (by subst hr;exact fun h=>absurd h h0)
 have rest2:f.size≤121→Ok (brE (decide ((l.length:Int)<1)==false) (brE (decide ((l.length:Int) > 60)) (Option.bind (q5d 2 (-11)) fun r1=>some (r1.1,r1.2)) (brE ((!em i)==true) (Option.bind (q68 i) fun r0=>brE (!r0) (Option.bind (q5d 10 (-12)) fun r1=>some (r1.1,r1.2)) (gdE true <| Option.bind (qav l) fun r1=>some (r1.1,r1.2))) (gdE true <| Option.bind (qav l) fun r0=>some (r0.1,r0.2)))) (Option.bind (q5d 2 (-11)) fun r1=>some (r1.1,r1.2))) fun r=>r.1=0→envB f l:=fun h1 =>
  q27i (fun _=>q27i (fun _=>bad _ _ (by decide)) (fun h=>rest h1 (by have:=of_decide_eq_false h;omega))) (fun _=>bad _ _ (by decide))
 refine q27i (fun _=>qpc (qr f hf) fun r hr=>q27i (fun _=>bad _ _ (by decide)) (fun h=>rest2 (hr (by simpa using h)))) (fun h=>rest2 ?_)
 have he:em f=true:=by cases h2:em f with|true=>rfl|false=>rw [h2] at h;cases h
 rw [q9h] at he
 have:=of_decide_eq_true he
 omega)
theorem nb_low (b:UInt8):nb (lowB b)=lowI (nb b):=by
 have h:=qn9 (q27f b).1 (q27f b).2
 unfold lowB ub
 generalize lowI (nb b)=c at h
 unfold nb
 rw [UInt8.toNat_ofNat']
 omega
theorem qfr (c:Int):fnB (lowI c)=fnB c:=by
 unfold lowI fnB
 split
 ·rw [Bool.eq_iff_iff]
  simp
  omega
 ·rfl
theorem qft {a b:ByteArray} (h:lowL (L a)=lowL (L b)):fnameB a=fnameB b:=by
 have hl:(L a).length=(L b).length:=by
  have:=congrArg List.length h
  simpa [lowL] using this
 have hs:a.size=b.size:=by rw [←q264,←q264,hl]
 have hp:∀ s:ByteArray,(L s).all q1t=(lowL (L s)).all q1t:=by
  intro s
  unfold lowL
  rw [List.all_map]
  congr 1
  funext x
  show fnB (nb x)=fnB (nb (lowB x))
  rw [nb_low,qfr]
 unfold fnameB
 rw [q9h,q9h,hs,hp a,hp b,h]
def sm (n:ByteArray) (x:S55):Bool:=lowL (L x.Name)==lowL (L n)
def valsL (l:List S55) (n:ByteArray):List ByteArray:=(l.filter (sm n)).map fun x=>x.Value
theorem q11o (l:List S55) (n:ByteArray):(valsL l n).length≤l.length:=by
 unfold valsL
 rw [List.length_map]
 exact List.length_filter_le _ _
theorem q11n (x:S55) (l:List S55) (n:ByteArray):valsL (x::l) n=if sm n x=true then x.Value::valsL l n else valsL l n:=by
 unfold valsL
 rw [List.filter_cons]
 split <;> rfl
theorem qin (l:List S55) (n:ByteArray) (hl:l.length≤60) (hn:n.size≤2000000) (hx:∀ x∈l,x.Name.size≤2000000) (c d:Int):∀ (m k:Nat) (acc:List ByteArray),k+m=l.length→acc.length≤k→Ok (qj8 n acc.length l l.length k c d acc) fun x=>x.2.2=acc++valsL (l.drop k) n∧x.1.2.2.1=x.2.2.length:=by
 intro m
 induction m with
 |zero =>
  intro k acc hk ha
  refine .via qja ?_
  unfold qje
  simp only [EC.decL_encL,EC.isL_encL,EC.encL_length,q268,q26a,isE_55,q4e,q4f]
  refine q27i (fun h=>?_) (fun _=>q27k rfl (q27k rfl (qpd ?_)))
  ·have:=of_decide_eq_true h
   omega
  ·rw [List.drop_eq_nil_of_le (by omega)]
   exact ⟨(List.append_nil _).symm,rfl⟩
 |succ m ih =>
  intro k acc hk ha
  have hlt:k<l.length:=by omega
  have e2:IntKind.i64.wrap ((k:Int)+1)=((k+1:Nat):Int):=by rw [q27x (by omega)];rfl
  refine .via qja ?_
  unfold qje
  simp only [EC.decL_encL,EC.isL_encL,EC.encL_length,q268,q26a,isE_55,q4e,q4f,Int.toNat_natCast,e2]
  refine q27i (fun h=>?_) (fun h=>?_)
  ·refine q27k (by simp) (q27k (by simp [hlt]) ?_)
   rw [qik hlt]
   have h1:=hx _ (List.getElem_mem hlt)
   refine qpc (q27j (same_s l[k].Name n (by omega) (by omega))) fun r hr=>?_
   rw [q97 hlt,q11n]
   refine q27i (fun hb=>?_) (fun hb=>?_)
   ·rw [hr] at hb
    have hb:sm n l[k]=true:=hb
    rw [if_pos hb]
    refine q27k (by simp;omega) (q27k rfl (q27k rfl ?_))
    have:=ih (k+1) (acc++[l[k].Value]) (by omega) (by simp;omega)
    rw [List.length_append] at this
    refine this.mono fun x h=>⟨by rw [h.1,List.append_assoc];rfl,h.2⟩
   ·rw [hr] at hb
    have hb:sm n l[k]=false:=hb
    rw [if_neg (by rw [hb];decide)]
    exact q27k rfl (q27k rfl (ih (k+1) acc (by omega) (by omega)))
  ·have:=of_decide_eq_false h
   omega
theorem qfs {n:ByteArray} (h:fnameB n=true):n.size≤60:=by
 unfold fnameB at h
 rw [Bool.and_eq_true,Bool.and_eq_true] at h
 have:=of_decide_eq_true h.2.1
 omega
structure HdrOk (l:List S55):Prop where
 val:∃ i,qjt l=some (0,i)
 len:l.length≤60
 all:∀ x∈l,fieldB x
theorem get_s {l:List S55} (h:HdrOk l) (n:ByteArray) (hn:n.size≤2000000):Ok (qjf l n) fun r=>r.2=valsL l n∧r.1.1=r.2.length:=.via qj7 (by
 obtain ⟨i,hv⟩:=h.val
 have hval:Ok (qk5 l n) fun r=>(fnameB n=true→r.1=0)∧(fnameB n=false→r.1≠0):=.via qk4 (by
  unfold qk6
  simp only [EC.decL_encL,EC.isL_encL]
  refine q27k rfl (qpc (q27j hv) fun r hr=>?_)
  subst hr
  refine qpc (q27j (qf3 _ _)) fun r1 hr1=>?_
  subst hr1
  refine q27i (fun h=>by cases h) (fun _=>?_)
  refine qpc (qkd n) fun r2 hr2=>q27i (fun hb=>qpc (qf4 _ _) fun r3 hr3=>qpd ?_) (fun hb=>qpc qp6 fun r3 hr3=>qpd ?_)
  ·subst hr3
   refine ⟨fun h=>?_,fun _=>by decide⟩
   rw [hr2,h] at hb;cases hb
  ·subst hr3
   refine ⟨fun _=>rfl,fun h=>?_⟩
   rw [hr2,h] at hb;cases hb)
 unfold qjg
 simp only [EC.decL_encL,EC.isL_encL,EC.encL_length,qg]
 refine q27k rfl (qpc hval fun r0 hr0=>qpc (q27j (qf3 _ _)) fun r1 hr1=>?_)
 subst hr1
 have hemp:fnameB n=false→valsL l n=[]:=by
  intro hf
  unfold valsL
  have:l.filter (sm n)=[]:=by
   rw [List.filter_eq_nil_iff]
   intro x hx hs
   have:=qft (a:=x.Name) (b:=n) (by simpa [sm] using hs)
   rw [(h.all x hx).1,hf] at this
   cases this
  rw [this];rfl
 refine q27i (fun hb=>qpd ?_) (fun hb=>?_)
 ·have hf:fnameB n=false:=by
   cases hf:fnameB n with
   |true=>rw [hr0.1 hf] at hb;cases hb
   |false=>rfl
  exact ⟨(hemp hf).symm,rfl⟩
 ·refine q27k rfl (qpc (qin l n h.len hn (fun x hx=>by have:=qfs (h.all x hx).1;omega) 0 0 l.length 0 [] (by omega) (by simp)) fun r2 hr2=>qpc qp6 fun r3 hr3=>q27k rfl (qpd ?_))
  rw [List.drop_zero,List.nil_append] at hr2
  exact hr2)
theorem bmap (s:ByteArray):List.map (fun (b:UInt8)=>[byteC b]) (Array.toList (ByteArray.data s))=q26q.encL (ints s):=q7c s
theorem q9q {τ:Type} (e:EC τ) (a b:List τ):e.encL a++e.encL b=e.encL (a++b):=by simp [EC.encL]
theorem q8d:([[(C.int Go.IntKind.u8 (13:Int))],[(C.int Go.IntKind.u8 (10:Int))]]:List (List C))=q26q.encL [13,10]:=rfl
theorem qms (l:List S55) (t12 t13:Int) (b0:List S55) (b01:List Int) (b2:List ByteArray) (hb:b2.length≤100001) (hz:szB b2):∀ (m k:Nat) (b1:List Int),k+m=b2.length→b1.length+m*100002≤1000000000000 →
  Ok (qoe b1.length l t12 t13 b2.length b2.length k b0 b01 b1 b2) fun x=>x.1.2.2.1=l∧x.1.2.2.2.1=t12∧x.1.2.2.2.2.1=t13∧x.2.1=(b0,b01)∧x.1.2.1=x.2.2.1.length∧x.1.2.1≤b1.length+m*100002:=by
 intro m
 induction m with
 |zero =>
  intro k b1 hk hs
  refine .via qog ?_
  unfold qok
  simp only [EC.decL_encL,EC.isL_encL,EC.encL_length,all_5,q26c]
  refine q27i (fun h=>?_) (fun _=>q27k rfl (q27k rfl (q27k rfl (q27k rfl (q27k rfl (qpd ⟨rfl,rfl,rfl,rfl,rfl,by show b1.length≤_;omega⟩))))))
  have:=of_decide_eq_true h
  omega
 |succ m ih =>
  intro k b1 hk hs
  have hlt:k<b2.length:=by omega
  have e2:IntKind.i64.wrap ((k:Int)+1)=((k+1:Nat):Int):=by rw [q27x (by omega)];rfl
  refine .via qog ?_
  unfold qok
  simp only [EC.decL_encL,EC.isL_encL,EC.encL_length,all_5,q26c,Int.toNat_natCast,e2]
  refine q27i (fun h=>?_) (fun h=>?_)
  ·refine q27k (by simp;omega) (q27k (by rw [q27z b2 k hlt];simp [hlt]) (q27k (qll b2 k hlt) ?_))
   rw [qik hlt]
   have hsz:=hz _ (List.getElem_mem hlt)
   have hil:=qla b2[k]
   simp only [bmap,q8d,q9q,EC.decL_encL,EC.isL_encL,EC.encL_length,all_5,hil]
   refine q27k (by simp;omega) (q27k (by simp;omega) (q27k rfl (q27k rfl (q27k rfl (q27k rfl (q27k rfl ?_))))))
   have hl2:((b1++ints b2[k])++[13,10]).length=b1.length+b2[k].size+2:=by simp [hil];omega
   have:=ih (k+1) ((b1++ints b2[k])++[13,10]) (by omega) (by rw [hl2];omega)
   rw [hl2] at this
   refine this.mono fun x hx=>⟨hx.1,hx.2.1,hx.2.2.1,hx.2.2.2.1,hx.2.2.2.2.1,by have:=hx.2.2.2.2.2;omega⟩
  ·have:=of_decide_eq_false h
   omega
set_option maxRecDepth 100000 in
theorem qf6 (l:List S55) (hl:l.length≤60) (b0:List S55) (b01:List Int):∀ (m k:Nat) (b1:List Int),k+m=l.length→b1.length+m*10001000000≤900000000000 →
  Ok (qo7 b1.length l l.length k b0 b01 b1) fun x=>x.2.1=(b0,b01)∧x.1.2.1=x.2.2.length∧x.1.2.1≤900000000000:=by
 intro m
 induction m with
 |zero =>
  intro k b1 hk hs
  refine .via qo9 ?_
  unfold qod
  simp only [EC.decL_encL,EC.isL_encL,EC.encL_length,isE_55,q4e,q4f]
  refine q27i (fun h=>?_) (fun _=>q27k rfl (q27k rfl (q27k rfl (q27k rfl (qpd ⟨rfl,rfl,by show b1.length≤_;omega⟩)))))
  have:=of_decide_eq_true h
  omega
 |succ m ih =>
  intro k b1 hk hs
  have hlt:k<l.length:=by omega
  have e2:IntKind.i64.wrap ((k:Int)+1)=((k+1:Nat):Int):=by rw [q27x (by omega)];rfl
  refine .via qo9 ?_
  unfold qod
  simp only [EC.decL_encL,EC.isL_encL,EC.encL_length,isE_55,q4e,q4f,Int.toNat_natCast]
  refine q27i (fun h=>?_) (fun h=>?_)
  ·refine q27k (by simp) (q27k (by simp [hlt]) ?_)
   rw [qik hlt]
   refine qpc (qh3 _ _) fun r hr=>?_
   obtain ⟨h1,h2,h3,_⟩:=hr
   rw [h1]
   rw [h1] at h2
   refine q27k rfl (q27k rfl (q27k rfl (q27k rfl (q27k rfl ?_))))
   have hz0:0+r.2.length=r.2.length:=Nat.zero_add _
   have hbig:b1.length+r.2.length*100002≤1000000000000:=by
    have g1:r.2.length*100002≤10001000000:=Nat.le_trans (Nat.mul_le_mul_right 100002 h2) (by decide)
    have g2:10001000000≤(m+1)*10001000000:=Nat.le_mul_of_pos_left _ (Nat.succ_pos m)
    exact Nat.le_trans (Nat.add_le_add_left (Nat.le_trans g1 g2) _) (Nat.le_trans hs (by decide))
   refine qpc (qms l l.length k b0 b01 r.2 h2 h3 r.2.length 0 b1 hz0 hbig) fun r1 hr1=>?_
   obtain ⟨q1,q2,q3,q4,q5,q6⟩:=hr1
   rw [q1,q2,q3,q4,q5,e2]
   refine q27k rfl (q27k rfl (q27k rfl (q27k rfl ?_)))
   exact ih (k+1) r1.2.2.1 (by omega) (by rw [←q5];omega)
  ·have:=of_decide_eq_false h
   omega
theorem q124 (l:List S55) (hl:l.length≤60) (b:List Int) (hb:b.length≤2000000):Ok (qol l b) fun r=>r.1=r.2.length:=.via qo6 (by
 unfold qom
 simp only [EC.decL_encL,EC.isL_encL,EC.encL_length,all_5,qg]
 refine q27k rfl (q27k rfl (q27k rfl ?_))
 refine qpc (qf6 l hl l b l.length 0 [] (by omega) (by simp;omega)) fun r hr=>?_
 obtain ⟨h1,h2,h3⟩:=hr
 rw [h1]
 simp only [q8d,q9q,EC.decL_encL,EC.isL_encL,EC.encL_length,all_5]
 refine q27k (by simp;omega) (q27k (by simp;omega) (q27k rfl (qpd ?_)))
 simp only [List.length_append,h2])
theorem q6z (b:List Int) (hb:b.length≤2000000):∀ (m k:Nat) (c:Int),b.length - k≤m→k≤b.length+2→0≤c→c≤998→Ok (q4t b c k) fun _=>True:=by
  intro m
  induction m with
  | zero =>
    intro k c hk hk2 h0 h1
    refine .via q4v ?_
    unfold q50
    simp only [EC.decL_encL,EC.isL_encL,EC.encL_length,isE_5,at_5_0]
    refine q27i (fun h=>?_) (fun _=>q27k rfl (qpd trivial))
    have:=of_decide_eq_true h
    omega
  | succ m ih =>
    intro k c hk hk2 h0 h1
    refine .via q4v ?_
    unfold q50
    have e2:IntKind.i64.wrap ((k:Int)+1)=((k+1:Nat):Int):=by rw [q27x (by omega)];rfl
    have e3:IntKind.i64.wrap (((k+1:Nat):Int)+1)=((k+2:Nat):Int):=by rw [q27x (by omega)];omega
    have ec:IntKind.i64.wrap (c+1)=c+1:=q27x (by omega)
    simp only [EC.decL_encL,EC.isL_encL,EC.encL_length,isE_5,at_5_0,Int.toNat_natCast,e2,e3,ec]
    refine q27i (fun h=>?_) (fun _=>q27k rfl (qpd trivial))
    have hlt:k<b.length:=by have:=of_decide_eq_true h;omega
    have step:Ok (brE (decide (c+1 > 998)) (some (.inl ((1:Int),()))) (gdE true <| q4t b (c+1) ((k+1:Nat):Int))) fun _=>True:=q27i (fun _=>qpd trivial) (fun h=>q27k rfl (ih (k+1) (c+1) (by omega) (by omega) (by omega) (by have:=of_decide_eq_false h;omega)))
    refine q27k (by simp) (q27k (by simp [hlt]) ?_)
    repeat' (first
      | exact qpd trivial
      | exact step
      | exact q27k rfl (ih (k+2) 0 (by omega) (by omega) (by omega) (by omega))
      | (refine q27k ?_ ?_
         · first
             | (simp;done)
             | (simp;omega)
             | (simp_all;done)
             | (simp_all;omega))
      | (refine q27i (fun _=>?_) (fun _=>?_)))
theorem q6x (b:List Int) (hb:b.length≤2000000):Ok (qo1 b) fun _=>True:=.via qo0 (by
 unfold qo2
 simp only [EC.decL_encL,EC.isL_encL]
 have hbd:Ok (q51 b) fun _=>True:=.via q4s (by
  unfold q52
  simp only [EC.decL_encL,EC.isL_encL]
  refine q27k rfl (qpc (q6z b hb b.length 0 0 (by omega) (by omega) (by omega) (by omega)) ?_)
  rintro (r|r) _
  ·exact qpd trivial
  ·exact qpd trivial)
 refine q27k rfl (qpc hbd fun r _=>q27i (fun _=>qpc (qf4 _ _) fun _ _=>qpd trivial) (fun _=>q27i (fun _=>qpc (qf4 _ _) fun _ _=>qpd trivial) (fun _=>qpc qp6 fun _ _=>qpd trivial))))
theorem qop (l:List S55) (b:List Int) (hb:b.length≤2000000):Ok (qnp l b) fun r=>r.1=0→HdrOk l:=.via qno (by
 unfold qnq
 simp only [EC.decL_encL,EC.isL_encL]
 obtain ⟨r0,e0,p0⟩:=qkm l
 refine q27k rfl (qpc (q27j e0) fun r hr=>?_)
 subst hr
 refine qpc (q27j (qf3 _ _)) fun r1 hr1=>?_
 subst hr1
 refine q27i (fun hb=>qpd fun h=>?_) (fun hb0=>?_)
 ·rw [h] at hb;cases hb
 ·have h0:r.1=0:=by simpa using hb0
  obtain ⟨hl,ha⟩:=p0 h0
  have hok:HdrOk l:=⟨⟨r.2,by rw [e0,←h0]⟩,hl,ha⟩
  refine q27k rfl (q27k rfl (qpc (q124 l hl b hb) fun r2 _=>q27i (fun _=>qpc (qf4 _ _) fun _ _=>qpd fun _=>hok) (fun _=>q27k rfl (qpc (q6x b hb) fun _ _=>qpd fun _=>hok)))))
theorem qoq (l:List S55) (b:List Int) (hb:b.length≤2000000):Ok (qnv l b) fun r=>(r.1.2.1=0→HdrOk l)∧r.1.1=r.2.length:=.via qnu (by
 unfold qnw
 simp only [EC.decL_encL,EC.isL_encL,qg]
 refine q27k rfl (q27k rfl (qpc (qop l b hb) fun r hr=>qpc (q27j (qf3 _ _)) fun r1 hr1=>?_))
 subst hr1
 refine q27i (fun hb=>qpd ⟨hr,rfl⟩) (fun hb0=>?_)
 have h0:r.1=0:=by simpa using hb0
 have hok:=hr h0
 exact q27k rfl (q27k rfl (qpc (q124 l hok.len b hb) fun r2 h2=>qpc qp6 fun r3 _=>q27k rfl (qpd ⟨fun _=>hok,h2⟩))))
end Go.Proofs.YtokahibbkdbndaaGreatDoor
