/- Facts on texts and numbers; small functions. -/
import Derived.Test.YtmlcmoaonaomfaaGreatDoorH2
namespace Go.Proofs.YtmlcmoaonaomfaaGreatDoor
open Go.RowKit
theorem q8c {β:Type} (q:Bool) (a b:Oq β):brE q a b=if q=true then a else b:=by cases q <;> rfl
theorem qm1 {β:Type} (q:Bool) (a:Oq β):gdE q a=if q=true then a else none:=by cases q <;> rfl
theorem q7w (q:Bool):(q==true)=q:=by cases q <;> rfl
theorem q7v (q:Bool):(q==false)=!q:=by cases q <;> rfl
theorem qk {τ:Type} (e:EC τ) (xs:List τ) (n:Nat):(e.encL xs).take n=e.encL (xs.take n):=by simp [EC.encL,List.map_take]
theorem qi {τ:Type} (e:EC τ) (xs:List τ) (n:Nat):(e.encL xs).drop n=e.encL (xs.drop n):=by simp [EC.encL,List.map_drop]
theorem qj {τ:Type} (e:EC τ):e.decL []=[]:=rfl
theorem EC_set {τ:Type} (e:EC τ) (xs:List τ) (n:Nat) (x:τ):(e.encL xs).set n (e.enc x)=e.encL (xs.set n x):=by simp [EC.encL,List.map_set]
theorem EC_rep {τ:Type} (e:EC τ) (n:Nat) (x:τ):List.replicate n (e.enc x)=e.encL (List.replicate n x):=by simp [EC.encL]
theorem q1js {k n:Nat} (h:k<n) (hn:n<=9223372036854775807):IntKind.i64.wrap ((k:Int)+1)=((k+1:Nat):Int):=by rw [IntWalk.i64_in _ (by omega)];rfl
theorem qm4 {α:Type} {l:List α} {k:Nat} {d:α} (h:k<l.length):l.getD k d=l[k]:=by simp [h]
theorem qbm {α:Type} {l:List α} {k:Nat} (h:k<l.length):l.drop k=l[k]::l.drop (k+1):=List.drop_eq_getElem_cons h
theorem wrap8 {n:Int} (h0:0<=n) (h1:n<256):IntKind.u8.wrap n=n:=IntWalk.u8_in n (by omega)
theorem qib (a b:Int):q6f a b=some (a,b):=q6e rfl
theorem none_s:q7g=some (0,0):=q7f rfl
def nb (b:UInt8):Int:=(b.toNat:Int)
def ints (s:BA):List Int:=s.data.toList.map nb
theorem qpl (s:BA):(ints s).length=s.size:=by rw [ints,y36q,x24q];rfl
theorem q8u (s:BA):bytesL s=qbt.encL (ints s):=by show s.data.toList.map _=(s.data.toList.map nb).map qbt.enc;rw [List.map_map];rfl
def ub (n:Int):UInt8:=UInt8.ofNat n.toNat
theorem q8s (xs:List Int):bytesOf (qbt.encL xs)=some (xs.map ub):=by
 induction xs with
 |nil=>rfl
 |cons x xs ih =>have:qbt.encL (x::xs)=[.int .u8 x]::qbt.encL xs:=rfl;rw [this,bytesOf,ih];rfl
def lowI (c:Int):Int:=if 65<=c/\c<=90 then c+32 else c
def lowB (b:UInt8):UInt8:=ub (lowI (nb b))
def lowL (l:List UInt8):List UInt8:=l.map lowB
def lowS (s:BA):BA:=⟨(lowL s.data.toList).toArray⟩
theorem isP_5 (xs:List Int) (n:Nat) (h:n<xs.length):isP [.int .u8] 0 ((qbt.encL xs).getD n [])=true:=by rw [EC.getD_lt _ _ h];rfl
theorem qsi (n:Nat) (hn:n<=9223372036854775807):∀ (m k:Nat) (xs:List Int),k+m=n->xs.length=n->∃ r,q6r n n n k xs=some r/\r.2=xs.take k++(xs.drop k).map lowI:=by
 intro m;induction m with
 |zero =>
  intro k xs hk hl;have hk:k=n:=by omega
  subst hk
  refine ⟨((k,k,(k:Int),(k:Int),false),xs),q6t (by
   simp only [q6x,z8,gL,dL,lN,wI,p0,q8c,qm1,x25q,x26q,x27q,at_5_0,q1cv];simp),?_⟩
  rw [←hl];simp
 |succ m ih =>
  intro k xs hk hl;have hlt:k<xs.length:=by omega
  have hkn:k<n:=by omega
  have hk':(k:Int)<(n:Int):=by omega
  by_cases hp:65<=xs[k]/\xs[k]<=90
  ·obtain ⟨r,hr,hv⟩:=ih (k+1) (xs.set k (xs[k]+32)) (by omega) (by simpa using hl)
   refine ⟨r,q6t ?_,?_⟩
   ·have w1:IntKind.u8.wrap (IntKind.u8.wrap (xs[k]+97) - 65)=xs[k]+32:=by rw [wrap8 (n:=xs[k]+97) (by omega) (by omega),wrap8 (by omega) (by omega)];omega
    simp only [q6x,z8,gL,dL,lN,wI,p0,q8c,qm1,x25q,x26q,x27q,at_5_0,q1cv,x3q,qm4 hlt,isP_5 xs k hlt,len_5 xs k hlt,w1,q1js hkn hn,hr];simp [hlt,hk',hp]
   ·have hlo:lowI xs[k]=xs[k]+32:=by simp [lowI,hp]
    rw [hv,qbm hlt,y20q,hlo];apply List.ext_getElem?;intro i;rcases Nat.lt_trichotomy i k with h|h|h
    ·rw [y42q (by simp;omega),y42q (by simp;omega),List.getElem?_take_of_lt (by omega),List.getElem?_take_of_lt h,y21q (by omega)]
    ·subst h
     rw [y42q (by simp;omega),y39q (by simp;omega),List.getElem?_take_of_lt (by omega),y25q hlt]
     simp [Nat.min_eq_left (Nat.le_of_lt hlt)]
    ·rw [y39q (by simp;omega),y39q (by simp;omega)]
     obtain ⟨q,rfl⟩:∃ q,i=k+1+q:=⟨i - (k+1),by omega⟩
     simp only [y48q,List.length_set,Nat.min_eq_left (Nat.le_of_lt hlt),Nat.min_eq_left (show k+1<=xs.length from hlt)]
     rw [show k+1+q - (k+1)=q by omega,show k+1+q - k=q+1 by omega,List.getElem?_cons_succ]
     simp only [x14q,List.getElem?_drop];rw [y21q (by omega)]
  ·obtain ⟨r,hr,hv⟩:=ih (k+1) xs (by omega) hl
   refine ⟨r,q6t ?_,?_⟩
   ·simp only [q6x,z8,gL,dL,lN,wI,p0,q8c,qm1,x25q,x26q,x27q,at_5_0,q1cv,x3q,qm4 hlt,isP_5 xs k hlt,len_5 xs k hlt,q1js hkn hn,hr]
    by_cases h1:65<=xs[k]
    ·have h2:¬ xs[k]<=90:=λh=>hp ⟨h1,h⟩
     simp [hlt,hk',h1,h2]
    ·simp [hlt,hk',h1]
   ·rw [hv,qbm hlt,y20q]
    have:lowI xs[k]=xs[k]:=by simp only [lowI,hp,x21q]
    rw [this,List.take_succ_eq_append_getElem hlt,y12q];rfl
theorem qsj (s:BA) (hs:s.size<=9223372036854775807):q6y s=some (lowS s):=by
 by_cases h0:s.size=0
 ·have:s=⟨#[]⟩:=by
   cases s with|mk d=>
   have:d=#[]:=by simpa [ByteArray.size] using h0
   rw [this]
  subst this;exact fS_of (r:=(⟨#[]⟩:BA)) (qf (n:=200) (by kernel_rfl))
 ·obtain ⟨r,hr,hv⟩:=qsi s.size hs s.size 0 (ints s) (by omega) (qpl s)
  refine q6q ?_;simp only [q6z,dM,qm1,q8u,x25q,x26q];have hr':q6r s.size s.size (s.size:Int) (0:Int) (ints s)=some r:=hr
  have h0':(s.size==0)=false:=by simpa using h0
  simp only [hs,h0',hr',q8s,decide_true,x0q,x11q,x4q,x20q,hv,List.take_zero,x10q,y14q];congr 3;simp only [lowL,ints,List.map_map];rfl
def L (s:BA):List UInt8:=s.data.toList
theorem qo (s:BA):(L s).length=s.size:=by rw [L,x24q];rfl
theorem q5d (s:BA) {k:Nat} (h:k<(L s).length):((UInt8.toNat (Array.getD s.data k (0:UInt8)):Nat):Int)=nb (L s)[k]:=by
 have:k<s.data.size:=by rw [qo] at h;exact h
 have e:s.data.getD k 0=(L s)[k]:=by unfold Array.getD;rw [dif_pos this];rfl
 rw [e];rfl
theorem qsh (s:BA):(lowS s).size=s.size:=by rw [←qo,←qo];simp [L,lowS,lowL]
theorem L_low (s:BA):L (lowS s)=lowL (L s):=by simp [L,lowS]
theorem BA_ext {a b:BA} (h:L a=L b):a=b:=by
 cases a with|mk x =>
 cases b with|mk y =>
 have:x=y:=by simpa [L] using h
 rw [this]
theorem L_ext (s:BA) (i j:Nat):L (s.extract i j)=((L s).drop i).take (j - i):=by simp [L,List.extract_eq_take_drop]
theorem q1i9 (s:BA):s.toList=L s:=ByteArray.toList_eq s
theorem same_s (a b:BA) (ha:a.size<=9223372036854775807) (hb:b.size<=9223372036854775807):q7m a b=some (lowL (L a)==lowL (L b)):=q7l (by
 have e:(L (lowS a)==L (lowS b))=(lowL (L a)==lowL (L b)):=by rw [L_low,L_low]
 by_cases h:a.size=b.size
 ·have h':((a.size:Int)==(b.size:Int))=true:=by simp [h]
  simp only [q7n,q8c,h',qsj a ha,qsj b hb,q1i9,e,x19q,x20q,x0q]
 ·have h':¬ (a.size:Int)=(b.size:Int):=by omega
  have:(lowL (L a)==lowL (L b))=false:=by
   simp only [beq_eq_false_iff_ne,ne_eq];intro hh;have:=congrArg List.length hh
   simp [lowL] at this;apply h;rw [←qo,←qo];simpa using this
  simp [q7n,q8c,h',this])
theorem qui (b:UInt8):0<=nb b/\nb b<256:=by have:=b.toNat_lt;unfold nb;omega
theorem nb_ub {n:Int} (h0:0<=n) (h1:n<256):nb (ub n)=n:=by unfold nb ub;rw [y47q];omega
theorem qsg {c:Int} (h0:0<=c) (h1:c<256):0<=lowI c/\lowI c<256:=by unfold lowI;split <;> omega
theorem qsf (a b:UInt8):(lowB a==lowB b)=(lowI (nb a)==lowI (nb b)):=by
 have ha:=qsg (qui a).1 (qui a).2;have hb:=qsg (qui b).1 (qui b).2
 rw [Bool.eq_iff_iff,beq_iff_eq,beq_iff_eq];constructor
 ·intro h
  have:=congrArg nb h
  rwa [lowB,lowB,nb_ub ha.1 ha.2,nb_ub hb.1 hb.2] at this
 ·intro h;rw [lowB,lowB,h]
theorem q1jq {n:Int} (h:-9223372036854775808<=n/\n<=9223372036854775807):IntKind.i64.wrap n=n:=IntWalk.i64_in n h
theorem q1jn (a b:Int):IntKind.i64.wrap (IntKind.i64.wrap a+b)=IntKind.i64.wrap (a+b):=by simp only [IntKind.wrap_i64];omega
theorem q1jo (a b:Int):IntKind.i64.wrap (a+IntKind.i64.wrap b)=IntKind.i64.wrap (a+b):=by simp only [IntKind.wrap_i64];omega
theorem q1jr {k n:Nat} (h:k<n) (hn:n<=9223372036854775807):IntKind.i64.wrap ((k:Int)+1)=((k+1:Nat):Int):=by rw [q1jq (by omega)];rfl
theorem qi9 (a b:Int):q69 a b=some (a != 0):=by refine q68 ?_;simp [q6a]
abbrev big:Nat:=1000000000000000
def em (s:BA):Bool:=ByteArray.toList s==(ByteArray.toList ⟨#[]⟩)
theorem em_def (s:BA):(ByteArray.toList s==ByteArray.toList (ByteArray.mk (List.toArray [])))=em s:=rfl
theorem qc9 (s:BA):em s=decide (s.size=0):=by
 have e0:ByteArray.toList (ByteArray.mk (List.toArray []))=[]:=by rw [ByteArray.toList_eq]
 have hl:(ByteArray.toList s).length=s.size:=by rw [ByteArray.toList_eq,x24q];rfl
 unfold em;rw [e0];cases h:ByteArray.toList s with
 |nil=>rw [h] at hl;simp at hl;simp [←hl]
 |cons x l =>
  rw [h] at hl;simp only [x9q] at hl;have h0:s.size≠0:=by omega
  simp [h0]
end Go.Proofs.YtmlcmoaonaomfaaGreatDoor
namespace Go.Proofs.YtmlcmoaonaomfaaGreatDoor
open Go.RowKit
def Ok {α:Type} (o:Oq α) (Q:α->Prop):Prop:=∃ r,o=some r/\Q r
theorem qw5 {α:Type} {x:α} {Q:α->Prop} (h:Q x):Ok (some x) Q:=⟨x,rfl,h⟩
theorem Ok.mono {α:Type} {o:Oq α} {Q R:α->Prop} (h:Ok o Q) (k:∀ r,Q r->R r):Ok o R:=by obtain ⟨r,e,q⟩:=h;exact ⟨r,e,k r q⟩
theorem Ok.via {α:Type} {t s:Oq α} {Q:α->Prop} (e:∀ {r},t=some r->s=some r) (h:Ok t Q):Ok s Q:=by obtain ⟨r,e1,q⟩:=h;exact ⟨r,e e1,q⟩
theorem qw2 {α:Type} {q:Bool} {a b:Oq α} {Q:α->Prop} (h1:q=true->Ok a Q) (h2:q=false->Ok b Q):Ok (brE q a b) Q:=by
 cases q with
 |true=>exact h1 rfl
 |false=>exact h2 rfl
theorem qw4 {α:Type} {q:Bool} {a:Oq α} {Q:α->Prop} (hq:q=true) (h:Ok a Q):Ok (gdE q a) Q:=by subst hq;exact h
theorem qw1 {α β:Type} {o:Oq α} {f:α->Oq β} {P:α->Prop} {Q:β->Prop} (h:Ok o P) (k:∀ r,P r->Ok (f r) Q):Ok (o.bind f) Q:=by obtain ⟨r,rfl,p⟩:=h;exact k r p
theorem qw3 {α:Type} {o:Oq α} {x:α} (h:o=some x):Ok o λr=>r=x:=⟨x,h,rfl⟩
theorem qm5 {o:Oq Bool} (h:Ok o λ_=>True):o=some (o.getD false):=by obtain ⟨r,rfl,_⟩:=h;rfl
theorem qia (a b:Int):Ok (q6f a b) λr=>r=(a,b):=⟨_,qib a b,rfl⟩
theorem qv3:Ok q7g λr=>r=(0,0):=⟨_,none_s,rfl⟩
theorem qrt (c:Int):Ok (q6l c) λ_=>True:=.via q6k (by
 unfold q6m;try simp only [z7_t]
 repeat' (first
  |exact ⟨_,rfl,trivial⟩
  |(refine qw2 ?_ ?_ <;> intro _)
  |(refine qw1 (qia _ _) ?_;intro _ _)
  |(refine qw1 qv3 ?_;intro _ _)))
theorem q81 (c:Int):Ok (q5p c) λr=>c=32->r=true:=.via q5o (by
 unfold q5q;refine qw2 (λh=>qw5 λh1=>?_) (λ_=>qw5 λ_=>rfl);subst h1;cases h)
theorem quf (c:Int):Ok (q74 c) λ_=>True:=.via q73 (by
 unfold q75
 repeat' (first
  |exact ⟨_,rfl,trivial⟩
  |(refine qw2 ?_ ?_ <;> intro _)
  |(refine qw1 (qia _ _) ?_;intro _ _)
  |(refine qw1 qv3 ?_;intro _ _)
  |(refine qw1 (qrt _) ?_;intro _ _)))
theorem qbh (c:Int):Ok (qd4 c) λ_=>True:=.via qd3 (by
 unfold qd5;try simp only [zb_t]
 repeat' (first
  |exact ⟨_,rfl,trivial⟩
  |(refine qw2 ?_ ?_ <;> intro _)
  |(refine qw1 (qia _ _) ?_;intro _ _)
  |(refine qw1 qv3 ?_;intro _ _)))
theorem qq9 (s:BA) (c:Int):Ok (ixbP s c) λ_=>True:=⟨_,rfl,trivial⟩
theorem qs5 (c:Int):Ok (qe0 c) λ_=>True:=.via qdz (by
 unfold qe1
 repeat' (first
  |exact ⟨_,rfl,trivial⟩
  |(refine qw2 ?_ ?_ <;> intro _)
  |(refine qw1 (qia _ _) ?_;intro _ _)
  |(refine qw1 qv3 ?_;intro _ _)
  |(refine qw1 (qrt _) ?_;intro _ _)
  |(refine qw1 (qq9 _ _) ?_;intro _ _)))
def fnB (c:Int):Bool:=decide (c≥33)&&(decide (c<=126)&&c != 58)
theorem fnC_s (c:Int):qkc c=some (fnB c):=qkb (by
 simp only [qkd,q8c,fnB];cases decide (c≥33) <;> cases decide (c<=126) <;> rfl)
noncomputable def q3a (b:UInt8):Bool:=(λb=>(q74 (nb b)).getD false) b
theorem q39 (s:BA) (hs:s.size<=9223372036854775807):∀ m k:Nat,k+m=s.size->∃ x,q31 s s.size k=some x/\Sum.elim (λr=>r.1) (λ_=>true) x=((L s).drop k).all q3a:=by
 intro m;induction m with
 |zero =>
  intro k hk
  refine ⟨.inr ((s,(),(s.size:Int),(k:Int),false),()),q33 (by
   simp only [q38,wI,p0,q8c];rw [if_neg (by simp;omega)]),?_⟩
  rw [y16q (by rw [qo];omega)];rfl
 |succ m ih =>
  intro k hk;have hlt:k<(L s).length:=by rw [qo];omega
  have e1:decide ((k:Int)<(s.size:Int))=true:=by simp;omega
  have e0:decide ((0:Int)<=(k:Int))=true:=by simp
  have e2:IntKind.i64.wrap ((k:Int)+1)=((k+1:Nat):Int):=q1js (n:=s.size) (by omega) hs
  have e3:decide (k<s.size)=true:=by simp;omega
  have hc:q74 (nb (L s)[k])=some (q3a (L s)[k]):=qm5 (quf _);rw [qbm hlt,x17q];cases hp:q3a (L s)[k] with
  |false =>rw [hp] at hc;refine ⟨.inl (false,()),q33 ?_,rfl⟩;simp only [q38,wI,p0,q8c,qm1,e1,e0,e3,x20q,x3q,x4q,q5d s hlt,hc,x0q,x11q]
  |true =>
   rw [hp] at hc;obtain ⟨x,h1,h2⟩:=ih (k+1) (by omega)
   refine ⟨x,q33 ?_,by rw [Bool.true_and];exact h2⟩
   simp only [q38,wI,p0,q8c,qm1,e1,e0,e3,x20q,x3q,x4q,q5d s hlt,hc,x0q,x15q,x1q,x21q,e2];exact h1
theorem q3c (s:BA) (hs:s.size<=9223372036854775807):q3b s=some ((L s).all q3a):=by
 obtain ⟨x,h1,h2⟩:=q39 s hs s.size 0 (by omega)
 rw [x10q] at h2;have h1:q31 s s.size 0=some x:=h1
 refine q30 ?_;simp only [q3d,h1,x0q,←h2];rcases x with x|x <;> rfl
noncomputable def q2b (b:UInt8):Bool:=(λb=>fnB (nb b)) b
theorem q2a (s:BA) (hs:s.size<=9223372036854775807):∀ m k:Nat,k+m=s.size->∃ x,q22 s s.size k=some x/\Sum.elim (λr=>r.1) (λ_=>true) x=((L s).drop k).all q2b:=by
 intro m;induction m with
 |zero =>
  intro k hk
  refine ⟨.inr ((s,(),(s.size:Int),(k:Int),false),()),q24 (by
   simp only [q29,wI,p0,q8c];rw [if_neg (by simp;omega)]),?_⟩
  rw [y16q (by rw [qo];omega)];rfl
 |succ m ih =>
  intro k hk;have hlt:k<(L s).length:=by rw [qo];omega
  have e1:decide ((k:Int)<(s.size:Int))=true:=by simp;omega
  have e0:decide ((0:Int)<=(k:Int))=true:=by simp
  have e2:IntKind.i64.wrap ((k:Int)+1)=((k+1:Nat):Int):=q1js (n:=s.size) (by omega) hs
  have e3:decide (k<s.size)=true:=by simp;omega
  have hc:qkc (nb (L s)[k])=some (q2b (L s)[k]):=fnC_s _;rw [qbm hlt,x17q];cases hp:q2b (L s)[k] with
  |false =>rw [hp] at hc;refine ⟨.inl (false,()),q24 ?_,rfl⟩;simp only [q29,wI,p0,q8c,qm1,e1,e0,e3,x20q,x3q,x4q,q5d s hlt,hc,x0q,x11q]
  |true =>
   rw [hp] at hc;obtain ⟨x,h1,h2⟩:=ih (k+1) (by omega)
   refine ⟨x,q24 ?_,by rw [Bool.true_and];exact h2⟩
   simp only [q29,wI,p0,q8c,qm1,e1,e0,e3,x20q,x3q,x4q,q5d s hlt,hc,x0q,x15q,x1q,x21q,e2];exact h1
theorem q2d (s:BA) (hs:s.size<=9223372036854775807):q2c s=some ((L s).all q2b):=by
 obtain ⟨x,h1,h2⟩:=q2a s hs s.size 0 (by omega)
 rw [x10q] at h2;have h1:q22 s s.size 0=some x:=h1
 refine q21 ?_;simp only [q2e,h1,x0q,←h2];rcases x with x|x <;> rfl
noncomputable def q1u (b:UInt8):Bool:=(λb=>(qd4 (nb b)).getD false) b
theorem q1t (s:BA) (hs:s.size<=9223372036854775807):∀ m k:Nat,k+m=s.size->∃ x,q1l s s.size k=some x/\Sum.elim (λr=>r.1) (λ_=>true) x=((L s).drop k).all q1u:=by
 intro m;induction m with
 |zero =>
  intro k hk
  refine ⟨.inr ((s,(),(s.size:Int),(k:Int),false),()),q1n (by
   simp only [q1s,wI,p0,q8c];rw [if_neg (by simp;omega)]),?_⟩
  rw [y16q (by rw [qo];omega)];rfl
 |succ m ih =>
  intro k hk;have hlt:k<(L s).length:=by rw [qo];omega
  have e1:decide ((k:Int)<(s.size:Int))=true:=by simp;omega
  have e0:decide ((0:Int)<=(k:Int))=true:=by simp
  have e2:IntKind.i64.wrap ((k:Int)+1)=((k+1:Nat):Int):=q1js (n:=s.size) (by omega) hs
  have e3:decide (k<s.size)=true:=by simp;omega
  have hc:qd4 (nb (L s)[k])=some (q1u (L s)[k]):=qm5 (qbh _);rw [qbm hlt,x17q];cases hp:q1u (L s)[k] with
  |false =>rw [hp] at hc;refine ⟨.inl (false,()),q1n ?_,rfl⟩;simp only [q1s,wI,p0,q8c,qm1,e1,e0,e3,x20q,x3q,x4q,q5d s hlt,hc,x0q,x11q]
  |true =>
   rw [hp] at hc;obtain ⟨x,h1,h2⟩:=ih (k+1) (by omega)
   refine ⟨x,q1n ?_,by rw [Bool.true_and];exact h2⟩
   simp only [q1s,wI,p0,q8c,qm1,e1,e0,e3,x20q,x3q,x4q,q5d s hlt,hc,x0q,x15q,x1q,x21q,e2];exact h1
theorem q1w (s:BA) (hs:s.size<=9223372036854775807):q1v s=some ((L s).all q1u):=by
 obtain ⟨x,h1,h2⟩:=q1t s hs s.size 0 (by omega)
 rw [x10q] at h2;have h1:q1l s s.size 0=some x:=h1
 refine q1k ?_;simp only [q1x,h1,x0q,←h2];rcases x with x|x <;> rfl
noncomputable def q2t (b:UInt8):Bool:=(λb=>(qe0 (nb b)).getD false) b
theorem q2s (s:BA) (hs:s.size<=9223372036854775807):∀ m k:Nat,k+m=s.size->∃ x,q2k s s.size k=some x/\Sum.elim (λr=>r.1) (λ_=>true) x=((L s).drop k).all q2t:=by
 intro m;induction m with
 |zero =>
  intro k hk
  refine ⟨.inr ((s,(),(s.size:Int),(k:Int),false),()),q2m (by
   simp only [q2r,wI,p0,q8c];rw [if_neg (by simp;omega)]),?_⟩
  rw [y16q (by rw [qo];omega)];rfl
 |succ m ih =>
  intro k hk;have hlt:k<(L s).length:=by rw [qo];omega
  have e1:decide ((k:Int)<(s.size:Int))=true:=by simp;omega
  have e0:decide ((0:Int)<=(k:Int))=true:=by simp
  have e2:IntKind.i64.wrap ((k:Int)+1)=((k+1:Nat):Int):=q1js (n:=s.size) (by omega) hs
  have e3:decide (k<s.size)=true:=by simp;omega
  have hc:qe0 (nb (L s)[k])=some (q2t (L s)[k]):=qm5 (qs5 _);rw [qbm hlt,x17q];cases hp:q2t (L s)[k] with
  |false =>rw [hp] at hc;refine ⟨.inl (false,()),q2m ?_,rfl⟩;simp only [q2r,wI,p0,q8c,qm1,e1,e0,e3,x20q,x3q,x4q,q5d s hlt,hc,x0q,x11q]
  |true =>
   rw [hp] at hc;obtain ⟨x,h1,h2⟩:=ih (k+1) (by omega)
   refine ⟨x,q2m ?_,by rw [Bool.true_and];exact h2⟩
   simp only [q2r,wI,p0,q8c,qm1,e1,e0,e3,x20q,x3q,x4q,q5d s hlt,hc,x0q,x15q,x1q,x21q,e2];exact h1
theorem q2v (s:BA) (hs:s.size<=9223372036854775807):q2u s=some ((L s).all q2t):=by
 obtain ⟨x,h1,h2⟩:=q2s s hs s.size 0 (by omega)
 rw [x10q] at h2;have h1:q2k s s.size 0=some x:=h1
 refine q2j ?_;simp only [q2w,h1,x0q,←h2];rcases x with x|x <;> rfl
noncomputable def fnameB (s:BA):Bool:=!em s&&(decide ((s.size:Int)<=60)&&(L s).all q2b)
theorem qj9 (s:BA):qki s=some (fnameB s):=qkh (by
 simp only [qkj,q8c,em_def,fnameB];cases em s with
 |true=>rfl
 |false =>
  cases h:decide ((s.size:Int)<=60) with
  |false=>simp
  |true=>simp [q2d s (by have:=of_decide_eq_true h;omega)])
theorem qct (s:BA) (hs:s.size<4294967281):Ok (qk3 s) λr=>s.size=0->r=false:=.via qk2 (by
 unfold qk4 canyP;rw [if_pos ⟨hs,rfl⟩];refine qw5 ?_;intro h0;have:s.data.toList=[]:=by apply y5q;rw [x24q];exact h0
 rw [this];rfl)
def noSp (l:List UInt8):Prop:=∀ a,l≠a++[32]
theorem qv1 {s:BA} (h0:s.size≠0) (h:((UInt8.toNat (Array.getD s.data (s.size - 1) (0:UInt8)):Nat):Int)≠32):noSp (L s):=by
 intro a ha;have hl:=qo s
 have h1:s.size - 1<(L s).length:=by omega
 have e:(L s)[s.size - 1]=32:=by
  have h2:s.size - 1=a.length:=by rw [←hl,ha];simp
  simp only [ha,h2];simp
 rw [q5d s h1,e] at h;exact h rfl
theorem q1j6 (s:BA) (hs:s.size<4294967281):Ok (ql4 s) λr=>(s.size=0->r=true)/\(r=true->noSp (L s)):=.via ql3 (by
 unfold ql5;try simp only [p0]
 refine qw1 (qct s hs) ?_;intro r hr;refine qw2 ?_ ?_
 ·intro _
  simp only [em_def];refine qw2 ?_ ?_
  ·intro he
   have h0:s.size≠0:=by intro h0;rw [qc9] at he;simp [h0] at he
   have hw:IntKind.i64.wrap ((s.size:Int) - 1)=((s.size - 1:Nat):Int):=by rw [q1jq (by omega)];omega
   refine qw4 (by simp;omega) ?_
   refine qw1 (q81 _) ?_;intro r1 _;refine qw2 ?_ ?_
   ·intro _
    rw [hw];refine qw4 (by simp;omega) ?_
    refine qw1 (q81 _) ?_;intro r2 hr2;refine qw5 ⟨(λh=>absurd h h0),λh=>qv1 h0 λh9=>?_⟩;rw [x3q] at hr2;rw [hr2 h9] at h;cases h
   ·intro _
    exact qw5 ⟨λh=>absurd h h0,(λh=>by cases h)⟩
  ·intro he
   have h0:s.size=0:=by rw [qc9] at he;simpa using he
   refine qw5 ⟨λ_=>rfl,λ_ a ha=>?_⟩;have:=qo s
   rw [ha] at this;simp at this;omega
 ·intro h
  exact qw5 ⟨λh0=>(by rw [hr h0] at h;cases h),λh=>by cases h⟩)
theorem maxI:IntKind.max IntKind.i64=9223372036854775807:=rfl
def ptP (s:BA) (v:Int):Prop:=0<=v/\v<=s.size
theorem qyl (s:BA) (hs:s.size<=100000):∀ (m:Nat) (k:Nat) (b:Int),1<=k->s.size - k<=m->k<=9223372036854775806->ptP s b->Ok (qkp s b k) λx=>Sum.elim (λr=>ptP s r.1.2.1) (λr=>ptP s r.1.2.1) x:=by
 intro m;induction m with
 |zero =>
  intro k b h1 hk hk2 hb;refine .via qkr ?_;unfold qkw;try simp only [wI,p0]
  refine qw2 (λh=>?_) (λ_=>qw5 hb);have:=of_decide_eq_true h
  omega
 |succ m ih =>
  intro k b h1 hk hk2 hb;refine .via qkr ?_;unfold qkw;try simp only [wI,p0]
  refine qw2 (λh=>?_) (λ_=>qw5 hb);have hlt:k<s.size:=by have:=of_decide_eq_true h;omega
  have e2:IntKind.i64.wrap ((k:Int)+1)=((k+1:Nat):Int):=by rw [q1jq (by omega)];rfl
  have e3:IntKind.i64.wrap ((k:Int) - 1)=((k - 1:Nat):Int):=by rw [q1jq (by omega)];omega
  have hi:=λb' hb'=>ih (k+1) b' (by omega) (by omega) (by omega) hb'
  have hk':ptP s k:=⟨by omega,by omega⟩
  rw [e2,e3];refine qw4 (by simp;omega) (qw1 (q81 _) λr0 _=>qw2 (λ_=>qw4 (by simp;omega) (qw1 (q81 _) λr1 _=>qw2 (λ_=>hi b hb) (λ_=>qw2 (λ_=>qw2 (λ_=>qw5 hb) (λ_=>hi k hk')) (λ_=>hi k hk')))) (λ_=>hi b hb))
theorem qym (s:BA) (hs:s.size<=100000) (f:Int) (hf:f<=9223372036854775806):Ok (qkx s f) (ptP s):=.via qko (by
 unfold qky;have hx:∃ k:Nat,1<=k/\k<=9223372036854775806/\(ite (true=true) (ite (f<(1:Int)) (1:Int) f) (ite ((1:Int)<f) (1:Int) f))=(k:Int):=by
  rw [if_pos rfl];split
  ·exact ⟨1,by omega,by omega,rfl⟩
  ·exact ⟨f.toNat,by omega,by omega,by omega⟩
 obtain ⟨k,h1,h2,h3⟩:=hx;rw [h3];refine qw1 (qyl s hs _ k 0 h1 (Nat.le_refl _) h2 ⟨by omega,by omega⟩) ?_
 rintro (r|r) hr
 ·exact qw5 hr
 ·exact qw5 hr)
def flQ (x:((Unit×BA×Int×Nat×Bool)×(Int×Int)×List BA)⊕((Unit×BA×Nat×Int×Bool)×(Int×Int)×List BA)):BA×Nat×List BA:=Sum.elim (λr=>(r.1.2.1,r.1.2.2.2.1,r.2.2)) (λr=>(r.1.2.1,r.1.2.2.1,r.2.2)) x
def szB (l:List BA):Prop:=∀ e∈l,e.size<=100000
theorem q1f0 {l:List BA} {s:BA} (h:szB l) (hs:s.size<=100000):szB (l++[s]):=by
 intro e he;rcases List.mem_append.1 he with he|he
 ·exact h e he
 ·have:e=s:=by simpa using he
  rw [this];exact hs
theorem qk7:∀ (m:Nat) (s:BA) (f:Int) (out:Nat) (l:List BA),s.size<=m->out=l.length->out+s.size<=100000->f<=100000->szB l->Ok (qjo s f out 0 0 l) λx=>(flQ x).2.1=(flQ x).2.2.length/\(flQ x).2.1<=100000/\(flQ x).1.size<=100000/\szB (flQ x).2.2/\(s.size<=78->flQ x=(s,out,l)):=by
 intro m;induction m with
 |zero =>
  intro s f out l hm ho hb hf hz;refine .via qjq ?_;unfold qjv;try simp only [gL,dL,p0,aL,dQ]
  refine qw2 (λh=>?_) (λ_=>qw4 (by simp [EC.isL_encL]) (qw5 ?_))
  ·have:=of_decide_eq_true h
   omega
  ·simp only [x25q,flQ,Sum.elim_inl]
   exact ⟨ho,by omega,by omega,hz,λ_=>trivial⟩
 |succ m ih =>
  intro s f out l hm ho hb hf hz;refine .via qjq ?_;unfold qjv;try simp only [gL,dL,p0,aL,dQ]
  refine qw2 (λh=>?_) (λ_=>qw4 (by simp [EC.isL_encL]) (qw5 ?_))
  ·have h78:=of_decide_eq_true h
   refine qw1 (qym s (by omega) f (by omega)) λr hr=>?_
   obtain ⟨p0,p1⟩:=hr;refine qw2 (λ_=>qw4 (by simp [EC.isL_encL]) (qw5 ?_)) (λhne=>?_)
   ·simp only [x25q,flQ,Sum.elim_inr]
    exact ⟨ho,by omega,by omega,hz,λh=>by omega⟩
   ·have hne:r≠0:=by simpa using hne
    have hz1:(s.extract r.toNat s.size).size=s.size - r.toNat:=by rw [ByteArray.size_extract];omega
    have hz2:(s.extract 0 r.toNat).size<=100000:=by rw [ByteArray.size_extract];omega
    simp only [x25q,x26q,q3w,q49];refine qw4 (by simp;omega) (qw4 (by simp;omega) (qw4 (by simp;omega) ?_))
    refine (ih _ 0 (out+1) (l++[s.extract 0 r.toNat]) (by rw [hz1];omega) (by simp [ho]) (by rw [hz1];omega) (by omega) (q1f0 hz hz2)).mono λx hx=>⟨hx.1,hx.2.1,hx.2.2.1,hx.2.2.2.1,λh=>by omega⟩
  ·simp only [x25q,flQ,Sum.elim_inl]
   exact ⟨ho,by omega,by omega,hz,λ_=>trivial⟩
theorem qpz (l:List BA) (k:Nat) (h:k<l.length):isP [K1.str] 0 ((qby.encL l).getD k [])=true:=by rw [EC.getD_lt _ _ h];rfl
theorem q1jf (out:Nat) (c d:Int) (l:List BA) (hl:l.length<=100001):∀ m k:Nat,k+m=l.length->Ok (qjg out l.length l.length k c d l) λx=>Sum.elim (λr=>r.1.1=0/\r.2.1=[]/\r.2.2.1=1/\¬ ∀ e∈l,e.size<=998) (λr=>r.1.2.1=out/\r.2.2=l) x:=by
 intro m;induction m with
 |zero =>
  intro k hk;refine .via qji ?_;unfold qjn;try simp only [gL,dL,lN,wI,p0]
  refine qw2 (λh=>?_) (λ_=>qw4 (by simp [EC.isL_encL]) (qw5 ?_))
  ·have:=of_decide_eq_true h
   omega
  ·simp only [x25q,Sum.elim_inr,and_self]
 |succ m ih =>
  intro k hk;have hlt:k<l.length:=by omega
  have e2:IntKind.i64.wrap ((k:Int)+1)=((k+1:Nat):Int):=by rw [q1jq (by omega)];rfl
  refine .via qji ?_;unfold qjn;try simp only [gL,dL,lN,wI,p0]
  simp only [x25q,x26q,x27q,q5c,x3q,e2];refine qw2 (λh=>?_) (λh=>?_)
  ·refine qw4 (by simp;omega) (qw4 (by rw [len_9 l k hlt];simp [hlt]) (qw4 (qpz l k hlt) ?_))
   refine qw2 (λhw=>?_) (λ_=>?_)
   ·refine qw1 (qia _ _) λr hr=>qw5 ?_
    subst hr;refine ⟨rfl,rfl,rfl,λhall=>?_⟩;have h1:=hall l[k] (y24q hlt)
    have h2:=of_decide_eq_true hw;rw [qm4 hlt] at h2;omega
   ·exact qw4 rfl (ih (k+1) (by omega))
  ·have:=of_decide_eq_false h
   omega
def foldP (n v:BA) (r:(Nat×Int×Int)×List BA):Prop:=r.1.1=r.2.length/\r.1.1<=100001/\szB r.2/\(r.1.2.1=0->fnameB n=true/\v.size<=4000/\noSp (L v))/\(fnameB n=true->v.size=0->r.1.2.1=0)
theorem qkk (n v:BA):Ok (qjw n v) (foldP n v):=.via qjf (by
 unfold qjx;try simp only [gL,dL,aL,dQ,dM]
 refine qw1 (qw3 (qj9 n)) λr0 hr0=>?_;subst hr0;refine qw2 (λhb=>qw1 (qia _ _) λr hr=>qw5 ?_) (λhb=>?_)
 ·subst hr
  have hb:fnameB n=false:=by simpa using hb
  exact ⟨rfl,by simp,(λe he=>by simp [EC.decL] at he),(λh=>by simp at h),(λh=>by rw [hb] at h;cases h)⟩
 ·have hb:fnameB n=true:=by simpa using hb
  have hn:n.size<=60:=by
   unfold fnameB at hb;rw [x6q,x6q] at hb;have:=of_decide_eq_true hb.2.1
   omega
  refine qw2 (λhv=>qw1 (qia _ _) λr hr=>qw5 ?_) (λhv=>?_)
  ·subst hr
   have:=of_decide_eq_true hv;exact ⟨rfl,by simp,(λe he=>by simp [EC.decL] at he),(λh=>by simp at h),(λ_ h=>by omega)⟩
  ·have hv4:v.size<=4000:=by have:=of_decide_eq_false hv;omega
   refine qw1 (q1j6 v (by omega)) λr1 hr1=>qw2 (λhb1=>qw1 (qia _ _) λr hr=>qw5 ?_) (λhb1=>?_)
   ·subst hr
    exact ⟨rfl,by simp,(λe he=>by simp [EC.decL] at he),(λh=>by simp at h),(λ_ h=>by rw [hr1.1 h] at hb1;cases hb1)⟩
   ·have hc2:(ByteArray.mk (List.toArray [58,32])).size=2:=rfl
    have hsz:((n++ByteArray.mk (List.toArray [58,32]))++v).size=n.size+2+v.size:=by rw [ByteArray.size_append,ByteArray.size_append,hc2]
    have hsz1:(n++ByteArray.mk (List.toArray [58,32])).size=n.size+2:=by rw [ByteArray.size_append,hc2]
    rw [maxI,hc2,hsz1];refine qw2 (λh=>absurd (of_decide_eq_true h) (by omega)) (λ_=>qw2 (λh=>absurd (of_decide_eq_true h) (by omega)) (λ_=>?_))
    have hw:IntKind.i64.wrap ((n.size:Int)+2)=((n.size+2:Nat):Int):=by rw [q1jq (by omega)];rfl
    rw [hw,qj];refine qw1 (qk7 _ _ _ 0 [] (Nat.le_refl _) rfl (by rw [hsz];omega) (by omega) (λe he=>by cases he)) ?_
    intro r hr
    have fin:∀ (c d:Int) (s:BA) (o:Nat) (l:List BA),o=l.length->o<=100000->s.size<=100000->szB l->(n.size+2+v.size<=78->s.size<=78/\l=[]) ->
      Ok (Option.bind (qjg (o+1) (o+1) (((o+1:Nat)):Int) 0 c d (l++[s])) λr4=>Sum.elim (λr5=>some ((r5.1.1,r5.2.2.1,r5.2.2.2),r5.2.1)) (λr5=>Option.bind q7g λr6=>some ((r5.1.2.1,r6.1,r6.2),r5.2.2)) r4) (foldP n v):=by
     intro c d s o l ho h1 h2 h3 h4;have hl:(l++[s]).length=o+1:=by simp [ho]
     have hz:=q1f0 h3 h2;have hwd:=q1jf (o+1) c d (l++[s]) (by omega) (l++[s]).length 0 (by omega)
     rw [hl] at hwd;refine qw1 hwd ?_;rintro (x|x) hx
     ·obtain ⟨x1,x2,x3,x4⟩:=hx
      refine qw5 ⟨by rw [x1,x2];rfl,by rw [x1];omega,by rw [x2];exact (λe he=>by cases he),(λh=>by rw [x3] at h;cases h),(λ_ h0=>absurd (λe he=>?_) x4)⟩
      obtain ⟨g1,g2⟩:=h4 (by omega)
      subst g2;have:e=s:=by simpa using he
      rw [this];omega
     ·obtain ⟨x1,x2⟩:=hx
      refine qw1 qv3 λr6 hr6=>qw5 ?_;subst hr6;exact ⟨by rw [x1,x2,hl],by rw [x1];omega,by rw [x2];exact hz,(λ_=>⟨hb,hv4,hr1.2 (by simpa using hb1)⟩),(λ_ _=>rfl)⟩
    rcases r with r|r
    ·obtain ⟨q1,q2,q3,q4,q5⟩:=hr
     simp only [flQ,Sum.elim_inl] at q1 q2 q3 q4 q5;have hf:=fin r.2.1.1 r.2.1.2 r.1.2.1 r.1.2.2.2.1 r.2.2 q1 q2 q3 q4 (λh=>by
      have:=q5 (by rw [hsz];omega)
      rw [Prod.mk.injEq,Prod.mk.injEq] at this;rw [this.1,this.2.2];exact ⟨by rw [hsz];omega,rfl⟩)
     show Ok (gdE _ _) _;refine qw4 (by simp [q3w];omega) (qw4 (by simp [EC.isL_encL,q49]) ?_)
     simp only [x25q,x26q,q49,qm1,x20q];exact hf
    ·obtain ⟨q1,q2,q3,q4,q5⟩:=hr
     simp only [flQ,Sum.elim_inr] at q1 q2 q3 q4 q5;have hf:=fin r.2.1.1 r.2.1.2 r.1.2.1 r.1.2.2.1 r.2.2 q1 q2 q3 q4 (λh=>by
      have:=q5 (by rw [hsz];omega)
      rw [Prod.mk.injEq,Prod.mk.injEq] at this;rw [this.1,this.2.2];exact ⟨by rw [hsz];omega,rfl⟩)
     show Ok (gdE _ _) _;refine qw4 (by simp [q3w];omega) (qw4 (by simp [EC.isL_encL,q49]) ?_)
     simp only [x25q,x26q,q49,qm1,x20q];exact hf)
def fieldB (x:S71):Prop:=fnameB x.Name=true/\x.Value.size<=4000/\noSp (L x.Value)
theorem qor (l:List S71) (hl:l.length<=60) (c d:Int):∀ m k:Nat,k+m=l.length->Ok (qnb l l.length k c d) λx=>Sum.elim (λr=>r.2.1≠0) (λ_=>∀ x∈l.drop k,fieldB x) x:=by
 intro m;induction m with
 |zero =>
  intro k hk;refine .via qnd ?_;unfold qni;try simp only [gL,dL,eC,wI,p0]
  refine qw2 (λh=>?_) (λ_=>qw4 (by simp [EC.isL_encL]) (qw5 ?_))
  ·have:=of_decide_eq_true h
   omega
  ·rw [y16q (by omega)]
   intro x hx;cases hx
 |succ m ih =>
  intro k hk;have hlt:k<l.length:=by omega
  have e2:IntKind.i64.wrap ((k:Int)+1)=((k+1:Nat):Int):=by rw [q1jq (by omega)];rfl
  refine .via qnd ?_;unfold qni;try simp only [gL,dL,eC,wI,p0]
  simp only [x25q,x26q,x27q,isE_71,q55,q56,x3q,e2];refine qw2 (λh=>?_) (λh=>?_)
  ·refine qw4 (by simp) (qw4 (by simp [hlt]) ?_)
   refine qw1 (qkk _ _) λr hr=>?_;rw [qm4 hlt] at hr;refine qw1 (qw3 (qi9 _ _)) λr1 hr1=>?_;subst hr1;refine qw2 (λhb=>qw1 (qia _ _) λr2 hr2=>qw5 ?_) (λhb=>?_)
   ·subst hr2
    show r.1.2.1≠0;simpa using hb
   ·have h0:r.1.2.1=0:=by simpa using hb
    refine qw4 rfl ((ih (k+1) (by omega)).mono λx hx=>?_)
    rcases x with x|x
    ·exact hx
    ·show ∀ y∈l.drop k,fieldB y
     rw [qbm hlt];intro y hy;rcases y32q.1 hy with rfl|hy
     ·exact hr.2.2.2.1 h0
     ·exact hx y hy
  ·have:=of_decide_eq_false h
   omega
def hvalP (l:List S71) (r:Int×Int):Prop:=r.1=0->l.length<=60/\∀ x∈l,fieldB x
theorem qos (l:List S71):Ok (qnj l) (hvalP l):=.via qna (by
 unfold qnk;try simp only [gL,dL,lN]
 simp only [x25q,x26q,x27q];refine qw2 (λh=>qw1 (qia _ _) λr hr=>qw5 ?_) (λh=>qw4 rfl ?_)
 ·subst hr
  intro h;cases h
 ·have hl:l.length<=60:=by have:=of_decide_eq_false h;omega
  refine qw1 (qor l hl 0 0 l.length 0 (by omega)) ?_
  rintro (r|r) hr
  ·exact qw5 (λh=>absurd h hr)
  ·refine qw1 qv3 λr2 hr2=>qw5 ?_
   intro _;exact ⟨hl,by rw [x10q] at hr;exact hr⟩)
theorem qo4 (s:BA):Ok (qnp s) λr=>r=fnameB s:=.via qno (by
 unfold qnq;refine qw1 (qkk _ _) λr hr=>?_;refine qw1 (qw3 (qi9 _ _)) λr1 hr1=>qw5 ?_;subst hr1;obtain ⟨_,_,_,h1,h2⟩:=hr;cases hb:fnameB s with
 |true=>rw [h2 hb rfl];rfl
 |false =>
  have:r.1.2.1≠0:=λh=>by rw [(h1 h).1] at hb;cases hb
  simpa using this)
theorem qmj (s p:BA):Ok (q1e7 s p) λ_=>True:=.via q1e6 (by
 unfold q1e8;refine qw1 (P:=λ_=>True) (.via q1ei ?_) λr _=>qw5 trivial;unfold q1ek;try simp only [p0]
 refine qw2 (λh=>qw4 ?_ (qw5 trivial)) (λ_=>qw5 trivial);simp at h ⊢;exact h)
theorem qmr (s p:BA) (hs:s.size<=2000000):Ok (q1ed s p) λ_=>True:=.via q1ec (by
 unfold q1ee;refine qw1 (P:=λ_=>True) (.via q1eo ?_) λr _=>qw5 trivial;unfold q1eq;try simp only [p0]
 refine qw2 (λh=>qw4 ?_ (qw5 trivial)) (λ_=>qw5 trivial);have h:(s.size:Int)≥(p.size:Int):=by simpa using h
 rw [q1jq (by omega)]
 simp;omega)
theorem qug (s:BA):Ok (q7a s) λ_=>True:=.via q79 (by
 unfold q7b;refine qw2 (λ_=>qw2 (λh=>?_) (λ_=>qw5 trivial)) (λ_=>qw5 trivial);have h:(s.size:Int)<=60:=by simpa using h
 exact qw1 (qw3 (q3c s (by omega))) λr _=>qw5 trivial)
theorem qbi (s:BA):Ok (qda s) λr=>r=true->s.size<=60:=.via qd9 (by
 unfold qdb;refine qw2 (λ_=>qw2 (λh=>?_) (λ_=>qw5 (λh=>by cases h))) (λ_=>qw5 (λh=>by cases h))
 have h:(s.size:Int)<=60:=by simpa using h
 have hs:s.size<=60:=by omega
 refine qw1 (qw3 (q1w s (by omega))) λr _=>?_
 refine qw2 (λ_=>qw1 (qmj _ _) λr1 _=>qw2 (λ_=>qw1 (qmr _ _ (by omega)) λr2 _=>qw2 (λ_=>?_) (λ_=>qw5 (λ_=>hs))) (λ_=>qw5 (λ_=>hs))) (λ_=>qw5 (λ_=>hs))
 refine qw1 (P:=λ_=>True) ⟨_,by unfold contP;rw [if_pos (by omega)],trivial⟩ λr3 _=>qw5 (λ_=>hs))
theorem qak (s sep:List UInt8) (h:(Lib.cut s sep).2.2=true):(Lib.cut s sep).1.length+sep.length+(Lib.cut s sep).2.1.length=s.length:=by
 unfold Lib.cut at *;split at h
 ·rename_i h0
  rw [if_pos h0];have:=Lib.index_room s sep h0
  simp only [y35q,y48q];omega
 ·cases h
theorem q1da (s:BA) (hs:s.size<=2000000):Ok (qe6 s) λr=>r.2.2=true->s.size<=121:=.via qe5 (by
 unfold qe7;have hc:=qak s.data.toList [64]
 refine qw1 (P:=λr:BA×BA×Bool=>r.2.2=true->r.1.size+1+r.2.1.size=s.size) ⟨_,by unfold cutP;rw [if_pos (by omega)],λh=>?_⟩ λr hr=>?_
 ·have:=hc h
  have e:s.data.toList.length=s.size:=by rw [x24q];rfl
  rw [e] at this;exact this
 ·refine qw2 (λhk=>?_) (λ_=>qw5 (λh=>by cases h))
  have hk:=hr (by simpa using hk)
  refine qw2 (λ_=>qw2 (λh=>?_) (λ_=>qw5 (λh=>by cases h))) (λ_=>qw5 (λh=>by cases h))
  have h:(r.1.size:Int)<=60:=by simpa using h
  refine qw1 (qw3 (q2v r.1 (by omega))) λr1 _=>qw2 (λ_=>?_) (λ_=>qw5 (λh=>by cases h))
  exact qw1 (qbi _) λr2 h2=>qw5 (λh3=>by have:=h2 h3;omega))
theorem q13 (s:BA) (hs:s.size<=2000000):Ok (qcy s) λr=>r=true->s.size<=121:=.via qcx (by
 unfold qcz;exact qw1 (q1da s hs) λr h=>qw5 h)
theorem qv6 (n:Int):Ok (qdg n) λ_=>True:=.via qdf (by
 unfold qdh;exact qw2 (λ_=>qw5 trivial) (λ_=>qw5 trivial))
theorem qp7 (l:List S73) (hl:l.length<=2000000) (f:BA) (n:Int):∀ m k:Nat,k+m=l.length->Ok (qoz l f n l.length k) λ_=>True:=by
 intro m;induction m with
 |zero =>
  intro k hk;refine .via qp1 ?_;unfold qp6;try simp only [gL,dL,eC,wI,p0]
  refine qw2 (λh=>?_) (λ_=>qw4 (by simp [EC.isL_encL]) (qw5 trivial))
  have:=of_decide_eq_true h;omega
 |succ m ih =>
  intro k hk;have hlt:k<l.length:=by omega
  have e2:IntKind.i64.wrap ((k:Int)+1)=((k+1:Nat):Int):=by rw [q1jq (by omega)];rfl
  refine .via qp1 ?_;unfold qp6;try simp only [gL,dL,eC,wI,p0]
  simp only [x25q,x26q,x27q,isE_73,q57,q58,x3q,e2];refine qw2 (λh=>?_) (λh=>?_)
  ·refine qw4 (by simp) (qw4 (by simp [hlt]) ?_)
   refine qw1 (P:=λ_=>True) (.via q10h (qw5 trivial)) λr _=>qw2 (λ_=>qw5 trivial) (λ_=>qw4 rfl (ih (k+1) (by omega)))
  ·have:=of_decide_eq_false h
   omega
theorem qmo (l:List S73) (hl:l.length<=2000000) (f:BA) (n:Int):Ok (qmp l f n) λ_=>True:=.via qmn (by
 unfold qmq;try simp only [gL,dL]
 simp only [x25q,x26q];refine qw4 rfl (qw1 (P:=λ_=>True) (.via qoy ?_) λr _=>qw5 trivial);unfold qp9;try simp only [gL,dL,lN]
 simp only [x25q,x26q,x27q];refine qw4 rfl (qw1 (qp7 l hl f n l.length 0 (by omega)) ?_)
 rintro (r|r) _
 ·exact qw5 trivial
 ·exact qw5 trivial)
theorem q10k (l:List S73) (hl:l.length<=2000000) (ha:∀ x∈l,x.Address.size<=2000000) (c d:Int):∀ m k:Nat,k+m=l.length->Ok (qdm l l l.length k c d) λx=>Sum.elim (λr=>r.2.1≠0) (λ_=>∀ x∈l.drop k,x.Address.size<=121) x:=by
 intro m;induction m with
 |zero =>
  intro k hk;refine .via qdo ?_;unfold qdt;try simp only [gL,dL,lN,eC,wI,p0,aL]
  refine qw2 (λh=>?_) (λ_=>qw4 (by simp [EC.isL_encL]) (qw4 (by simp [EC.isL_encL]) (qw5 ?_)))
  ·have:=of_decide_eq_true h
   omega
  ·rw [y16q (by omega)]
   intro x hx;cases hx
 |succ m ih =>
  intro k hk;have hlt:k<l.length:=by omega
  have e2:IntKind.i64.wrap ((k:Int)+1)=((k+1:Nat):Int):=by rw [q1jq (by omega)];rfl
  refine .via qdo ?_;unfold qdt;try simp only [gL,dL,lN,eC,wI,p0,aL]
  simp only [x25q,x26q,x27q,isE_73,q57,q58,all_73,x3q,e2,qk,qi];refine qw2 (λh=>?_) (λh=>?_)
  ·refine qw4 (by simp) (qw4 (by simp [hlt]) ?_)
   rw [qm4 hlt];refine qw1 (q13 _ (ha _ (y24q hlt))) λr0 hr0=>qw2 (λ_=>qw1 (qia _ _) λr1 hr1=>qw5 ?_) (λhb=>?_)
   ·subst hr1
    intro h;cases h
   ·refine qw1 (qv6 _) λr1 _=>qw2 (λ_=>qw1 (qia _ _) λr2 hr2=>qw5 ?_) (λ_=>?_)
    ·subst hr2
     intro h;cases h
    ·refine qw4 (by simp;omega) (qw4 (by simp []) ?_)
     refine qw4 rfl (qw1 (qmo _ (by simp;omega) _ _) λr2 _=>qw2 (λ_=>qw1 (qia _ _) λr3 hr3=>qw5 ?_) (λ_=>qw4 rfl (qw4 rfl ((ih (k+1) (by omega)).mono λx hx=>?_))))
     ·subst hr3
      intro h;cases h
     ·rcases x with x|x
      ·exact hx
      ·show ∀ y∈l.drop k,y.Address.size<=121
       rw [qbm hlt];intro y hy;rcases y32q.1 hy with rfl|hy
       ·exact hr0 (by simpa using hb)
       ·exact hx y hy
  ·have:=of_decide_eq_false h
   omega
theorem q10l (l:List S73) (hl:l.length<=2000000) (ha:∀ x∈l,x.Address.size<=2000000):Ok (qdu l) λr=>r.1=0->∀ x∈l,x.Address.size<=121:=.via qdl (by
 unfold qdv;try simp only [gL,dL,lN]
 simp only [x25q,x26q,x27q];refine qw4 rfl (qw4 rfl (qw1 (q10k l hl ha 0 0 l.length 0 (by omega)) ?_))
 rintro (r|r) hr
 ·exact qw5 (λh=>absurd h hr)
 ·refine qw1 qv3 λr2 hr2=>qw5 ?_
  intro _;rw [x10q] at hr;exact hr)
def envB (f:BA) (l:List S73):Prop:=f.size<=121/\l.length<=60/\∀ x∈l,x.Address.size<=121
theorem env_ok (f:BA) (l:List S73) (i:BA) (hf:f.size<=2000000) (hl:l.length<=2000000) (ha:∀ x∈l,x.Address.size<=2000000):Ok (qec f l i) λr=>r.1=0->envB f l:=.via qeb (by
 unfold qed;try simp only [ze_t,gL,dL,lN]
 simp only [x25q,x26q,x27q,em_def];have rest:f.size<=121->l.length<=60->Ok (brE ((!em i)==true) (Option.bind (q7a i) λr0=>brE (!r0) (Option.bind (q6f 10 (-12)) λr1=>some (r1.1,r1.2)) (gdE true<| Option.bind (qdu l) λr1=>some (r1.1,r1.2))) (gdE true<| Option.bind (qdu l) λr0=>some (r0.1,r0.2))) λr=>r.1=0->envB f l:=by
  intro h1 h2;have fin:Ok (gdE true<| Option.bind (qdu l) λr0=>some (r0.1,r0.2)) λr=>r.1=0->envB f l:=qw4 rfl (qw1 (q10l l hl ha) λr hr=>qw5 λh=>⟨h1,h2,hr h⟩)
  refine qw2 (λ_=>qw1 (qug _) λr _=>qw2 (λ_=>qw1 (qia _ _) λr1 hr1=>qw5 ?_) (λ_=>fin)) (λ_=>fin);subst hr1;intro h;cases h
 have bad:∀ a b:Int,a≠0->Ok (Option.bind (q6f a b) λr1=>some (r1.1,r1.2)) λr=>r.1=0->envB f l:=λa b h0=>qw1 (qia _ _) λr hr=>qw5 (by subst hr;exact λh=>absurd h h0)
 have rest2:f.size<=121->Ok (brE (decide ((l.length:Int)<1)==false) (brE (decide ((l.length:Int)>60)) (Option.bind (q6f 2 (-11)) λr1=>some (r1.1,r1.2)) (brE ((!em i)==true) (Option.bind (q7a i) λr0=>brE (!r0) (Option.bind (q6f 10 (-12)) λr1=>some (r1.1,r1.2)) (gdE true<| Option.bind (qdu l) λr1=>some (r1.1,r1.2))) (gdE true<| Option.bind (qdu l) λr0=>some (r0.1,r0.2)))) (Option.bind (q6f 2 (-11)) λr1=>some (r1.1,r1.2))) λr=>r.1=0->envB f l:=λh1 =>
  qw2 (λ_=>qw2 (λ_=>bad _ _ (by decide)) (λh=>rest h1 (by have:=of_decide_eq_false h;omega))) (λ_=>bad _ _ (by decide))
 refine qw2 (λ_=>qw1 (q13 f hf) λr hr=>qw2 (λ_=>bad _ _ (by decide)) (λh=>rest2 (hr (by simpa using h)))) (λh=>rest2 ?_)
 have he:em f=true:=by cases h2:em f with|true=>rfl|false=>rw [h2] at h;cases h
 rw [qc9] at he;have:=of_decide_eq_true he
 omega)
theorem nb_low (b:UInt8):nb (lowB b)=lowI (nb b):=by have h:=qsg (qui b).1 (qui b).2;unfold lowB ub;generalize lowI (nb b)=c at h;unfold nb;rw [y47q];omega
theorem qj6 (c:Int):fnB (lowI c)=fnB c:=by
 unfold lowI fnB;split
 ·rw [Bool.eq_iff_iff]
  simp;omega
 ·rfl
theorem qj8 {a b:BA} (h:lowL (L a)=lowL (L b)):fnameB a=fnameB b:=by
 have hl:(L a).length=(L b).length:=by have:=congrArg List.length h;simpa [lowL] using this
 have hs:a.size=b.size:=by rw [←qo,←qo,hl]
 have hp:∀ s:BA,(L s).all q2b=(lowL (L s)).all q2b:=by
  intro s;unfold lowL;rw [List.all_map];congr 1;funext x;show fnB (nb x)=fnB (nb (lowB x))
  rw [nb_low,qj6]
 unfold fnameB;rw [qc9,qc9,hs,hp a,hp b,h]
def sm (n:BA) (x:S71):Bool:=lowL (L x.Name)==lowL (L n)
def valsL (l:List S71) (n:BA):List BA:=(l.filter (sm n)).map λx=>x.Value
theorem q1j5 (l:List S71) (n:BA):(valsL l n).length<=l.length:=by unfold valsL;rw [y36q];exact List.length_filter_le _ _
theorem q1j4 (x:S71) (l:List S71) (n:BA):valsL (x::l) n=if sm n x=true then x.Value::valsL l n else valsL l n:=by unfold valsL;rw [List.filter_cons];split <;> rfl
theorem qm8 (l:List S71) (n:BA) (hl:l.length<=60) (hn:n.size<=2000000) (hx:∀ x∈l,x.Name.size<=2000000) (c d:Int):∀ (m k:Nat) (acc:List BA),k+m=l.length->acc.length<=k->Ok (qmy n acc.length l l.length k c d acc) λx=>x.2.2=acc++valsL (l.drop k) n/\x.1.2.2.1=x.2.2.length:=by
 intro m;induction m with
 |zero =>
  intro k acc hk ha;refine .via qn0 ?_;unfold qn4;try simp only [gL,dL,eC,wI,p0,aL,dQ]
  simp only [x25q,x26q,x27q,q3w,q49,isE_71,q55,q56];refine qw2 (λh=>?_) (λ_=>qw4 rfl (qw4 rfl (qw5 ?_)))
  ·have:=of_decide_eq_true h
   omega
  ·rw [y16q (by omega)]
   exact ⟨(List.append_nil _).symm,rfl⟩
 |succ m ih =>
  intro k acc hk ha;have hlt:k<l.length:=by omega
  have e2:IntKind.i64.wrap ((k:Int)+1)=((k+1:Nat):Int):=by rw [q1jq (by omega)];rfl
  refine .via qn0 ?_;unfold qn4;try simp only [gL,dL,eC,wI,p0,aL,dQ]
  simp only [x25q,x26q,x27q,q3w,q49,isE_71,q55,q56,x3q,e2];refine qw2 (λh=>?_) (λh=>?_)
  ·refine qw4 (by simp) (qw4 (by simp [hlt]) ?_)
   rw [qm4 hlt];have h1:=hx _ (y24q hlt)
   refine qw1 (qw3 (same_s l[k].Name n (by omega) (by omega))) λr hr=>?_
   rw [qbm hlt,q1j4];refine qw2 (λhb=>?_) (λhb=>?_)
   ·rw [hr] at hb
    have hb:sm n l[k]=true:=hb;rw [if_pos hb];refine qw4 (by simp;omega) (qw4 rfl (qw4 rfl ?_))
    have:=ih (k+1) (acc++[l[k].Value]) (by omega) (by simp;omega)
    rw [x12q] at this;refine this.mono λx h=>⟨by rw [h.1,y12q];rfl,h.2⟩
   ·rw [hr] at hb
    have hb:sm n l[k]=false:=hb;rw [if_neg (by rw [hb];decide)]
    exact qw4 rfl (qw4 rfl (ih (k+1) acc (by omega) (by omega)))
  ·have:=of_decide_eq_false h
   omega
theorem qj7 {n:BA} (h:fnameB n=true):n.size<=60:=by
 unfold fnameB at h;rw [x6q,x6q] at h;have:=of_decide_eq_true h.2.1
 omega
structure HdrOk (l:List S71):Prop where
 val:∃ i,qnj l=some (0,i)
 len:l.length<=60
 all:∀ x∈l,fieldB x
theorem get_s {l:List S71} (h:HdrOk l) (n:BA) (hn:n.size<=2000000):Ok (qn5 l n) λr=>r.2=valsL l n/\r.1.1=r.2.length:=.via qmx (by
 obtain ⟨i,hv⟩:=h.val
 have hval:Ok (qnv l n) λr=>(fnameB n=true->r.1=0)/\(fnameB n=false->r.1≠0):=.via qnu (by
  unfold qnw;try simp only [gL,dL]
  simp only [x25q,x26q];refine qw4 rfl (qw1 (qw3 hv) λr hr=>?_);subst hr;refine qw1 (qw3 (qi9 _ _)) λr1 hr1=>?_;subst hr1;refine qw2 (λh=>by cases h) (λ_=>?_)
  refine qw1 (qo4 n) λr2 hr2=>qw2 (λhb=>qw1 (qia _ _) λr3 hr3=>qw5 ?_) (λhb=>qw1 qv3 λr3 hr3=>qw5 ?_)
  ·subst hr3
   refine ⟨λh=>?_,λ_=>by decide⟩
   rw [hr2,h] at hb;cases hb
  ·subst hr3
   refine ⟨λ_=>rfl,λh=>?_⟩;rw [hr2,h] at hb;cases hb)
 unfold qn6;try simp only [gL,dL,lN]
 simp only [x25q,x26q,x27q,qj];refine qw4 rfl (qw1 hval λr0 hr0=>qw1 (qw3 (qi9 _ _)) λr1 hr1=>?_);subst hr1;have hemp:fnameB n=false->valsL l n=[]:=by
  intro hf;unfold valsL;have:l.filter (sm n)=[]:=by
   rw [List.filter_eq_nil_iff];intro x hx hs;have:=qj8 (a:=x.Name) (b:=n) (by simpa [sm] using hs)
   rw [(h.all x hx).1,hf] at this;cases this
  rw [this];rfl
 refine qw2 (λhb=>qw5 ?_) (λhb=>?_)
 ·have hf:fnameB n=false:=by
   cases hf:fnameB n with
   |true=>rw [hr0.1 hf] at hb;cases hb
   |false=>rfl
  exact ⟨(hemp hf).symm,rfl⟩
 ·refine qw4 rfl (qw1 (qm8 l n h.len hn (λx hx=>by have:=qj7 (h.all x hx).1;omega) 0 0 l.length 0 [] (by omega) (by simp)) λr2 hr2=>qw1 qv3 λr3 hr3=>qw4 rfl (qw5 ?_))
  rw [x10q,y14q] at hr2;exact hr2)
theorem bmap (s:BA):List.map (λ(b:UInt8)=>[byteC b]) (Array.toList (ByteArray.data s))=qbt.encL (ints s):=q8u s
theorem qcn {τ:Type} (e:EC τ) (a b:List τ):e.encL a++e.encL b=e.encL (a++b):=by simp [EC.encL]
theorem qaf:([[C.int .u8 (13:Int)],[C.int .u8 (10:Int)]]:List (List C))=qbt.encL [13,10]:=rfl
theorem qrw (l:List S71) (t12 t13:Int) (b0:List S71) (b01:List Int) (b2:List BA) (hb:b2.length<=100001) (hz:szB b2):∀ (m k:Nat) (b1:List Int),k+m=b2.length->b1.length+m*100002<=1000000000000 ->
  Ok (qu1 b1.length l t12 t13 b2.length b2.length k b0 b01 b1 b2) λx=>x.1.2.2.1=l/\x.1.2.2.2.1=t12/\x.1.2.2.2.2.1=t13/\x.2.1=(b0,b01)/\x.1.2.1=x.2.2.1.length/\x.1.2.1<=b1.length+m*100002:=by
 intro m;induction m with
 |zero =>
  intro k b1 hk hs;refine .via qu3 ?_;unfold qu7;try simp only [gL,dL,lN,wI,p0,aL,dQ]
  simp only [x25q,x26q,x27q,q3u,q5c];refine qw2 (λh=>?_) (λ_=>qw4 rfl (qw4 rfl (qw4 rfl (qw4 rfl (qw4 rfl (qw5 ⟨rfl,rfl,rfl,rfl,rfl,by show b1.length<=_;omega⟩))))))
  have:=of_decide_eq_true h;omega
 |succ m ih =>
  intro k b1 hk hs;have hlt:k<b2.length:=by omega
  have e2:IntKind.i64.wrap ((k:Int)+1)=((k+1:Nat):Int):=by rw [q1jq (by omega)];rfl
  refine .via qu3 ?_;unfold qu7;try simp only [gL,dL,lN,wI,p0,aL,dQ]
  simp only [x25q,x26q,x27q,q3u,q5c,x3q,e2];refine qw2 (λh=>?_) (λh=>?_)
  ·refine qw4 (by simp;omega) (qw4 (by rw [len_9 b2 k hlt];simp [hlt]) (qw4 (qpz b2 k hlt) ?_))
   rw [qm4 hlt];have hsz:=hz _ (y24q hlt)
   have hil:=qpl b2[k];simp only [bmap,qaf,qcn,x25q,x26q,x27q,q3u,hil];refine qw4 (by simp;omega) (qw4 (by simp;omega) (qw4 rfl (qw4 rfl (qw4 rfl (qw4 rfl (qw4 rfl ?_))))))
   have hl2:((b1++ints b2[k])++[13,10]).length=b1.length+b2[k].size+2:=by simp [hil];omega
   have:=ih (k+1) ((b1++ints b2[k])++[13,10]) (by omega) (by rw [hl2];omega)
   rw [hl2] at this;refine this.mono λx hx=>⟨hx.1,hx.2.1,hx.2.2.1,hx.2.2.2.1,hx.2.2.2.2.1,by have:=hx.2.2.2.2.2;omega⟩
  ·have:=of_decide_eq_false h
   omega
set_option maxRecDepth 100000 in
theorem qic (l:List S71) (hl:l.length<=60) (b0:List S71) (b01:List Int):∀ (m k:Nat) (b1:List Int),k+m=l.length->b1.length+m*10001000000<=900000000000 ->
  Ok (qtu b1.length l l.length k b0 b01 b1) λx=>x.2.1=(b0,b01)/\x.1.2.1=x.2.2.length/\x.1.2.1<=900000000000:=by
 intro m;induction m with
 |zero =>
  intro k b1 hk hs;refine .via qtw ?_;unfold qu0;try simp only [gL,dL,eC,wI,p0]
  simp only [x25q,x26q,x27q,isE_71,q55,q56];refine qw2 (λh=>?_) (λ_=>qw4 rfl (qw4 rfl (qw4 rfl (qw4 rfl (qw5 ⟨rfl,rfl,by show b1.length<=_;omega⟩)))))
  have:=of_decide_eq_true h;omega
 |succ m ih =>
  intro k b1 hk hs;have hlt:k<l.length:=by omega
  have e2:IntKind.i64.wrap ((k:Int)+1)=((k+1:Nat):Int):=by rw [q1jq (by omega)];rfl
  refine .via qtw ?_;unfold qu0;try simp only [gL,dL,eC,wI,p0]
  simp only [x25q,x26q,x27q,isE_71,q55,q56,x3q];refine qw2 (λh=>?_) (λh=>?_)
  ·refine qw4 (by simp) (qw4 (by simp [hlt]) ?_)
   rw [qm4 hlt];refine qw1 (qkk _ _) λr hr=>?_;obtain ⟨h1,h2,h3,_⟩:=hr;rw [h1];rw [h1] at h2;refine qw4 rfl (qw4 rfl (qw4 rfl (qw4 rfl (qw4 rfl ?_))));have hz0:0+r.2.length=r.2.length:=Nat.zero_add _
   have hbig:b1.length+r.2.length*100002<=1000000000000:=by
    have g1:r.2.length*100002<=10001000000:=Nat.le_trans (y18q 100002 h2) (by decide)
    have g2:10001000000<=(m+1)*10001000000:=Nat.le_mul_of_pos_left _ (Nat.succ_pos m);exact Nat.le_trans (Nat.add_le_add_left (Nat.le_trans g1 g2) _) (Nat.le_trans hs (by decide))
   refine qw1 (qrw l l.length k b0 b01 r.2 h2 h3 r.2.length 0 b1 hz0 hbig) λr1 hr1=>?_;obtain ⟨q1,q2,q3,q4,q5,q6⟩:=hr1;rw [q1,q2,q3,q4,q5,e2];refine qw4 rfl (qw4 rfl (qw4 rfl (qw4 rfl ?_)));exact ih (k+1) r1.2.2.1 (by omega) (by rw [←q5];omega)
  ·have:=of_decide_eq_false h
   omega
theorem q1ju (l:List S71) (hl:l.length<=60) (b:List Int) (hb:b.length<=2000000):Ok (qu8 l b) λr=>r.1=r.2.length:=.via qtt (by
 unfold qu9;try simp only [gL,dL,lN,aL,dQ]
 simp only [x25q,x26q,x27q,q3u,qj];refine qw4 rfl (qw4 rfl (qw4 rfl ?_));refine qw1 (qic l hl l b l.length 0 [] (by omega) (by simp;omega)) λr hr=>?_
 obtain ⟨h1,h2,h3⟩:=hr;rw [h1];simp only [qaf,qcn,x25q,x26q,x27q,q3u];refine qw4 (by simp;omega) (qw4 (by simp;omega) (qw4 rfl (qw5 ?_)))
 simp only [x12q,h2])
theorem q8a (b:List Int) (hb:b.length<=2000000):∀ (m k:Nat) (c:Int),b.length - k<=m->k<=b.length+2->0<=c->c<=998->Ok (q5v b c k) λ_=>True:=by
  intro m;induction m with
  | zero =>
    intro k c hk hk2 h0 h1;refine .via q5x ?_;unfold q62;try simp only [za_t,gL,dL,wI,gL,dL,lN,eC,wI,p0]
    simp only [x25q,x26q,x27q,isE_5,at_5_0];refine qw2 (λh=>?_) (λ_=>qw4 rfl (qw5 trivial));have:=of_decide_eq_true h
    omega
  | succ m ih =>
    intro k c hk hk2 h0 h1;refine .via q5x ?_;unfold q62;try simp only [za_t,gL,dL,wI,gL,dL,lN,eC,wI,p0]
    have e2:IntKind.i64.wrap ((k:Int)+1)=((k+1:Nat):Int):=by rw [q1jq (by omega)];rfl
    have e3:IntKind.i64.wrap (((k+1:Nat):Int)+1)=((k+2:Nat):Int):=by rw [q1jq (by omega)];omega
    have ec:IntKind.i64.wrap (c+1)=c+1:=q1jq (by omega)
    simp only [x25q,x26q,x27q,isE_5,at_5_0,x3q,e2,e3,ec];refine qw2 (λh=>?_) (λ_=>qw4 rfl (qw5 trivial));have hlt:k<b.length:=by have:=of_decide_eq_true h;omega
    have step:Ok (brE (decide (c+1>998)) (some (.inl ((1:Int),()))) (gdE true<| q5v b (c+1) ((k+1:Nat):Int))) λ_=>True:=qw2 (λ_=>qw5 trivial) (λh=>qw4 rfl (ih (k+1) (c+1) (by omega) (by omega) (by omega) (by have:=of_decide_eq_false h;omega)))
    refine qw4 (by simp) (qw4 (by simp [hlt]) ?_)
    repeat' (first
      | exact qw5 trivial
      | exact step
      | exact qw4 rfl (ih (k+2) 0 (by omega) (by omega) (by omega) (by omega))
      | (refine qw4 ?_ ?_
         · first
             | (simp;done)
             | (simp;omega)
             | (simp_all;done)
             | (simp_all;omega))
      | (refine qw2 (λ_=>?_) (λ_=>?_)))
theorem q88 (b:List Int) (hb:b.length<=2000000):Ok (qto b) λ_=>True:=.via qtn (by
 unfold qtp;try simp only [gL,dL]
 simp only [x25q,x26q]
 have hbd:Ok (q63 b) λ_=>True:=.via q5u (by
  unfold q64;try simp only [gL,dL]
  simp only [x25q,x26q];refine qw4 rfl (qw1 (q8a b hb b.length 0 0 (by omega) (by omega) (by omega) (by omega)) ?_)
  rintro (r|r) _
  ·exact qw5 trivial
  ·exact qw5 trivial)
 refine qw4 rfl (qw1 hbd λr _=>qw2 (λ_=>qw1 (qia _ _) λ_ _=>qw5 trivial) (λ_=>qw2 (λ_=>qw1 (qia _ _) λ_ _=>qw5 trivial) (λ_=>qw1 qv3 λ_ _=>qw5 trivial))))
theorem qud (l:List S71) (b:List Int) (hb:b.length<=2000000):Ok (qtc l b) λr=>r.1=0->HdrOk l:=.via qtb (by
 unfold qtd;try simp only [gL,dL]
 simp only [x25q,x26q];obtain ⟨r0,e0,p0⟩:=qos l;refine qw4 rfl (qw1 (qw3 e0) λr hr=>?_);subst hr;refine qw1 (qw3 (qi9 _ _)) λr1 hr1=>?_;subst hr1;refine qw2 (λhb=>qw5 λh=>?_) (λhb0=>?_)
 ·rw [h] at hb;cases hb
 ·have h0:r.1=0:=by simpa using hb0
  obtain ⟨hl,ha⟩:=p0 h0;have hok:HdrOk l:=⟨⟨r.2,by rw [e0,←h0]⟩,hl,ha⟩
  refine qw4 rfl (qw4 rfl (qw1 (q1ju l hl b hb) λr2 _=>qw2 (λ_=>qw1 (qia _ _) λ_ _=>qw5 λ_=>hok) (λ_=>qw4 rfl (qw1 (q88 b hb) λ_ _=>qw5 λ_=>hok)))))
end Go.Proofs.YtmlcmoaonaomfaaGreatDoor
