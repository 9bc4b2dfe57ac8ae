/- Facts on texts and numbers; small functions. -/
import Derived.Test.YtmlcmoaonaomfaaGreatDoorH2
namespace Go.Proofs.YtmlcmoaonaomfaaGreatDoor
set_option linter.unusedSimpArgs false
open Go.RowKit
theorem q85 {β:Type} (q:Bool) (a b:Oq β):brE q a b=if q=true then a else b:=by cases q <;> rfl
theorem qk3 {β:Type} (q:Bool) (a:Oq β):gdE q a=if q=true then a else none:=by cases q <;> rfl
theorem beq_t (q:Bool):(q==true)=q:=by cases q <;> rfl
theorem beq_f (q:Bool):(q==false)=!q:=by cases q <;> rfl
theorem qk {τ:Type} (e:EC τ) (xs:List τ) (n:Nat):(e.encL xs).take n=e.encL (xs.take n):=by simp [EC.encL,List.map_take]
theorem qi {τ:Type} (e:EC τ) (xs:List τ) (n:Nat):(e.encL xs).drop n=e.encL (xs.drop n):=by simp [EC.encL,List.map_drop]
theorem qj {τ:Type} (e:EC τ):e.decL []=[]:=rfl
theorem EC_rep {τ:Type} (e:EC τ) (n:Nat) (x:τ):List.replicate n (e.enc x)=e.encL (List.replicate n x):=by simp [EC.encL]
theorem q1eu {k n:Nat} (h:k<n) (hn:n<=9223372036854775807):IntKind.i64.wrap ((k:Int)+1)=((k+1:Nat):Int):=by rw [IntWalk.i64_in _ (by omega)];rfl
theorem qk6 {α:Type} {l:List α} {k:Nat} {d:α} (h:k<l.length):l.getD k d=l[k]:=by simp [List.getD_eq_getElem?_getD,h]
theorem qcs {α:Type} {l:List α} {k:Nat} (h:k<l.length):l.drop k=l[k]::l.drop (k+1):=List.drop_eq_getElem_cons h
theorem wrap8 {n:Int} (h0:0<=n) (h1:n<256):IntKind.u8.wrap n=n:=IntWalk.u8_in n (by omega)
theorem qgd (a b:Int):q62 a b=some (a,b):=q61 rfl
theorem none_s:q73=some (0,0):=q72 rfl
def nb (b:UInt8):Int:=(b.toNat:Int)
def ints (s:BA):List Int:=s.data.toList.map nb
theorem qo9 (s:BA):(ints s).length=s.size:=by rw [ints,List.length_map,x24q];rfl
theorem q8o (s:BA):bytesL s=qcy.encL (ints s):=by
 show s.data.toList.map _=(s.data.toList.map nb).map qcy.enc
 rw [List.map_map];rfl
def ub (n:Int):UInt8:=UInt8.ofNat n.toNat
theorem q8l (xs:List Int):bytesOf (qcy.encL xs)=some (xs.map ub):=by
 induction xs with
 |nil=>rfl
 |cons x xs ih =>
  have:qcy.encL (x::xs)=[.int .u8 x]::qcy.encL xs:=rfl
  rw [this,bytesOf,ih];rfl
def lowI (c:Int):Int:=if 65<=c/\c<=90 then c+32 else c
def lowB (b:UInt8):UInt8:=ub (lowI (nb b))
def lowL (l:List UInt8):List UInt8:=l.map lowB
def lowS (s:BA):BA:=⟨(lowL s.data.toList).toArray⟩
theorem isP_5 (xs:List Int) (n:Nat) (h:n<xs.length):isP [.int .u8] 0 ((qcy.encL xs).getD n [])=true:=by
 rw [EC.getD_lt _ _ h];rfl
theorem qr7 (n:Nat) (hn:n<=9223372036854775807):∀ (m k:Nat) (xs:List Int),k+m=n->xs.length=n->∃ r,q6e n n n k xs=some r/\r.2=xs.take k++(xs.drop k).map lowI:=by
 intro m
 induction m with
 |zero =>
  intro k xs hk hl
  have hk:k=n:=by omega
  subst hk
  refine ⟨((k,k,(k:Int),(k:Int),false),xs),q6g (by
   simp only [q6k,z7,gL,dL,lN,wI,p0,q85,qk3,x25q,x26q,x27q,qol,q4x,q3k,q43,q164,qoo,q52,q3n,q46,q16b,qom,q4y,q4z,q3l,q44,q166,q165,q167,qon,q50,q51,q3m,q45,q169,q168,q16a,qoh,q4c,q4d,q4e,q4f,q4g,q4h,q3g,q3z,q15h,q15g,q15i,q15j,q15k,q15l,q15m,qoj,q4j,q4k,q4o,q4p,q4q,q4r,q4s,q4t,q4u,q4v,q4l,q4m,q4n,q3i,q41,q15p,q15o,q15u,q15t,q15v,q15w,q15x,q15y,q15z,q160,q161,q162,q15q,q15r,q15s,qoi,q4i,q3h,q40,q15n]
   simp),?_⟩
  rw [←hl];simp
 |succ m ih =>
  intro k xs hk hl
  have hlt:k<xs.length:=by omega
  have hkn:k<n:=by omega
  have hk':(k:Int)<(n:Int):=by omega
  by_cases hp:65<=xs[k]/\xs[k]<=90
  ·obtain ⟨r,hr,hv⟩:=ih (k+1) (xs.set k (xs[k]+32)) (by omega) (by simpa using hl)
   refine ⟨r,q6g ?_,?_⟩
   ·have w1:IntKind.u8.wrap (IntKind.u8.wrap (xs[k]+97) - 65)=xs[k]+32:=by rw [wrap8 (n:=xs[k]+97) (by omega) (by omega),wrap8 (by omega) (by omega)];omega
    simp only [q6k,z7,gL,dL,lN,wI,p0,q85,qk3,x25q,x26q,x27q,qol,q4x,q3k,q43,q164,qoo,q52,q3n,q46,q16b,qom,q4y,q4z,q3l,q44,q166,q165,q167,qon,q50,q51,q3m,q45,q169,q168,q16a,qoh,q4c,q4d,q4e,q4f,q4g,q4h,q3g,q3z,q15h,q15g,q15i,q15j,q15k,q15l,q15m,qoj,q4j,q4k,q4o,q4p,q4q,q4r,q4s,q4t,q4u,q4v,q4l,q4m,q4n,q3i,q41,q15p,q15o,q15u,q15t,q15v,q15w,q15x,q15y,q15z,q160,q161,q162,q15q,q15r,q15s,qoi,q4i,q3h,q40,q15n,x3q,qk6 hlt,isP_5 xs k hlt,len_5 xs k hlt,w1,q1eu hkn hn,hr]
    simp [hlt,hk',hp]
   ·have hlo:lowI xs[k]=xs[k]+32:=by simp [lowI,hp]
    rw [hv,qcs hlt,List.map_cons,hlo]
    apply List.ext_getElem?
    intro i
    rcases Nat.lt_trichotomy i k with h|h|h
    ·rw [List.getElem?_append_left (by simp;omega),List.getElem?_append_left (by simp;omega),List.getElem?_take_of_lt (by omega),List.getElem?_take_of_lt h,List.getElem?_set_ne (by omega)]
    ·subst h
     rw [List.getElem?_append_left (by simp;omega),List.getElem?_append_right (by simp;omega),List.getElem?_take_of_lt (by omega),List.getElem?_set_self hlt]
     simp [Nat.min_eq_left (Nat.le_of_lt hlt)]
    ·rw [List.getElem?_append_right (by simp;omega),List.getElem?_append_right (by simp;omega)]
     obtain ⟨q,rfl⟩:∃ q,i=k+1+q:=⟨i - (k+1),by omega⟩
     simp only [List.length_take,List.length_set,Nat.min_eq_left (Nat.le_of_lt hlt),Nat.min_eq_left (show k+1<=xs.length from hlt)]
     rw [show k+1+q - (k+1)=q by omega,show k+1+q - k=q+1 by omega,List.getElem?_cons_succ]
     simp only [x14q,List.getElem?_drop]
     rw [List.getElem?_set_ne (by omega)]
  ·obtain ⟨r,hr,hv⟩:=ih (k+1) xs (by omega) hl
   refine ⟨r,q6g ?_,?_⟩
   ·simp only [q6k,z7,gL,dL,lN,wI,p0,q85,qk3,x25q,x26q,x27q,qol,q4x,q3k,q43,q164,qoo,q52,q3n,q46,q16b,qom,q4y,q4z,q3l,q44,q166,q165,q167,qon,q50,q51,q3m,q45,q169,q168,q16a,qoh,q4c,q4d,q4e,q4f,q4g,q4h,q3g,q3z,q15h,q15g,q15i,q15j,q15k,q15l,q15m,qoj,q4j,q4k,q4o,q4p,q4q,q4r,q4s,q4t,q4u,q4v,q4l,q4m,q4n,q3i,q41,q15p,q15o,q15u,q15t,q15v,q15w,q15x,q15y,q15z,q160,q161,q162,q15q,q15r,q15s,qoi,q4i,q3h,q40,q15n,x3q,qk6 hlt,isP_5 xs k hlt,len_5 xs k hlt,q1eu hkn hn,hr]
    by_cases h1:65<=xs[k]
    ·have h2:¬ xs[k]<=90:=λh=>hp ⟨h1,h⟩
     simp [hlt,hk',h1,h2]
    ·simp [hlt,hk',h1]
   ·rw [hv,qcs hlt,List.map_cons]
    have:lowI xs[k]=xs[k]:=by simp only [lowI,hp,x21q]
    rw [this,List.take_succ_eq_append_getElem hlt,List.append_assoc]
    rfl
theorem qr8 (s:BA) (hs:s.size<=9223372036854775807):q6l s=some (lowS s):=by
 by_cases h0:s.size=0
 ·have:s=⟨#[]⟩:=by
   cases s with|mk d=>
   have:d=#[]:=by simpa [ByteArray.size] using h0
   rw [this]
  subst this
  exact fS_of (r:=(⟨#[]⟩:BA)) (qf (n:=200) (by kernel_rfl))
 ·obtain ⟨r,hr,hv⟩:=qr7 s.size hs s.size 0 (ints s) (by omega) (qo9 s)
  refine q6d ?_
  simp only [q6m,dM,qk3,q8o,x25q,x26q,x27q,qol,q4x,q3k,q43,q164,qoo,q52,q3n,q46,q16b,qom,q4y,q4z,q3l,q44,q166,q165,q167,qon,q50,q51,q3m,q45,q169,q168,q16a,qoh,q4c,q4d,q4e,q4f,q4g,q4h,q3g,q3z,q15h,q15g,q15i,q15j,q15k,q15l,q15m,qoj,q4j,q4k,q4o,q4p,q4q,q4r,q4s,q4t,q4u,q4v,q4l,q4m,q4n,q3i,q41,q15p,q15o,q15u,q15t,q15v,q15w,q15x,q15y,q15z,q160,q161,q162,q15q,q15r,q15s,qoi,q4i,q3h,q40,q15n]
  have hr':q6e s.size s.size (s.size:Int) (0:Int) (ints s)=some r:=hr
  have h0':(s.size==0)=false:=by simpa using h0
  simp only [hs,h0',hr',q8l,decide_true,x0q,x11q,x4q,x20q,hv,List.take_zero,x10q,List.nil_append]
  congr 3
  simp only [lowL,ints,List.map_map]
  rfl
def L (s:BA):List UInt8:=s.data.toList
theorem qo (s:BA):(L s).length=s.size:=by rw [L,x24q];rfl
theorem q53 (s:BA) {k:Nat} (h:k<(L s).length):((UInt8.toNat (Array.getD s.data k (0:UInt8)):Nat):Int)=nb (L s)[k]:=by
 have:k<s.data.size:=by rw [qo] at h;exact h
 have e:s.data.getD k 0=(L s)[k]:=by unfold Array.getD;rw [dif_pos this];rfl
 rw [e];rfl
theorem qr6 (s:BA):(lowS s).size=s.size:=by
 rw [←qo,←qo];simp [L,lowS,lowL]
theorem L_low (s:BA):L (lowS s)=lowL (L s):=by simp [L,lowS]
theorem BA_ext {a b:BA} (h:L a=L b):a=b:=by
 cases a with|mk x =>
 cases b with|mk y =>
 have:x=y:=by simpa [L] using h
 rw [this]
theorem q1db (s:BA):s.toList=L s:=ByteArray.toList_eq s
theorem same_s (a b:BA) (ha:a.size<=9223372036854775807) (hb:b.size<=9223372036854775807):q79 a b=some (lowL (L a)==lowL (L b)):=q78 (by
 have e:(L (lowS a)==L (lowS b))=(lowL (L a)==lowL (L b)):=by rw [L_low,L_low]
 by_cases h:a.size=b.size
 ·have h':((a.size:Int)==(b.size:Int))=true:=by simp [h]
  simp only [q7a,q85,h',qr8 a ha,qr8 b hb,q1db,e,x19q,x20q,x0q]
 ·have h':¬ (a.size:Int)=(b.size:Int):=by omega
  have:(lowL (L a)==lowL (L b))=false:=by
   simp only [beq_eq_false_iff_ne,ne_eq]
   intro hh
   have:=congrArg List.length hh
   simp [lowL] at this
   apply h
   rw [←qo,←qo];simpa using this
  simp [q7a,q85,h',this])
theorem nb_lt (b:UInt8):0<=nb b/\nb b<256:=by have:=b.toNat_lt;unfold nb;omega
theorem nb_ub {n:Int} (h0:0<=n) (h1:n<256):nb (ub n)=n:=by
 unfold nb ub
 rw [UInt8.toNat_ofNat']
 omega
theorem qr4 {c:Int} (h0:0<=c) (h1:c<256):0<=lowI c/\lowI c<256:=by unfold lowI;split <;> omega
theorem qr3 (a b:UInt8):(lowB a==lowB b)=(lowI (nb a)==lowI (nb b)):=by
 have ha:=qr4 (nb_lt a).1 (nb_lt a).2
 have hb:=qr4 (nb_lt b).1 (nb_lt b).2
 rw [Bool.eq_iff_iff,beq_iff_eq,beq_iff_eq]
 constructor
 ·intro h
  have:=congrArg nb h
  rwa [lowB,lowB,nb_ub ha.1 ha.2,nb_ub hb.1 hb.2] at this
 ·intro h;rw [lowB,lowB,h]
theorem qr5 (a b:UInt8) (l m:List UInt8):(lowL (a::l)==lowL (b::m))=((lowI (nb a)==lowI (nb b))&&(lowL l==lowL m)):=by
 rw [←qr3];rfl
theorem q1es {n:Int} (h:-9223372036854775808<=n/\n<=9223372036854775807):IntKind.i64.wrap n=n:=IntWalk.i64_in n h
theorem q1et {k n:Nat} (h:k<n) (hn:n<=9223372036854775807):IntKind.i64.wrap ((k:Int)+1)=((k+1:Nat):Int):=by rw [q1es (by omega)];rfl
theorem qgb (a b:Int):q5w a b=some (a != 0):=by
 refine q5v ?_
 simp [q5x]
def em (s:BA):Bool:=(ByteArray.toList s)==(ByteArray.toList (ByteArray.mk (List.toArray [])))
theorem em_def (s:BA):((ByteArray.toList s)==(ByteArray.toList (ByteArray.mk (List.toArray []))))=em s:=rfl
theorem qd4 (s:BA):em s=decide (s.size=0):=by
 have e0:ByteArray.toList (ByteArray.mk (List.toArray []))=[]:=by rw [ByteArray.toList_eq]
 have hl:(ByteArray.toList s).length=s.size:=by rw [ByteArray.toList_eq,x24q];rfl
 unfold em
 rw [e0]
 cases h:ByteArray.toList s with
 |nil=>rw [h] at hl;simp at hl;simp [←hl]
 |cons x l =>
  rw [h] at hl
  simp only [x9q] at hl
  have h0:s.size≠0:=by omega
  simp [h0]
end Go.Proofs.YtmlcmoaonaomfaaGreatDoor
namespace Go.Proofs.YtmlcmoaonaomfaaGreatDoor
set_option linter.unusedSimpArgs false
open Go.RowKit
def Ok {α:Type} (o:Oq α) (Q:α->Prop):Prop:=∃ r,o=some r/\Q r
theorem qua {α:Type} {x:α} {Q:α->Prop} (h:Q x):Ok (some x) Q:=⟨x,rfl,h⟩
theorem Ok.mono {α:Type} {o:Oq α} {Q R:α->Prop} (h:Ok o Q) (k:∀ r,Q r->R r):Ok o R:=by obtain ⟨r,e,q⟩:=h;exact ⟨r,e,k r q⟩
theorem Ok.via {α:Type} {t s:Oq α} {Q:α->Prop} (e:∀ {r},t=some r->s=some r) (h:Ok t Q):Ok s Q:=by obtain ⟨r,e1,q⟩:=h;exact ⟨r,e e1,q⟩
theorem qu7 {α:Type} {q:Bool} {a b:Oq α} {Q:α->Prop} (h1:q=true->Ok a Q) (h2:q=false->Ok b Q):Ok (brE q a b) Q:=by
 cases q with
 |true=>exact h1 rfl
 |false=>exact h2 rfl
theorem qu9 {α:Type} {q:Bool} {a:Oq α} {Q:α->Prop} (hq:q=true) (h:Ok a Q):Ok (gdE q a) Q:=by subst hq;exact h
theorem qu6 {α β:Type} {o:Oq α} {f:α->Oq β} {P:α->Prop} {Q:β->Prop} (h:Ok o P) (k:∀ r,P r->Ok (f r) Q):Ok (o.bind f) Q:=by
 obtain ⟨r,rfl,p⟩:=h
 exact k r p
theorem qu8 {α:Type} {o:Oq α} {x:α} (h:o=some x):Ok o λr=>r=x:=⟨x,h,rfl⟩
theorem qk7 {o:Oq Bool} (h:Ok o λ_=>True):o=some (o.getD false):=by obtain ⟨r,rfl,_⟩:=h;rfl
theorem qgc (a b:Int):Ok (q62 a b) λr=>r=(a,b):=⟨_,qgd a b,rfl⟩
theorem qtj:Ok q73 λr=>r=(0,0):=⟨_,none_s,rfl⟩
theorem qqi (c:Int):Ok (q68 c) λ_=>True:=.via q67 (by
 unfold q69
 repeat' (first
  |exact ⟨_,rfl,trivial⟩
  |(refine qu7 ?_ ?_ <;> intro _)
  |(refine qu6 (qgc _ _) ?_;intro _ _)
  |(refine qu6 qtj ?_;intro _ _)))
theorem q7r (c:Int):Ok (q5c c) λr=>c=32->r=true:=.via q5b (by
 unfold q5d
 refine qu7 (λh=>qua λh1=>?_) (λ_=>qua λ_=>rfl)
 subst h1
 cases h)
theorem qt0 (c:Int):Ok (q6r c) λ_=>True:=.via q6q (by
 unfold q6s
 repeat' (first
  |exact ⟨_,rfl,trivial⟩
  |(refine qu7 ?_ ?_ <;> intro _)
  |(refine qu6 (qgc _ _) ?_;intro _ _)
  |(refine qu6 qtj ?_;intro _ _)
  |(refine qu6 (qqi _) ?_;intro _ _)))
theorem qco (c:Int):Ok (qdw c) λ_=>True:=.via qdv (by
 unfold qdx
 repeat' (first
  |exact ⟨_,rfl,trivial⟩
  |(refine qu7 ?_ ?_ <;> intro _)
  |(refine qu6 (qgc _ _) ?_;intro _ _)
  |(refine qu6 qtj ?_;intro _ _)))
theorem qp0 (s:BA) (c:Int):Ok (ixbP s c) λ_=>True:=⟨_,rfl,trivial⟩
theorem qqt (c:Int):Ok (qes c) λ_=>True:=.via qer (by
 unfold qet
 repeat' (first
  |exact ⟨_,rfl,trivial⟩
  |(refine qu7 ?_ ?_ <;> intro _)
  |(refine qu6 (qgc _ _) ?_;intro _ _)
  |(refine qu6 qtj ?_;intro _ _)
  |(refine qu6 (qqi _) ?_;intro _ _)
  |(refine qu6 (qp0 _ _) ?_;intro _ _)))
def fnB (c:Int):Bool:=decide (c≥33)&&(decide (c<=126)&&c != 58)
theorem fnC_s (c:Int):qif c=some (fnB c):=qie (by
 simp only [qig,q85,fnB]
 cases decide (c≥33) <;> cases decide (c<=126) <;> rfl)
noncomputable def q3b (b:UInt8):Bool:=(λb=>(q6r (nb b)).getD false) b
theorem q3a (s:BA) (hs:s.size<=9223372036854775807):∀ m k:Nat,k+m=s.size->∃ x,q32 s s.size k=some x/\Sum.elim (λr=>r.1) (λ_=>true) x=((L s).drop k).all q3b:=by
 intro m
 induction m with
 |zero =>
  intro k hk
  refine ⟨.inr ((s,((),((s.size:Int),((k:Int),false)))),()),q34 (by
   simp only [q39,wI,p0,q85]
   rw [if_neg (by simp;omega)]),?_⟩
  rw [List.drop_eq_nil_of_le (by rw [qo];omega)];rfl
 |succ m ih =>
  intro k hk
  have hlt:k<(L s).length:=by rw [qo];omega
  have e1:decide ((k:Int)<(s.size:Int))=true:=by simp;omega
  have e0:decide ((0:Int)<=(k:Int))=true:=by simp
  have e2:IntKind.i64.wrap ((k:Int)+1)=((k+1:Nat):Int):=q1eu (n:=s.size) (by omega) hs
  have e3:decide (k<s.size)=true:=by simp;omega
  have hc:q6r (nb (L s)[k])=some (q3b (L s)[k]):=qk7 (qt0 _)
  rw [qcs hlt,x17q]
  cases hp:q3b (L s)[k] with
  |false =>
   rw [hp] at hc
   refine ⟨.inl (false,()),q34 ?_,rfl⟩
   simp only [q39,wI,p0,q85,qk3,e1,e0,e3,x20q,x3q,x4q,q53 s hlt,hc,x0q,x11q]
  |true =>
   rw [hp] at hc
   obtain ⟨x,h1,h2⟩:=ih (k+1) (by omega)
   refine ⟨x,q34 ?_,by rw [Bool.true_and];exact h2⟩
   simp only [q39,wI,p0,q85,qk3,e1,e0,e3,x20q,x3q,x4q,q53 s hlt,hc,x0q,x15q,x1q,x21q,e2]
   exact h1
theorem q3d (s:BA) (hs:s.size<=9223372036854775807):q3c s=some ((L s).all q3b):=by
 obtain ⟨x,h1,h2⟩:=q3a s hs s.size 0 (by omega)
 rw [x10q] at h2
 have h1:q32 s s.size 0=some x:=h1
 refine q31 ?_
 simp only [q3e,h1,x0q,←h2]
 rcases x with x|x <;> rfl
noncomputable def q2c (b:UInt8):Bool:=(λb=>fnB (nb b)) b
theorem q2b (s:BA) (hs:s.size<=9223372036854775807):∀ m k:Nat,k+m=s.size->∃ x,q23 s s.size k=some x/\Sum.elim (λr=>r.1) (λ_=>true) x=((L s).drop k).all q2c:=by
 intro m
 induction m with
 |zero =>
  intro k hk
  refine ⟨.inr ((s,((),((s.size:Int),((k:Int),false)))),()),q25 (by
   simp only [q2a,wI,p0,q85]
   rw [if_neg (by simp;omega)]),?_⟩
  rw [List.drop_eq_nil_of_le (by rw [qo];omega)];rfl
 |succ m ih =>
  intro k hk
  have hlt:k<(L s).length:=by rw [qo];omega
  have e1:decide ((k:Int)<(s.size:Int))=true:=by simp;omega
  have e0:decide ((0:Int)<=(k:Int))=true:=by simp
  have e2:IntKind.i64.wrap ((k:Int)+1)=((k+1:Nat):Int):=q1eu (n:=s.size) (by omega) hs
  have e3:decide (k<s.size)=true:=by simp;omega
  have hc:qif (nb (L s)[k])=some (q2c (L s)[k]):=fnC_s _
  rw [qcs hlt,x17q]
  cases hp:q2c (L s)[k] with
  |false =>
   rw [hp] at hc
   refine ⟨.inl (false,()),q25 ?_,rfl⟩
   simp only [q2a,wI,p0,q85,qk3,e1,e0,e3,x20q,x3q,x4q,q53 s hlt,hc,x0q,x11q]
  |true =>
   rw [hp] at hc
   obtain ⟨x,h1,h2⟩:=ih (k+1) (by omega)
   refine ⟨x,q25 ?_,by rw [Bool.true_and];exact h2⟩
   simp only [q2a,wI,p0,q85,qk3,e1,e0,e3,x20q,x3q,x4q,q53 s hlt,hc,x0q,x15q,x1q,x21q,e2]
   exact h1
theorem q2e (s:BA) (hs:s.size<=9223372036854775807):q2d s=some ((L s).all q2c):=by
 obtain ⟨x,h1,h2⟩:=q2b s hs s.size 0 (by omega)
 rw [x10q] at h2
 have h1:q23 s s.size 0=some x:=h1
 refine q22 ?_
 simp only [q2f,h1,x0q,←h2]
 rcases x with x|x <;> rfl
noncomputable def q1v (b:UInt8):Bool:=(λb=>(qdw (nb b)).getD false) b
theorem q1u (s:BA) (hs:s.size<=9223372036854775807):∀ m k:Nat,k+m=s.size->∃ x,q1m s s.size k=some x/\Sum.elim (λr=>r.1) (λ_=>true) x=((L s).drop k).all q1v:=by
 intro m
 induction m with
 |zero =>
  intro k hk
  refine ⟨.inr ((s,((),((s.size:Int),((k:Int),false)))),()),q1o (by
   simp only [q1t,wI,p0,q85]
   rw [if_neg (by simp;omega)]),?_⟩
  rw [List.drop_eq_nil_of_le (by rw [qo];omega)];rfl
 |succ m ih =>
  intro k hk
  have hlt:k<(L s).length:=by rw [qo];omega
  have e1:decide ((k:Int)<(s.size:Int))=true:=by simp;omega
  have e0:decide ((0:Int)<=(k:Int))=true:=by simp
  have e2:IntKind.i64.wrap ((k:Int)+1)=((k+1:Nat):Int):=q1eu (n:=s.size) (by omega) hs
  have e3:decide (k<s.size)=true:=by simp;omega
  have hc:qdw (nb (L s)[k])=some (q1v (L s)[k]):=qk7 (qco _)
  rw [qcs hlt,x17q]
  cases hp:q1v (L s)[k] with
  |false =>
   rw [hp] at hc
   refine ⟨.inl (false,()),q1o ?_,rfl⟩
   simp only [q1t,wI,p0,q85,qk3,e1,e0,e3,x20q,x3q,x4q,q53 s hlt,hc,x0q,x11q]
  |true =>
   rw [hp] at hc
   obtain ⟨x,h1,h2⟩:=ih (k+1) (by omega)
   refine ⟨x,q1o ?_,by rw [Bool.true_and];exact h2⟩
   simp only [q1t,wI,p0,q85,qk3,e1,e0,e3,x20q,x3q,x4q,q53 s hlt,hc,x0q,x15q,x1q,x21q,e2]
   exact h1
theorem q1x (s:BA) (hs:s.size<=9223372036854775807):q1w s=some ((L s).all q1v):=by
 obtain ⟨x,h1,h2⟩:=q1u s hs s.size 0 (by omega)
 rw [x10q] at h2
 have h1:q1m s s.size 0=some x:=h1
 refine q1l ?_
 simp only [q1y,h1,x0q,←h2]
 rcases x with x|x <;> rfl
noncomputable def q2u (b:UInt8):Bool:=(λb=>(qes (nb b)).getD false) b
theorem q2t (s:BA) (hs:s.size<=9223372036854775807):∀ m k:Nat,k+m=s.size->∃ x,q2l s s.size k=some x/\Sum.elim (λr=>r.1) (λ_=>true) x=((L s).drop k).all q2u:=by
 intro m
 induction m with
 |zero =>
  intro k hk
  refine ⟨.inr ((s,((),((s.size:Int),((k:Int),false)))),()),q2n (by
   simp only [q2s,wI,p0,q85]
   rw [if_neg (by simp;omega)]),?_⟩
  rw [List.drop_eq_nil_of_le (by rw [qo];omega)];rfl
 |succ m ih =>
  intro k hk
  have hlt:k<(L s).length:=by rw [qo];omega
  have e1:decide ((k:Int)<(s.size:Int))=true:=by simp;omega
  have e0:decide ((0:Int)<=(k:Int))=true:=by simp
  have e2:IntKind.i64.wrap ((k:Int)+1)=((k+1:Nat):Int):=q1eu (n:=s.size) (by omega) hs
  have e3:decide (k<s.size)=true:=by simp;omega
  have hc:qes (nb (L s)[k])=some (q2u (L s)[k]):=qk7 (qqt _)
  rw [qcs hlt,x17q]
  cases hp:q2u (L s)[k] with
  |false =>
   rw [hp] at hc
   refine ⟨.inl (false,()),q2n ?_,rfl⟩
   simp only [q2s,wI,p0,q85,qk3,e1,e0,e3,x20q,x3q,x4q,q53 s hlt,hc,x0q,x11q]
  |true =>
   rw [hp] at hc
   obtain ⟨x,h1,h2⟩:=ih (k+1) (by omega)
   refine ⟨x,q2n ?_,by rw [Bool.true_and];exact h2⟩
   simp only [q2s,wI,p0,q85,qk3,e1,e0,e3,x20q,x3q,x4q,q53 s hlt,hc,x0q,x15q,x1q,x21q,e2]
   exact h1
theorem q2w (s:BA) (hs:s.size<=9223372036854775807):q2v s=some ((L s).all q2u):=by
 obtain ⟨x,h1,h2⟩:=q2t s hs s.size 0 (by omega)
 rw [x10q] at h2
 have h1:q2l s s.size 0=some x:=h1
 refine q2k ?_
 simp only [q2x,h1,x0q,←h2]
 rcases x with x|x <;> rfl
noncomputable def fnameB (s:BA):Bool:=!em s&&(decide ((s.size:Int)<=60)&&(L s).all q2c)
theorem qhb (s:BA):qil s=some (fnameB s):=qik (by
 simp only [qim,q85,em_def,fnameB,bne]
 cases em s with
 |true=>rfl
 |false =>
  cases h:decide ((s.size:Int)<=60) with
  |false=>simp
  |true=>simp [q2e s (by have:=of_decide_eq_true h;omega)])
theorem qdl (s:BA) (hs:s.size<4294967281):Ok (qi6 s) λr=>s.size=0->r=false:=.via qi5 (by
 unfold qi7 canyP
 rw [if_pos ⟨hs,rfl⟩]
 refine qua ?_
 intro h0
 have:s.data.toList=[]:=by
  apply List.eq_nil_of_length_eq_zero
  rw [x24q]
  exact h0
 rw [this]
 rfl)
def noSp (l:List UInt8):Prop:=∀ a,l≠a++[32]
theorem qti {s:BA} (h0:s.size≠0) (h:((UInt8.toNat (Array.getD s.data (s.size - 1) (0:UInt8)):Nat):Int)≠32):noSp (L s):=by
 intro a ha
 have hl:=qo s
 have h1:s.size - 1<(L s).length:=by omega
 have e:(L s)[s.size - 1]=32:=by
  have h2:s.size - 1=a.length:=by rw [←hl,ha];simp
  simp only [ha,h2]
  simp
 rw [q53 s h1,e] at h
 exact h rfl
theorem q1eb (s:BA) (hs:s.size<4294967281):Ok (qj7 s) λr=>(s.size=0->r=true)/\(r=true->noSp (L s)):=.via qj6 (by
 unfold qj8
 try simp only [p0]
 refine qu6 (qdl s hs) ?_
 intro r hr
 refine qu7 ?_ ?_
 ·intro _
  simp only [em_def]
  refine qu7 ?_ ?_
  ·intro he
   have h0:s.size≠0:=by intro h0;rw [qd4] at he;simp [h0] at he
   have hw:IntKind.i64.wrap ((s.size:Int) - 1)=((s.size - 1:Nat):Int):=by rw [q1es (by omega)];omega
   refine qu9 (by simp;omega) ?_
   refine qu6 (q7r _) ?_
   intro r1 _
   refine qu7 ?_ ?_
   ·intro _
    rw [hw]
    refine qu9 (by simp;omega) ?_
    refine qu6 (q7r _) ?_
    intro r2 hr2
    refine qua ⟨(λh=>absurd h h0),λh=>qti h0 λh9=>?_⟩
    rw [x3q] at hr2
    rw [hr2 h9] at h;cases h
   ·intro _
    exact qua ⟨λh=>absurd h h0,(λh=>by cases h)⟩
  ·intro he
   have h0:s.size=0:=by rw [qd4] at he;simpa using he
   refine qua ⟨λ_=>rfl,λ_ a ha=>?_⟩
   have:=qo s
   rw [ha] at this;simp at this;omega
 ·intro h
  exact qua ⟨λh0=>(by rw [hr h0] at h;cases h),λh=>by cases h⟩)
end Go.Proofs.YtmlcmoaonaomfaaGreatDoor
