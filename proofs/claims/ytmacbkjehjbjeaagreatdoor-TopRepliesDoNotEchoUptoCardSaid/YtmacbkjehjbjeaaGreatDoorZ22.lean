/- Facts on texts and numbers; small functions. -/
import Derived.Test.YtmacbkjehjbjeaaGreatDoorH2
namespace Go.Proofs.YtmacbkjehjbjeaaGreatDoor
open Go.RowKit
theorem q6m {β:Type} (q:Bool) (a b:Option β):brE q a b=if q=true then a else b:=by cases q <;> rfl
theorem qfz {β:Type} (q:Bool) (a:Option β):gdE q a=if q=true then a else none:=by cases q <;> rfl
theorem beq_t (q:Bool):(q==true)=q:=by cases q <;> rfl
theorem qf {τ:Type} (e:EC τ) (xs:List τ) (n:Nat):(e.encL xs).take n=e.encL (xs.take n):=by simp [EC.encL,List.map_take]
theorem qd {τ:Type} (e:EC τ) (xs:List τ) (n:Nat):(e.encL xs).drop n=e.encL (xs.drop n):=by simp [EC.encL,List.map_drop]
theorem qe {τ:Type} (e:EC τ):e.decL []=[]:=rfl
theorem qxc {k n:Nat} (h:k<n) (hn:n≤9223372036854775807):IntKind.i64.wrap ((k:Int)+1)=((k+1:Nat):Int):=by rw [IntWalk.i64_in _ (by omega)];rfl
theorem qg7 {α:Type} {l:List α} {k:Nat} {d:α} (h:k<l.length):l.getD k d=l[k]:=by simp [List.getD_eq_getElem?_getD,h]
theorem q9e {α:Type} {l:List α} {k:Nat} (h:k<l.length):l.drop k=l[k]::l.drop (k+1):=List.drop_eq_getElem_cons h
theorem wrap8 {n:Int} (h0:0≤n) (h1:n<256):IntKind.u8.wrap n=n:=IntWalk.u8_in n (by omega)
theorem qcc (a b:Int):q4s a b=some (a,b):=q4r rfl
theorem none_s:q5t=some (0,0):=q5s rfl
def nb (b:UInt8):Int:=(b.toNat:Int)
def ints (s:ByteArray):List Int:=s.data.toList.map nb
theorem qj0 (s:ByteArray):(ints s).length=s.size:=by rw [ints,List.length_map,Array.length_toList];rfl
theorem q76 (s:ByteArray):bytesL s=q9i.encL (ints s):=by
 show s.data.toList.map _=(s.data.toList.map nb).map q9i.enc
 rw [List.map_map];rfl
def ub (n:Int):UInt8:=UInt8.ofNat n.toNat
theorem q74 (xs:List Int):bytesOf (q9i.encL xs)=some (xs.map ub):=by
 induction xs with
 |nil=>rfl
 |cons x xs ih =>
  have:q9i.encL (x::xs)=[.int .u8 x]::q9i.encL xs:=rfl
  rw [this,bytesOf,ih];rfl
def lowI (c:Int):Int:=if 65≤c∧c≤90 then c+32 else c
def lowB (b:UInt8):UInt8:=ub (lowI (nb b))
def lowL (l:List UInt8):List UInt8:=l.map lowB
def lowS (s:ByteArray):ByteArray:=⟨(lowL s.data.toList).toArray⟩
theorem isP_5 (xs:List Int) (n:Nat) (h:n<xs.length):isP [.int .u8] 0 ((q9i.encL xs).getD n [])=true:=by
 rw [EC.getD_lt _ _ h];rfl
theorem ql2 (n:Nat) (hn:n≤9223372036854775807):∀ (m k:Nat) (xs:List Int),k+m=n→xs.length=n→∃ r,q54 n n n k xs=some r∧r.2=xs.take k++(xs.drop k).map lowI:=by
 intro m
 induction m with
 |zero =>
  intro k xs hk hl
  have hk:k=n:=by omega
  subst hk
  refine ⟨((k,k,(k:Int),(k:Int),false),xs),q56 (by
   simp only [q5a,q6m,qfz,EC.decL_encL,EC.isL_encL,EC.encL_length,at_5_0,qq1]
   simp),?_⟩
  rw [←hl];simp
 |succ m ih =>
  intro k xs hk hl
  have hlt:k<xs.length:=by omega
  have hkn:k<n:=by omega
  have hk':(k:Int)<(n:Int):=by omega
  by_cases hp:65≤xs[k]∧xs[k]≤90
  ·obtain ⟨r,hr,hv⟩:=ih (k+1) (xs.set k (xs[k]+32)) (by omega) (by simpa using hl)
   refine ⟨r,q56 ?_,?_⟩
   ·have w1:IntKind.u8.wrap (IntKind.u8.wrap (xs[k]+97) - 65)=xs[k]+32:=by rw [wrap8 (n:=xs[k]+97) (by omega) (by omega),wrap8 (by omega) (by omega)];omega
    simp only [q5a,q6m,qfz,EC.decL_encL,EC.isL_encL,EC.encL_length,at_5_0,qq1,Int.toNat_natCast,qg7 hlt,isP_5 xs k hlt,len_5 xs k hlt,w1,qxc hkn hn,hr]
    simp [hlt,hk',hp]
   ·have hlo:lowI xs[k]=xs[k]+32:=by simp [lowI,hp]
    rw [hv,q9e hlt,List.map_cons,hlo]
    apply List.ext_getElem?
    intro i
    rcases Nat.lt_trichotomy i k with h|h|h
    ·rw [List.getElem?_append_left (by simp;omega),List.getElem?_append_left (by simp;omega),List.getElem?_take_of_lt (by omega),List.getElem?_take_of_lt h,List.getElem?_set_ne (by omega)]
    ·subst h
     rw [List.getElem?_append_left (by simp;omega),List.getElem?_append_right (by simp;omega),List.getElem?_take_of_lt (by omega),List.getElem?_set_self hlt]
     simp [Nat.min_eq_left (Nat.le_of_lt hlt)]
    ·rw [List.getElem?_append_right (by simp;omega),List.getElem?_append_right (by simp;omega)]
     obtain ⟨q,rfl⟩:∃ q,i=k+1+q:=⟨i - (k+1),by omega⟩
     simp only [List.length_take,List.length_set,Nat.min_eq_left (Nat.le_of_lt hlt),Nat.min_eq_left (show k+1≤xs.length from hlt)]
     rw [show k+1+q - (k+1)=q by omega,show k+1+q - k=q+1 by omega,List.getElem?_cons_succ]
     simp only [List.getElem?_map,List.getElem?_drop]
     rw [List.getElem?_set_ne (by omega)]
  ·obtain ⟨r,hr,hv⟩:=ih (k+1) xs (by omega) hl
   refine ⟨r,q56 ?_,?_⟩
   ·simp only [q5a,q6m,qfz,EC.decL_encL,EC.isL_encL,EC.encL_length,at_5_0,qq1,Int.toNat_natCast,qg7 hlt,isP_5 xs k hlt,len_5 xs k hlt,qxc hkn hn,hr]
    by_cases h1:65≤xs[k]
    ·have h2:¬ xs[k]≤90:=fun h=>hp ⟨h1,h⟩
     simp [hlt,hk',h1,h2]
    ·simp [hlt,hk',h1]
   ·rw [hv,q9e hlt,List.map_cons]
    have:lowI xs[k]=xs[k]:=by simp only [lowI,hp,if_false]
    rw [this,List.take_succ_eq_append_getElem hlt,List.append_assoc]
    rfl
theorem ql3 (s:ByteArray) (hs:s.size≤9223372036854775807):q5b s=some (lowS s):=by
 by_cases h0:s.size=0
 ·have:s=⟨#[]⟩:=by
   cases s with|mk d=>
   have:d=#[]:=by simpa [ByteArray.size] using h0
   rw [this]
  subst this
  exact fS_of (r:=(⟨#[]⟩:ByteArray)) (qa (n:=200) (by kernel_rfl))
 ·obtain ⟨r,hr,hv⟩:=ql2 s.size hs s.size 0 (ints s) (by omega) (qj0 s)
  refine q53 ?_
  simp only [q5c,qfz,q76,EC.decL_encL,EC.isL_encL]
  have hr':q54 s.size s.size (s.size:Int) (0:Int) (ints s)=some r:=hr
  have h0':(s.size==0)=false:=by simpa using h0
  simp only [hs,h0',hr',q74,decide_true,Option.bind_some,Bool.not_false,Bool.and_self,if_true,hv,List.take_zero,List.drop_zero,List.nil_append]
  congr 3
  simp only [lowL,ints,List.map_map]
  rfl
def L (s:ByteArray):List UInt8:=s.data.toList
theorem qj (s:ByteArray):(L s).length=s.size:=by rw [L,Array.length_toList];rfl
theorem q3t (s:ByteArray) {k:Nat} (h:k<(L s).length):((UInt8.toNat (Array.getD s.data k (0:UInt8)):Nat):Int)=nb (L s)[k]:=by
 have:k<s.data.size:=by rw [qj] at h;exact h
 have e:s.data.getD k 0=(L s)[k]:=by unfold Array.getD;rw [dif_pos this];rfl
 rw [e];rfl
theorem L_low (s:ByteArray):L (lowS s)=lowL (L s):=by simp [L,lowS]
theorem L_ext (s:ByteArray) (i j:Nat):L (s.extract i j)=((L s).drop i).take (j - i):=by simp [L,List.extract_eq_take_drop]
theorem quh (s:ByteArray):s.toList=L s:=ByteArray.toList_eq s
theorem same_s (a b:ByteArray) (ha:a.size≤9223372036854775807) (hb:b.size≤9223372036854775807):q5z a b=some (lowL (L a)==lowL (L b)):=q5y (by
 have e:(L (lowS a)==L (lowS b))=(lowL (L a)==lowL (L b)):=by rw [L_low,L_low]
 by_cases h:a.size=b.size
 ·have h':((a.size:Int)==(b.size:Int))=true:=by simp [h]
  simp only [q60,q6m,h',ql3 a ha,ql3 b hb,quh,e,beq_self_eq_true,if_true,Option.bind_some]
 ·have h':¬ (a.size:Int)=(b.size:Int):=by omega
  have:(lowL (L a)==lowL (L b))=false:=by
   simp only [beq_eq_false_iff_ne,ne_eq]
   intro hh
   have:=congrArg List.length hh
   simp [lowL] at this
   apply h
   rw [←qj,←qj];simpa using this
  simp [q60,q6m,h',this])
theorem qyo (b:UInt8):0≤nb b∧nb b<256:=by have:=b.toNat_lt;unfold nb;omega
theorem ql0 {c:Int} (h0:0≤c) (h1:c<256):0≤lowI c∧lowI c<256:=by unfold lowI;split <;> omega
theorem qxb {n:Int} (h:-9223372036854775808≤n∧n≤9223372036854775807):IntKind.i64.wrap n=n:=IntWalk.i64_in n h
theorem qc9 (a b:Int):q4m a b=some (a != 0):=by
 refine q4l ?_
 simp [q4n]
def em (s:ByteArray):Bool:=(ByteArray.toList s)==(ByteArray.toList (ByteArray.mk (List.toArray [])))
theorem qxx (s:ByteArray):((ByteArray.toList s)==(ByteArray.toList (ByteArray.mk (List.toArray []))))=em s:=rfl
theorem q9n (s:ByteArray):em s=decide (s.size=0):=by
 have e0:ByteArray.toList (ByteArray.mk (List.toArray []))=[]:=by rw [ByteArray.toList_eq]
 have hl:(ByteArray.toList s).length=s.size:=by rw [ByteArray.toList_eq,Array.length_toList];rfl
 unfold em
 rw [e0]
 cases h:ByteArray.toList s with
 |nil=>rw [h] at hl;simp at hl;simp [←hl]
 |cons x l =>
  rw [h] at hl
  simp only [List.length_cons] at hl
  have h0:s.size≠0:=by omega
  simp [h0]
end Go.Proofs.YtmacbkjehjbjeaaGreatDoor
namespace Go.Proofs.YtmacbkjehjbjeaaGreatDoor
open Go.RowKit
def Ok {α:Type} (o:Option α) (Q:α→Prop):Prop:=∃ r,o=some r∧Q r
theorem qn2 {α:Type} {x:α} {Q:α→Prop} (h:Q x):Ok (some x) Q:=⟨x,rfl,h⟩
theorem Ok.mono {α:Type} {o:Option α} {Q R:α→Prop} (h:Ok o Q) (k:∀ r,Q r→R r):Ok o R:=by obtain ⟨r,e,q⟩:=h;exact ⟨r,e,k r q⟩
theorem Ok.via {α:Type} {t s:Option α} {Q:α→Prop} (e:∀ {r},t=some r→s=some r) (h:Ok t Q):Ok s Q:=by obtain ⟨r,e1,q⟩:=h;exact ⟨r,e e1,q⟩
theorem qmz {α:Type} {q:Bool} {a b:Option α} {Q:α→Prop} (h1:q=true→Ok a Q) (h2:q=false→Ok b Q):Ok (brE q a b) Q:=by
 cases q with
 |true=>exact h1 rfl
 |false=>exact h2 rfl
theorem qn1 {α:Type} {q:Bool} {a:Option α} {Q:α→Prop} (hq:q=true) (h:Ok a Q):Ok (gdE q a) Q:=by subst hq;exact h
theorem qmy {α β:Type} {o:Option α} {f:α→Option β} {P:α→Prop} {Q:β→Prop} (h:Ok o P) (k:∀ r,P r→Ok (f r) Q):Ok (o.bind f) Q:=by
 obtain ⟨r,rfl,p⟩:=h
 exact k r p
theorem qn0 {α:Type} {o:Option α} {x:α} (h:o=some x):Ok o fun r=>r=x:=⟨x,h,rfl⟩
theorem qg8 {o:Option Bool} (h:Ok o fun _=>True):o=some (o.getD false):=by obtain ⟨r,rfl,_⟩:=h;rfl
theorem qcb (a b:Int):Ok (q4s a b) fun r=>r=(a,b):=⟨_,qcc a b,rfl⟩
theorem qms:Ok q5t fun r=>r=(0,0):=⟨_,none_s,rfl⟩
theorem qkb (c:Int):Ok (q4y c) fun _=>True:=.via q4x (by
 unfold q4z
 repeat' (first
  |exact ⟨_,rfl,trivial⟩
  |(refine qmz ?_ ?_ <;> intro _)
  |(refine qmy (qcb _ _) ?_;intro _ _)
  |(refine qmy qms ?_;intro _ _)))
theorem q6e (c:Int):Ok (q42 c) fun r=>c=32→r=true:=.via q41 (by
 unfold q43
 refine qmz (fun h=>qn2 fun h1=>?_) (fun _=>qn2 fun _=>rfl)
 subst h1
 cases h)
theorem qmd (c:Int):Ok (q5h c) fun _=>True:=.via q5g (by
 unfold q5i
 repeat' (first
  |exact ⟨_,rfl,trivial⟩
  |(refine qmz ?_ ?_ <;> intro _)
  |(refine qmy (qcb _ _) ?_;intro _ _)
  |(refine qmy qms ?_;intro _ _)
  |(refine qmy (qkb _) ?_;intro _ _)))
theorem q98 (c:Int):Ok (qa5 c) fun _=>True:=.via qa4 (by
 unfold qa6
 repeat' (first
  |exact ⟨_,rfl,trivial⟩
  |(refine qmz ?_ ?_ <;> intro _)
  |(refine qmy (qcb _ _) ?_;intro _ _)
  |(refine qmy qms ?_;intro _ _)))
theorem qj8 (s:ByteArray) (c:Int):Ok (ixbP s c) fun _=>True:=⟨_,rfl,trivial⟩
theorem qkm (c:Int):Ok (qb1 c) fun _=>True:=.via qb0 (by
 unfold qb2
 repeat' (first
  |exact ⟨_,rfl,trivial⟩
  |(refine qmz ?_ ?_ <;> intro _)
  |(refine qmy (qcb _ _) ?_;intro _ _)
  |(refine qmy qms ?_;intro _ _)
  |(refine qmy (qkb _) ?_;intro _ _)
  |(refine qmy (qj8 _ _) ?_;intro _ _)))
def fnB (c:Int):Bool:=decide (c≥33)&&(decide (c≤126)&&c != 58)
theorem fnC_s (c:Int):qe2 c=some (fnB c):=qe1 (by
 simp only [qe3,q6m,fnB]
 cases decide (c≥33) <;> cases decide (c≤126) <;> rfl)
noncomputable def q30 (b:UInt8):Bool:=(fun b=>(q5h (nb b)).getD false) b
theorem q2z (s:ByteArray) (hs:s.size≤9223372036854775807):∀ m k:Nat,k+m=s.size→∃ x,q2r s s.size k=some x∧Sum.elim (fun r=>r.1) (fun _=>true) x=((L s).drop k).all q30:=by
 intro m
 induction m with
 |zero =>
  intro k hk
  refine ⟨.inr ((s,((),((s.size:Int),((k:Int),false)))),()),q2t (by
   simp only [q2y,q6m]
   rw [if_neg (by simp;omega)]),?_⟩
  rw [List.drop_eq_nil_of_le (by rw [qj];omega)];rfl
 |succ m ih =>
  intro k hk
  have hlt:k<(L s).length:=by rw [qj];omega
  have e1:decide ((k:Int)<(s.size:Int))=true:=by simp;omega
  have e0:decide ((0:Int)≤(k:Int))=true:=by simp
  have e2:IntKind.i64.wrap ((k:Int)+1)=((k+1:Nat):Int):=qxc (n:=s.size) (by omega) hs
  have e3:decide (k<s.size)=true:=by simp;omega
  have hc:q5h (nb (L s)[k])=some (q30 (L s)[k]):=qg8 (qmd _)
  rw [q9e hlt,List.all_cons]
  cases hp:q30 (L s)[k] with
  |false =>
   rw [hp] at hc
   refine ⟨.inl (false,()),q2t ?_,rfl⟩
   simp only [q2y,q6m,qfz,e1,e0,e3,if_true,Int.toNat_natCast,Bool.and_self,q3t s hlt,hc,Option.bind_some,Bool.not_false]
  |true =>
   rw [hp] at hc
   obtain ⟨x,h1,h2⟩:=ih (k+1) (by omega)
   refine ⟨x,q2t ?_,by rw [Bool.true_and];exact h2⟩
   simp only [q2y,q6m,qfz,e1,e0,e3,if_true,Int.toNat_natCast,Bool.and_self,q3t s hlt,hc,Option.bind_some,Bool.not_true,Bool.false_eq_true,if_false,e2]
   exact h1
theorem q32 (s:ByteArray) (hs:s.size≤9223372036854775807):q31 s=some ((L s).all q30):=by
 obtain ⟨x,h1,h2⟩:=q2z s hs s.size 0 (by omega)
 rw [List.drop_zero] at h2
 have h1:q2r s s.size 0=some x:=h1
 refine q2q ?_
 simp only [q33,h1,Option.bind_some,←h2]
 rcases x with x|x <;> rfl
noncomputable def q20 (b:UInt8):Bool:=(fun b=>fnB (nb b)) b
theorem q1z (s:ByteArray) (hs:s.size≤9223372036854775807):∀ m k:Nat,k+m=s.size→∃ x,q1r s s.size k=some x∧Sum.elim (fun r=>r.1) (fun _=>true) x=((L s).drop k).all q20:=by
 intro m
 induction m with
 |zero =>
  intro k hk
  refine ⟨.inr ((s,((),((s.size:Int),((k:Int),false)))),()),q1t (by
   simp only [q1y,q6m]
   rw [if_neg (by simp;omega)]),?_⟩
  rw [List.drop_eq_nil_of_le (by rw [qj];omega)];rfl
 |succ m ih =>
  intro k hk
  have hlt:k<(L s).length:=by rw [qj];omega
  have e1:decide ((k:Int)<(s.size:Int))=true:=by simp;omega
  have e0:decide ((0:Int)≤(k:Int))=true:=by simp
  have e2:IntKind.i64.wrap ((k:Int)+1)=((k+1:Nat):Int):=qxc (n:=s.size) (by omega) hs
  have e3:decide (k<s.size)=true:=by simp;omega
  have hc:qe2 (nb (L s)[k])=some (q20 (L s)[k]):=fnC_s _
  rw [q9e hlt,List.all_cons]
  cases hp:q20 (L s)[k] with
  |false =>
   rw [hp] at hc
   refine ⟨.inl (false,()),q1t ?_,rfl⟩
   simp only [q1y,q6m,qfz,e1,e0,e3,if_true,Int.toNat_natCast,Bool.and_self,q3t s hlt,hc,Option.bind_some,Bool.not_false]
  |true =>
   rw [hp] at hc
   obtain ⟨x,h1,h2⟩:=ih (k+1) (by omega)
   refine ⟨x,q1t ?_,by rw [Bool.true_and];exact h2⟩
   simp only [q1y,q6m,qfz,e1,e0,e3,if_true,Int.toNat_natCast,Bool.and_self,q3t s hlt,hc,Option.bind_some,Bool.not_true,Bool.false_eq_true,if_false,e2]
   exact h1
theorem q22 (s:ByteArray) (hs:s.size≤9223372036854775807):q21 s=some ((L s).all q20):=by
 obtain ⟨x,h1,h2⟩:=q1z s hs s.size 0 (by omega)
 rw [List.drop_zero] at h2
 have h1:q1r s s.size 0=some x:=h1
 refine q1q ?_
 simp only [q23,h1,Option.bind_some,←h2]
 rcases x with x|x <;> rfl
noncomputable def q1i (b:UInt8):Bool:=(fun b=>(qa5 (nb b)).getD false) b
theorem q1h (s:ByteArray) (hs:s.size≤9223372036854775807):∀ m k:Nat,k+m=s.size→∃ x,q19 s s.size k=some x∧Sum.elim (fun r=>r.1) (fun _=>true) x=((L s).drop k).all q1i:=by
 intro m
 induction m with
 |zero =>
  intro k hk
  refine ⟨.inr ((s,((),((s.size:Int),((k:Int),false)))),()),q1b (by
   simp only [q1g,q6m]
   rw [if_neg (by simp;omega)]),?_⟩
  rw [List.drop_eq_nil_of_le (by rw [qj];omega)];rfl
 |succ m ih =>
  intro k hk
  have hlt:k<(L s).length:=by rw [qj];omega
  have e1:decide ((k:Int)<(s.size:Int))=true:=by simp;omega
  have e0:decide ((0:Int)≤(k:Int))=true:=by simp
  have e2:IntKind.i64.wrap ((k:Int)+1)=((k+1:Nat):Int):=qxc (n:=s.size) (by omega) hs
  have e3:decide (k<s.size)=true:=by simp;omega
  have hc:qa5 (nb (L s)[k])=some (q1i (L s)[k]):=qg8 (q98 _)
  rw [q9e hlt,List.all_cons]
  cases hp:q1i (L s)[k] with
  |false =>
   rw [hp] at hc
   refine ⟨.inl (false,()),q1b ?_,rfl⟩
   simp only [q1g,q6m,qfz,e1,e0,e3,if_true,Int.toNat_natCast,Bool.and_self,q3t s hlt,hc,Option.bind_some,Bool.not_false]
  |true =>
   rw [hp] at hc
   obtain ⟨x,h1,h2⟩:=ih (k+1) (by omega)
   refine ⟨x,q1b ?_,by rw [Bool.true_and];exact h2⟩
   simp only [q1g,q6m,qfz,e1,e0,e3,if_true,Int.toNat_natCast,Bool.and_self,q3t s hlt,hc,Option.bind_some,Bool.not_true,Bool.false_eq_true,if_false,e2]
   exact h1
theorem q1k (s:ByteArray) (hs:s.size≤9223372036854775807):q1j s=some ((L s).all q1i):=by
 obtain ⟨x,h1,h2⟩:=q1h s hs s.size 0 (by omega)
 rw [List.drop_zero] at h2
 have h1:q19 s s.size 0=some x:=h1
 refine q18 ?_
 simp only [q1l,h1,Option.bind_some,←h2]
 rcases x with x|x <;> rfl
noncomputable def q2i (b:UInt8):Bool:=(fun b=>(qb1 (nb b)).getD false) b
theorem q2h (s:ByteArray) (hs:s.size≤9223372036854775807):∀ m k:Nat,k+m=s.size→∃ x,q29 s s.size k=some x∧Sum.elim (fun r=>r.1) (fun _=>true) x=((L s).drop k).all q2i:=by
 intro m
 induction m with
 |zero =>
  intro k hk
  refine ⟨.inr ((s,((),((s.size:Int),((k:Int),false)))),()),q2b (by
   simp only [q2g,q6m]
   rw [if_neg (by simp;omega)]),?_⟩
  rw [List.drop_eq_nil_of_le (by rw [qj];omega)];rfl
 |succ m ih =>
  intro k hk
  have hlt:k<(L s).length:=by rw [qj];omega
  have e1:decide ((k:Int)<(s.size:Int))=true:=by simp;omega
  have e0:decide ((0:Int)≤(k:Int))=true:=by simp
  have e2:IntKind.i64.wrap ((k:Int)+1)=((k+1:Nat):Int):=qxc (n:=s.size) (by omega) hs
  have e3:decide (k<s.size)=true:=by simp;omega
  have hc:qb1 (nb (L s)[k])=some (q2i (L s)[k]):=qg8 (qkm _)
  rw [q9e hlt,List.all_cons]
  cases hp:q2i (L s)[k] with
  |false =>
   rw [hp] at hc
   refine ⟨.inl (false,()),q2b ?_,rfl⟩
   simp only [q2g,q6m,qfz,e1,e0,e3,if_true,Int.toNat_natCast,Bool.and_self,q3t s hlt,hc,Option.bind_some,Bool.not_false]
  |true =>
   rw [hp] at hc
   obtain ⟨x,h1,h2⟩:=ih (k+1) (by omega)
   refine ⟨x,q2b ?_,by rw [Bool.true_and];exact h2⟩
   simp only [q2g,q6m,qfz,e1,e0,e3,if_true,Int.toNat_natCast,Bool.and_self,q3t s hlt,hc,Option.bind_some,Bool.not_true,Bool.false_eq_true,if_false,e2]
   exact h1
theorem q2k (s:ByteArray) (hs:s.size≤9223372036854775807):q2j s=some ((L s).all q2i):=by
 obtain ⟨x,h1,h2⟩:=q2h s hs s.size 0 (by omega)
 rw [List.drop_zero] at h2
 have h1:q29 s s.size 0=some x:=h1
 refine q28 ?_
 simp only [q2l,h1,Option.bind_some,←h2]
 rcases x with x|x <;> rfl
noncomputable def fnameB (s:ByteArray):Bool:=!em s&&(decide ((s.size:Int)≤60)&&(L s).all q20)
theorem qd1 (s:ByteArray):qe8 s=some (fnameB s):=qe7 (by
 simp only [qe9,q6m,qxx,fnameB]
 cases em s with
 |true=>rfl
 |false =>
  cases h:decide ((s.size:Int)≤60) with
  |false=>simp
  |true=>simp [q22 s (by have:=of_decide_eq_true h;omega)])
theorem q9u (s:ByteArray) (hs:s.size<4294967281):Ok (qdu s) fun r=>s.size=0→r=false:=.via qdt (by
 unfold qdv canyP
 rw [if_pos ⟨hs,rfl⟩]
 refine qn2 ?_
 intro h0
 have:s.data.toList=[]:=by
  apply List.eq_nil_of_length_eq_zero
  rw [Array.length_toList]
  exact h0
 rw [this]
 rfl)
def noSp (l:List UInt8):Prop:=∀ a,l≠a++[32]
theorem qmr {s:ByteArray} (h0:s.size≠0) (h:((UInt8.toNat (Array.getD s.data (s.size - 1) (0:UInt8)):Nat):Int)≠32):noSp (L s):=by
 intro a ha
 have hl:=qj s
 have h1:s.size - 1<(L s).length:=by omega
 have e:(L s)[s.size - 1]=32:=by
  have h2:s.size - 1=a.length:=by rw [←hl,ha];simp
  simp only [ha,h2]
  simp
 rw [q3t s h1,e] at h
 exact h rfl
theorem qwx (s:ByteArray) (hs:s.size<4294967281):Ok (qet s) fun r=>(s.size=0→r=true)∧(r=true→noSp (L s)):=.via qes (by
 unfold qeu
 refine qmy (q9u s hs) ?_
 intro r hr
 refine qmz ?_ ?_
 ·intro _
  simp only [qxx]
  refine qmz ?_ ?_
  ·intro he
   have h0:s.size≠0:=by intro h0;rw [q9n] at he;simp [h0] at he
   have hw:IntKind.i64.wrap ((s.size:Int) - 1)=((s.size - 1:Nat):Int):=by rw [qxb (by omega)];omega
   refine qn1 (by simp;omega) ?_
   refine qmy (q6e _) ?_
   intro r1 _
   refine qmz ?_ ?_
   ·intro _
    rw [hw]
    refine qn1 (by simp;omega) ?_
    refine qmy (q6e _) ?_
    intro r2 hr2
    refine qn2 ⟨(fun h=>absurd h h0),fun h=>qmr h0 fun h9=>?_⟩
    rw [Int.toNat_natCast] at hr2
    rw [hr2 h9] at h;cases h
   ·intro _
    exact qn2 ⟨fun h=>absurd h h0,(fun h=>by cases h)⟩
  ·intro he
   have h0:s.size=0:=by rw [q9n] at he;simpa using he
   refine qn2 ⟨fun _=>rfl,fun _ a ha=>?_⟩
   have:=qj s
   rw [ha] at this;simp at this;omega
 ·intro h
  exact qn2 ⟨fun h0=>(by rw [hr h0] at h;cases h),fun h=>by cases h⟩)
theorem maxI:IntKind.max IntKind.i64=9223372036854775807:=rfl
def ptP (s:ByteArray) (v:Int):Prop:=0≤v∧v≤s.size
theorem qnn (s:ByteArray) (hs:s.size≤100000):∀ (m:Nat) (k:Nat) (b:Int),1≤k→s.size - k≤m→k≤9223372036854775806→ptP s b→Ok (qef s b k) fun x=>Sum.elim (fun r=>ptP s r.1.2.1) (fun r=>ptP s r.1.2.1) x:=by
 intro m
 induction m with
 |zero =>
  intro k b h1 hk hk2 hb
  refine .via qeh ?_
  unfold qem
  refine qmz (fun h=>?_) (fun _=>qn2 hb)
  have:=of_decide_eq_true h
  omega
 |succ m ih =>
  intro k b h1 hk hk2 hb
  refine .via qeh ?_
  unfold qem
  refine qmz (fun h=>?_) (fun _=>qn2 hb)
  have hlt:k<s.size:=by have:=of_decide_eq_true h;omega
  have e2:IntKind.i64.wrap ((k:Int)+1)=((k+1:Nat):Int):=by rw [qxb (by omega)];rfl
  have e3:IntKind.i64.wrap ((k:Int) - 1)=((k - 1:Nat):Int):=by rw [qxb (by omega)];omega
  have hi:=fun b' hb'=>ih (k+1) b' (by omega) (by omega) (by omega) hb'
  have hk':ptP s k:=⟨by omega,by omega⟩
  rw [e2,e3]
  refine qn1 (by simp;omega) (qmy (q6e _) fun r0 _=>qmz (fun _=>qn1 (by simp;omega) (qmy (q6e _) fun r1 _=>qmz (fun _=>hi b hb) (fun _=>qmz (fun _=>qmz (fun _=>qn2 hb) (fun _=>hi k hk')) (fun _=>hi k hk')))) (fun _=>hi b hb))
theorem qno (s:ByteArray) (hs:s.size≤100000) (f:Int) (hf:f≤9223372036854775806):Ok (qen s f) (ptP s):=.via qee (by
 unfold qeo
 have hx:∃ k:Nat,1≤k∧k≤9223372036854775806∧(ite (true=true) (ite (f<(1:Int)) (1:Int) f) (ite ((1:Int)<f) (1:Int) f))=(k:Int):=by
  rw [if_pos rfl]
  split
  ·exact ⟨1,by omega,by omega,rfl⟩
  ·exact ⟨f.toNat,by omega,by omega,by omega⟩
 obtain ⟨k,h1,h2,h3⟩:=hx
 rw [h3]
 refine qmy (qnn s hs _ k 0 h1 (Nat.le_refl _) h2 ⟨by omega,by omega⟩) ?_
 rintro (r|r) hr
 ·exact qn2 hr
 ·exact qn2 hr)
def flQ (x:((Unit×ByteArray×Int×Nat×Bool)×((Int×Int)×(List ByteArray)))⊕((Unit×ByteArray×Nat×Int×Bool)×((Int×Int)×(List ByteArray)))):ByteArray×Nat×List ByteArray:=Sum.elim (fun r=>(r.1.2.1,r.1.2.2.2.1,r.2.2)) (fun r=>(r.1.2.1,r.1.2.2.1,r.2.2)) x
def szB (l:List ByteArray):Prop:=∀ e∈l,e.size≤100000
theorem qsr {l:List ByteArray} {s:ByteArray} (h:szB l) (hs:s.size≤100000):szB (l++[s]):=by
 intro e he
 rcases List.mem_append.1 he with he|he
 ·exact h e he
 ·have:e=s:=by simpa using he
  rw [this];exact hs
theorem qdx:∀ (m:Nat) (s:ByteArray) (f:Int) (out:Nat) (l:List ByteArray),s.size≤m→out=l.length→out+s.size≤100000→f≤100000→szB l→Ok (qdg s f out 0 0 l) fun x=>(flQ x).2.1=(flQ x).2.2.length∧(flQ x).2.1≤100000∧(flQ x).1.size≤100000∧szB (flQ x).2.2∧(s.size≤78→flQ x=(s,out,l)):=by
 intro m
 induction m with
 |zero =>
  intro s f out l hm ho hb hf hz
  refine .via qdi ?_
  unfold qdn
  refine qmz (fun h=>?_) (fun _=>qn1 (by simp [EC.isL_encL]) (qn2 ?_))
  ·have:=of_decide_eq_true h
   omega
  ·simp only [EC.decL_encL,flQ,Sum.elim_inl]
   exact ⟨ho,by omega,by omega,hz,fun _=>trivial⟩
 |succ m ih =>
  intro s f out l hm ho hb hf hz
  refine .via qdi ?_
  unfold qdn
  refine qmz (fun h=>?_) (fun _=>qn1 (by simp [EC.isL_encL]) (qn2 ?_))
  ·have h78:=of_decide_eq_true h
   refine qmy (qno s (by omega) f (by omega)) fun r hr=>?_
   obtain ⟨p0,p1⟩:=hr
   refine qmz (fun _=>qn1 (by simp [EC.isL_encL]) (qn2 ?_)) (fun hne=>?_)
   ·simp only [EC.decL_encL,flQ,Sum.elim_inr]
    exact ⟨ho,by omega,by omega,hz,fun h=>by omega⟩
   ·have hne:r≠0:=by simpa using hne
    have hz1:(s.extract r.toNat s.size).size=s.size - r.toNat:=by rw [ByteArray.size_extract];omega
    have hz2:(s.extract 0 r.toNat).size≤100000:=by rw [ByteArray.size_extract];omega
    simp only [EC.decL_encL,EC.isL_encL,qxp,qxr]
    refine qn1 (by simp;omega) (qn1 (by simp;omega) (qn1 (by simp;omega) ?_))
    refine (ih _ 0 (out+1) (l++[s.extract 0 r.toNat]) (by rw [hz1];omega) (by simp [ho]) (by rw [hz1];omega) (by omega) (qsr hz hz2)).mono fun x hx=>⟨hx.1,hx.2.1,hx.2.2.1,hx.2.2.2.1,fun h=>by omega⟩
  ·simp only [EC.decL_encL,flQ,Sum.elim_inl]
   exact ⟨ho,by omega,by omega,hz,fun _=>trivial⟩
theorem qj7 (l:List ByteArray) (k:Nat) (h:k<l.length):isP [K1.str] 0 ((q9l.encL l).getD k [])=true:=by rw [EC.getD_lt _ _ h];rfl
theorem qx7 (out:Nat) (c d:Int) (l:List ByteArray) (hl:l.length≤100001):∀ m k:Nat,k+m=l.length→Ok (qd8 out l.length l.length k c d l) fun x=>Sum.elim (fun r=>r.1.1=0∧r.2.1=[]∧r.2.2.1=1∧¬ ∀ e∈l,e.size≤998) (fun r=>r.1.2.1=out∧r.2.2=l) x:=by
 intro m
 induction m with
 |zero =>
  intro k hk
  refine .via qda ?_
  unfold qdf
  refine qmz (fun h=>?_) (fun _=>qn1 (by simp [EC.isL_encL]) (qn2 ?_))
  ·have:=of_decide_eq_true h
   omega
  ·simp only [EC.decL_encL,Sum.elim_inr,and_self]
 |succ m ih =>
  intro k hk
  have hlt:k<l.length:=by omega
  have e2:IntKind.i64.wrap ((k:Int)+1)=((k+1:Nat):Int):=by rw [qxb (by omega)];rfl
  refine .via qda ?_
  unfold qdf
  simp only [EC.decL_encL,EC.isL_encL,EC.encL_length,qxs,Int.toNat_natCast,e2]
  refine qmz (fun h=>?_) (fun h=>?_)
  ·refine qn1 (by simp;omega) (qn1 (by rw [len_9 l k hlt];simp [hlt]) (qn1 (qj7 l k hlt) ?_))
   refine qmz (fun hw=>?_) (fun _=>?_)
   ·refine qmy (qcb _ _) fun r hr=>qn2 ?_
    subst hr
    refine ⟨rfl,rfl,rfl,fun hall=>?_⟩
    have h1:=hall l[k] (List.getElem_mem hlt)
    have h2:=of_decide_eq_true hw
    rw [qg7 hlt] at h2
    omega
   ·exact qn1 rfl (ih (k+1) (by omega))
  ·have:=of_decide_eq_false h
   omega
def foldP (n v:ByteArray) (r:(Nat×(Int×Int))×List ByteArray):Prop:=r.1.1=r.2.length∧r.1.1≤100001∧szB r.2∧(r.1.2.1=0→fnameB n=true∧v.size≤4000∧noSp (L v))∧(fnameB n=true→v.size=0→r.1.2.1=0)
theorem qea (n v:ByteArray):Ok (qdo n v) (foldP n v):=.via qd7 (by
 unfold qdp
 refine qmy (qn0 (qd1 n)) fun r0 hr0=>?_
 subst hr0
 refine qmz (fun hb=>qmy (qcb _ _) fun r hr=>qn2 ?_) (fun hb=>?_)
 ·subst hr
  have hb:fnameB n=false:=by simpa using hb
  exact ⟨rfl,by simp,(fun e he=>by simp [EC.decL] at he),(fun h=>by simp at h),(fun h=>by rw [hb] at h;cases h)⟩
 ·have hb:fnameB n=true:=by simpa using hb
  have hn:n.size≤60:=by
   unfold fnameB at hb
   rw [Bool.and_eq_true,Bool.and_eq_true] at hb
   have:=of_decide_eq_true hb.2.1
   omega
  refine qmz (fun hv=>qmy (qcb _ _) fun r hr=>qn2 ?_) (fun hv=>?_)
  ·subst hr
   have:=of_decide_eq_true hv
   exact ⟨rfl,by simp,(fun e he=>by simp [EC.decL] at he),(fun h=>by simp at h),(fun _ h=>by omega)⟩
  ·have hv4:v.size≤4000:=by have:=of_decide_eq_false hv;omega
   refine qmy (qwx v (by omega)) fun r1 hr1=>qmz (fun hb1=>qmy (qcb _ _) fun r hr=>qn2 ?_) (fun hb1=>?_)
   ·subst hr
    exact ⟨rfl,by simp,(fun e he=>by simp [EC.decL] at he),(fun h=>by simp at h),(fun _ h=>by rw [hr1.1 h] at hb1;cases hb1)⟩
   ·have hc2:(ByteArray.mk (List.toArray [(58:UInt8),(32:UInt8)])).size=2:=rfl
    have hsz:((n++(ByteArray.mk (List.toArray [(58:UInt8),(32:UInt8)])))++v).size=n.size+2+v.size:=by rw [ByteArray.size_append,ByteArray.size_append,hc2]
    have hsz1:(n++(ByteArray.mk (List.toArray [(58:UInt8),(32:UInt8)]))).size=n.size+2:=by rw [ByteArray.size_append,hc2]
    rw [maxI,hc2,hsz1]
    refine qmz (fun h=>absurd (of_decide_eq_true h) (by omega)) (fun _=>qmz (fun h=>absurd (of_decide_eq_true h) (by omega)) (fun _=>?_))
    have hw:IntKind.i64.wrap ((n.size:Int)+2)=((n.size+2:Nat):Int):=by rw [qxb (by omega)];rfl
    rw [hw,qe]
    refine qmy (qdx _ _ _ 0 [] (Nat.le_refl _) rfl (by rw [hsz];omega) (by omega) (fun e he=>by cases he)) ?_
    intro r hr
    have fin:∀ (c d:Int) (s:ByteArray) (o:Nat) (l:List ByteArray),o=l.length→o≤100000→s.size≤100000→szB l→(n.size+2+v.size≤78→s.size≤78∧l=[]) →
      Ok (Option.bind (qd8 (o+1) (o+1) (((o+1:Nat)):Int) 0 c d (l++[s])) fun r4=>Sum.elim (fun r5=>some ((r5.1.1,(r5.2.2.1,r5.2.2.2)),r5.2.1)) (fun r5=>Option.bind q5t fun r6=>some ((r5.1.2.1,(r6.1,r6.2)),r5.2.2)) r4) (foldP n v):=by
     intro c d s o l ho h1 h2 h3 h4
     have hl:(l++[s]).length=o+1:=by simp [ho]
     have hz:=qsr h3 h2
     have hwd:=qx7 (o+1) c d (l++[s]) (by omega) (l++[s]).length 0 (by omega)
     rw [hl] at hwd
     refine qmy hwd ?_
     rintro (x|x) hx
     ·obtain ⟨x1,x2,x3,x4⟩:=hx
      refine qn2 ⟨by rw [x1,x2];rfl,by rw [x1];omega,by rw [x2];exact (fun e he=>by cases he),(fun h=>by rw [x3] at h;cases h),(fun _ h0=>absurd (fun e he=>?_) x4)⟩
      obtain ⟨g1,g2⟩:=h4 (by omega)
      subst g2
      have:e=s:=by simpa using he
      rw [this];omega
     ·obtain ⟨x1,x2⟩:=hx
      refine qmy qms fun r6 hr6=>qn2 ?_
      subst hr6
      exact ⟨by rw [x1,x2,hl],by rw [x1];omega,by rw [x2];exact hz,(fun _=>⟨hb,hv4,hr1.2 (by simpa using hb1)⟩),(fun _ _=>rfl)⟩
    rcases r with r|r
    ·obtain ⟨q1,q2,q3,q4,q5⟩:=hr
     simp only [flQ,Sum.elim_inl] at q1 q2 q3 q4 q5
     have hf:=fin r.2.1.1 r.2.1.2 r.1.2.1 r.1.2.2.2.1 r.2.2 q1 q2 q3 q4 (fun h=>by
      have:=q5 (by rw [hsz];omega)
      rw [Prod.mk.injEq,Prod.mk.injEq] at this
      rw [this.1,this.2.2]
      exact ⟨by rw [hsz];omega,rfl⟩)
     show Ok (gdE _ _) _
     refine qn1 (by simp [qxp];omega) (qn1 (by simp [EC.isL_encL,qxr]) ?_)
     simp only [EC.decL_encL,EC.isL_encL,qxr,qfz,if_true]
     exact hf
    ·obtain ⟨q1,q2,q3,q4,q5⟩:=hr
     simp only [flQ,Sum.elim_inr] at q1 q2 q3 q4 q5
     have hf:=fin r.2.1.1 r.2.1.2 r.1.2.1 r.1.2.2.1 r.2.2 q1 q2 q3 q4 (fun h=>by
      have:=q5 (by rw [hsz];omega)
      rw [Prod.mk.injEq,Prod.mk.injEq] at this
      rw [this.1,this.2.2]
      exact ⟨by rw [hsz];omega,rfl⟩)
     show Ok (gdE _ _) _
     refine qn1 (by simp [qxp];omega) (qn1 (by simp [EC.isL_encL,qxr]) ?_)
     simp only [EC.decL_encL,EC.isL_encL,qxr,qfz,if_true]
     exact hf)
def fieldB (x:S57):Prop:=fnameB x.Name=true∧x.Value.size≤4000∧noSp (L x.Value)
theorem qi2 (l:List S57) (hl:l.length≤60) (c d:Int):∀ m k:Nat,k+m=l.length→Ok (qh8 l l.length k c d) fun x=>Sum.elim (fun r=>r.2.1≠0) (fun _=>∀ x∈l.drop k,fieldB x) x:=by
 intro m
 induction m with
 |zero =>
  intro k hk
  refine .via qha ?_
  unfold qhf
  refine qmz (fun h=>?_) (fun _=>qn1 (by simp [EC.isL_encL]) (qn2 ?_))
  ·have:=of_decide_eq_true h
   omega
  ·rw [List.drop_eq_nil_of_le (by omega)]
   intro x hx;cases hx
 |succ m ih =>
  intro k hk
  have hlt:k<l.length:=by omega
  have e2:IntKind.i64.wrap ((k:Int)+1)=((k+1:Nat):Int):=by rw [qxb (by omega)];rfl
  refine .via qha ?_
  unfold qhf
  simp only [EC.decL_encL,EC.isL_encL,EC.encL_length,qy8,q3p,q3q,Int.toNat_natCast,e2]
  refine qmz (fun h=>?_) (fun h=>?_)
  ·refine qn1 (by simp) (qn1 (by simp [hlt]) ?_)
   refine qmy (qea _ _) fun r hr=>?_
   rw [qg7 hlt] at hr
   refine qmy (qn0 (qc9 _ _)) fun r1 hr1=>?_
   subst hr1
   refine qmz (fun hb=>qmy (qcb _ _) fun r2 hr2=>qn2 ?_) (fun hb=>?_)
   ·subst hr2
    show r.1.2.1≠0
    simpa using hb
   ·have h0:r.1.2.1=0:=by simpa using hb
    refine qn1 rfl ((ih (k+1) (by omega)).mono fun x hx=>?_)
    rcases x with x|x
    ·exact hx
    ·show ∀ y∈l.drop k,fieldB y
     rw [q9e hlt]
     intro y hy
     rcases List.mem_cons.1 hy with rfl|hy
     ·exact hr.2.2.2.1 h0
     ·exact hx y hy
  ·have:=of_decide_eq_false h
   omega
def hvalP (l:List S57) (r:Int×Int):Prop:=r.1=0→l.length≤60∧∀ x∈l,fieldB x
theorem qi3 (l:List S57):Ok (qhg l) (hvalP l):=.via qh7 (by
 unfold qhh
 simp only [EC.decL_encL,EC.isL_encL,EC.encL_length]
 refine qmz (fun h=>qmy (qcb _ _) fun r hr=>qn2 ?_) (fun h=>qn1 rfl ?_)
 ·subst hr
  intro h;cases h
 ·have hl:l.length≤60:=by have:=of_decide_eq_false h;omega
  refine qmy (qi2 l hl 0 0 l.length 0 (by omega)) ?_
  rintro (r|r) hr
  ·exact qn2 (fun h=>absurd h hr)
  ·refine qmy qms fun r2 hr2=>qn2 ?_
   intro _
   exact ⟨hl,by rw [List.drop_zero] at hr;exact hr⟩)
theorem qi1 (s:ByteArray):Ok (qhm s) fun r=>r=fnameB s:=.via qhl (by
 unfold qhn
 refine qmy (qea _ _) fun r hr=>?_
 refine qmy (qn0 (qc9 _ _)) fun r1 hr1=>qn2 ?_
 subst hr1
 obtain ⟨_,_,_,h1,h2⟩:=hr
 cases hb:fnameB s with
 |true=>rw [h2 hb rfl];rfl
 |false =>
  have:r.1.2.1≠0:=fun h=>by rw [(h1 h).1] at hb;cases hb
  simpa using this)
end Go.Proofs.YtmacbkjehjbjeaaGreatDoor
