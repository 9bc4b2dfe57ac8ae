/- Small laws that plain proofs over extracted functions use. -/
import Derived.Test.YtjlkjiifkganoaaZ18
import Derived.Test.YtjlkjiifkganoaaH1
namespace Go.Proofs.Ytjlkjiifkganoaa
set_option linter.unusedSimpArgs false
open Go.RowKit
theorem q5n {β:Type} (q:Bool) (a b:Option β):brE q a b=if q=true then a else b:=by cases q <;> rfl
theorem qfl {β:Type} (q:Bool) (a:Option β):gdE q a=if q=true then a else none:=by cases q <;> rfl
theorem beq_t (q:Bool):(q==true)=q:=by cases q <;> rfl
theorem beq_f (q:Bool):(q==false)=!q:=by cases q <;> rfl
theorem qa {τ:Type} (e:EC τ) (xs ys:List τ):e.encL xs++e.encL ys=e.encL (xs++ys):=by simp [EC.encL]
theorem qc {τ:Type} (e:EC τ):e.decL []=[]:=rfl
theorem qb {τ:Type} (e:EC τ) (xs:List τ):(e.encL xs).isEmpty=xs.isEmpty:=by cases xs <;> rfl
theorem qa0 {α:Type} {l:List α} {k:Nat} (h:k<l.length):l.drop k=l[k]::l.drop (k+1):=List.drop_eq_getElem_cons h
theorem qvs {α:Type} {l:List α} {k:Nat} (h:k<l.length):l.take (k+1)=l.take k++[l[k]]:=by rw [List.take_add_one,List.getElem?_eq_getElem h];rfl
theorem qy6 {k n:Nat} (h:k<n) (hn:n≤9223372036854775807):IntKind.i64.wrap ((k:Int)+1)=((k+1:Nat):Int):=by rw [IntWalk.i64_in _ (by omega)];rfl
theorem qy5 {x:Int} (h0:-9223372036854775808≤x) (h1:x≤9223372036854775807):IntKind.i64.wrap x=x:=IntWalk.i64_in _ (by omega)
theorem qfo {α:Type} {l:List α} {k:Nat} {d:α} (h:k<l.length):l.getD k d=l[k]:=by simp [List.getD_eq_getElem?_getD,h]
theorem qsz {α β:Type} {x:Option α} {f:α→Option β} {b:β} (h:x.bind f=some b):∃ a,x=some a∧f a=some b:=by
 cases x with
 |none=>cases h
 |some a=>exact ⟨a,rfl,h⟩
def gidx {α:Type} (p:α→Bool) (k:Nat):List α→Int
 |[]=>-1
 |g::l=>if p g then (k:Int) else gidx p (k+1) l
theorem qfq {α:Type} (p:α→Bool):∀ (l:List α) (k:Nat),(gidx p k l=-1∧∀ x∈l,p x=false)∨∃ (i:Nat) (h:i<l.length),gidx p k l=((k+i:Nat):Int)∧p l[i]=true∧∀ x∈l.take i,p x=false
 |[],k=>.inl ⟨rfl,by simp⟩
 |g::l,k=>by
  cases hp:p g with
  |true=>exact .inr ⟨0,by simp,by simp [gidx,hp],by simpa using hp,by simp⟩
  |false =>
   rcases qfq p l (k+1) with ⟨h1,h2⟩|⟨i,hi,h1,h2,h3⟩
   ·exact .inl ⟨by simp [gidx,hp,h1],fun x hx=>by rcases List.mem_cons.1 hx with e|e;exact e ▸ hp;exact h2 x e⟩
   ·refine .inr ⟨i+1,by simpa using hi,by simp only [gidx,hp,Bool.false_eq_true,if_false,h1];congr 1;omega,by simpa using h2,fun x hx=>?_⟩
    rw [List.take_succ_cons] at hx
    rcases List.mem_cons.1 hx with e|e
    ·exact e ▸ hp
    ·exact h3 x e
end Go.Proofs.Ytjlkjiifkganoaa
namespace Go.Proofs.Ytjlkjiifkganoaa
set_option linter.unusedSimpArgs false
open Go.RowKit
set_option maxRecDepth 100000
def Ok {α:Type} (o:Option α) (Q:α→Prop):Prop:=∃ r,o=some r∧Q r
theorem qkm {α:Type} {x:α} {Q:α→Prop} (h:Q x):Ok (some x) Q:=⟨x,rfl,h⟩
theorem Ok.mono {α:Type} {o:Option α} {Q R:α→Prop} (h:Ok o Q) (k:∀ r,Q r→R r):Ok o R:=by obtain ⟨r,e,q⟩:=h;exact ⟨r,e,k r q⟩
theorem Ok.via {α:Type} {t s:Option α} {Q:α→Prop} (e:∀ {r},t=some r→s=some r) (h:Ok t Q):Ok s Q:=by obtain ⟨r,e1,q⟩:=h;exact ⟨r,e e1,q⟩
theorem qkk {α:Type} {q:Bool} {a b:Option α} {Q:α→Prop} (h1:q=true→Ok a Q) (h2:q=false→Ok b Q):Ok (brE q a b) Q:=by
 cases q with
 |true=>exact h1 rfl
 |false=>exact h2 rfl
theorem qkl {α:Type} {q:Bool} {a:Option α} {Q:α→Prop} (hq:q=true) (h:Ok a Q):Ok (gdE q a) Q:=by subst hq;exact h
theorem qkj {α β:Type} {o:Option α} {f:α→Option β} {P:α→Prop} {Q:β→Prop} (h:Ok o P) (k:∀ r,P r→Ok (f r) Q):Ok (o.bind f) Q:=by
 obtain ⟨r,rfl,p⟩:=h
 exact k r p
theorem qc0 (a b:Int):Ok (q4b a b) fun r=>r=(a,b):=⟨_,q4a rfl,rfl⟩
theorem qkd:Ok q4z fun r=>r=(0,0):=⟨_,q4y rfl,rfl⟩
theorem qby (a b:Int):Ok (q45 a b) fun r=>r=(a != 0):=⟨_,q44 rfl,rfl⟩
theorem qvu (t:Int):Ok (q55 t) fun r=>r=(decide (-68719476736≤t)&&decide (t≤68719476736)):=⟨_,q54 (r:=decide (-68719476736≤t)&&decide (t≤68719476736)) (by
 simp only [q56,q5n,beq_t,ge_iff_le]
 cases decide (-68719476736≤t) <;> rfl),rfl⟩
theorem q10d (n a b:Int):Ok (q10e n a b) fun r=>r=(decide (a≤n)&&decide (n≤b)):=⟨_,q10c (r:=decide (a≤n)&&decide (n≤b)) (by
 simp only [q10f,q5n,beq_t,ge_iff_le]
 cases decide (a≤n) <;> rfl),rfl⟩
theorem qag (n a b:Int):Ok (qah n a b) fun r=>r=(decide (a≤n)&&decide (n≤b)):=⟨_,qaf (r:=decide (a≤n)&&decide (n≤b)) (by
 simp only [qai,q5n,beq_t,ge_iff_le]
 cases decide (a≤n) <;> rfl),rfl⟩
theorem qj3 (c:Int):Ok (q4h c) fun _=>True:=.via q4g (by
 unfold q4i
 repeat' (first
 |exact ⟨_,rfl,trivial⟩
 |(refine qkk ?_ ?_ <;> intro _)
 |(refine qkj (qc0 _ _) ?_;(intro _ hh;cases hh))
 |(refine qkj qkd ?_;(intro _ hh;cases hh))
 |(refine qkj (qby _ _) ?_;(intro _ hh;cases hh))
 |(refine qkj (q10d _ _ _) ?_;(intro _ hh;cases hh))
 |(refine qkj (qag _ _ _) ?_;(intro _ hh;cases hh))
 |(refine qkj (qvu _) ?_;(intro _ hh;cases hh))))
theorem qk1 (c:Int):Ok (q4n c) fun _=>True:=.via q4m (by
 unfold q4o
 repeat' (first
  |exact ⟨_,rfl,trivial⟩
  |(refine qkk ?_ ?_ <;> intro _)
  |(refine qkj (qj3 _) ?_;intro _ _)))
theorem q1g (s:ByteArray) (hs:s.size≤60):∀ m k:Nat,k+m=s.size→Ok (q18 s s.size k) fun _=>True:=by
 intro m
 induction m with
 |zero =>
  intro k hk
  refine .via q1a ?_
  unfold q1f
  rw [show decide ((k:Int)<(s.size:Int))=false by simp;omega]
  exact qkm trivial
 |succ m ih =>
  intro k hk
  refine .via q1a ?_
  unfold q1f
  rw [show decide ((k:Int)<(s.size:Int))=true by simp;omega]
  refine qkl (by simp;omega) ?_
  refine qkj (qk1 _) ?_
  intro q _
  refine qkk (fun _=>qkm trivial) fun _=>?_
  rw [qy6 (n:=s.size) (by omega) (by omega)]
  exact ih (k+1) (by omega)
theorem q1h (s:ByteArray) (hs:s.size≤60):Ok (q1i s) fun _=>True:=.via q17 (by
 unfold q1j
 refine qkj (q1g s hs s.size 0 (by omega)) ?_
 intro r _
 cases r <;> exact qkm trivial)
theorem qk2 (s:ByteArray):Ok (q4t s) fun _=>True:=.via q4s (by
 unfold q4u
 refine qkk (fun _=>?_) fun _=>qkm trivial
 refine qkk (fun h=>?_) fun _=>qkm trivial
 simp at h
 refine qkj (q1h s (by omega)) ?_
 intro r _
 exact qkm trivial)
theorem qz5 (z1:ByteArray) (z2 z3 z4 z5 z6 z7 z8 z9 z10 z11:Int):Ok (qz6 z1 z2 z3 z4 z5 z6 z7 z8 z9 z10 z11) fun _=>True:=.via qz4 (qkm trivial)
theorem q100 (a b c d:Int):Ok (q101 a b c d) fun _=>True:=.via qzz (by
 unfold q102
 repeat' (first
 |exact ⟨_,rfl,trivial⟩
 |(refine qkk ?_ ?_ <;> intro _)
 |(refine qkj (qc0 _ _) ?_;(intro _ hh;cases hh))
 |(refine qkj qkd ?_;(intro _ hh;cases hh))
 |(refine qkj (qby _ _) ?_;(intro _ hh;cases hh))
 |(refine qkj (q10d _ _ _) ?_;(intro _ hh;cases hh))
 |(refine qkj (qag _ _ _) ?_;(intro _ hh;cases hh))
 |(refine qkj (qvu _) ?_;(intro _ hh;cases hh))))
theorem q108 (z1:ByteArray) (z2 z3 z4 z5 z6 z7 z8 z9 z10 z11:Int):Ok (zval_s z1 z2 z3 z4 z5 z6 z7 z8 z9 z10 z11) fun _=>True:=.via q107 (by
 unfold zval_t
 repeat' (first
  |exact ⟨_,rfl,trivial⟩
  |(refine qkk ?_ ?_ <;> intro _)
  |(refine qkj (qc0 _ _) ?_;rintro _ rfl)
  |(refine qkj qkd ?_;rintro _ rfl)
  |(refine qkj (q10d _ _ _) ?_;rintro _ rfl)
  |(refine qkj (qk2 _) ?_;intro _ _)
  |(refine qkj (qz5 _ _ _ _ _ _ _ _ _ _ _) ?_;intro _ _)
  |(refine qkj (q100 _ _ _ _) ?_;intro _ _)))
theorem qj0 (y:Int):Ok (q8n y) fun _=>True:=.via q8m (by
 unfold q8o
 repeat' (first
 |exact ⟨_,rfl,trivial⟩
 |(refine qkk ?_ ?_ <;> intro _)
 |(refine qkj (qc0 _ _) ?_;(intro _ hh;cases hh))
 |(refine qkj qkd ?_;(intro _ hh;cases hh))
 |(refine qkj (qby _ _) ?_;(intro _ hh;cases hh))
 |(refine qkj (q10d _ _ _) ?_;(intro _ hh;cases hh))
 |(refine qkj (qag _ _ _) ?_;(intro _ hh;cases hh))
 |(refine qkj (qvu _) ?_;(intro _ hh;cases hh))))
theorem q9x (y m:Int) (h1:1≤m) (h2:m≤12):Ok (dlen_s y m) fun _=>True:=.via q9w (by
 unfold dlen_t
 have hw:IntKind.i64.wrap (m - 1)=m - 1:=qy5 (by omega) (by omega)
 rw [hw]
 refine qkl ?_ ?_
 ·have a:(0:Int)≤m - 1:=by omega
  have b:m - 1<12:=by omega
  have c:(m - 1).toNat<12:=by omega
  simp only [Bool.and_eq_true,decide_eq_true_eq]
  exact ⟨⟨a,b⟩,c⟩
 ·repeat' (first
   |exact ⟨_,rfl,trivial⟩
   |(refine qkk ?_ ?_ <;> intro _)
   |(refine qkj (qj0 _) ?_;intro _ _)))
theorem q8t (y:Int):Ok (q8u y) fun _=>True:=.via q8s (qkm trivial)
theorem q97 (y m:Int) (hm:m≤12):∀ (g:Nat) (n k:Int),1≤k→m - k≤g→Ok (q90 y m n k) fun _=>True:=by
 intro g
 induction g with
 |zero =>
  intro n k h1 h2
  refine .via q92 ?_
  unfold q96
  rw [show decide (k<m)=false by simp;omega]
  exact qkm trivial
 |succ g ih =>
  intro n k h1 h2
  refine .via q92 ?_
  unfold q96
  refine qkk (fun h=>?_) fun _=>qkm trivial
  simp at h
  refine qkj (q9x y k h1 (by omega)) ?_
  intro r _
  rw [qy5 (x:=k+1) (by omega) (by omega)]
  exact ih _ _ (by omega) (by omega)
theorem q98 (y m d:Int) (hm:m≤12):Ok (q99 y m d) fun _=>True:=.via q8z (by
 unfold dday_t
 refine qkj (q8t _) fun _ _=>qkj (q8t _) fun _ _=>qkj (q97 y m hm (m - 1).toNat _ 1 (by omega) (by omega)) fun _ _=>qkm trivial)
theorem qab (y m d h n s z:Int):Ok (dval_s y m d h n s z) fun r=>r.1=0→1≤m∧m≤12:=.via qaa (by
 unfold dval_t
 refine qkj (qag _ _ _) ?_
 rintro _ rfl
 refine qkk (fun _=>?_) fun _=>qkj (qc0 _ _) (by rintro _ rfl;exact qkm fun h=>by simp at h)
 refine qkj (qag _ _ _) ?_
 rintro _ rfl
 refine qkk (fun hm=>?_) fun _=>qkj (qc0 _ _) (by rintro _ rfl;exact qkm fun h=>by simp at h)
 simp at hm
 have hP:1≤m∧m≤12:=hm
 refine qkj (q9x _ _ ?_ ?_) ?_
 ·repeat' split
  all_goals omega
 ·repeat' split
  all_goals omega
 intro r _
 repeat' (first
  |exact ⟨_,rfl,fun _=>hP⟩
  |(refine qkk ?_ ?_ <;> intro _)
  |(refine qkj (qc0 _ _) ?_;rintro _ rfl)
  |(refine qkj qkd ?_;rintro _ rfl)
  |(refine qkj (qag _ _ _) ?_;rintro _ rfl)))
theorem bne0 {a:Int} (h:(a != 0)=false):a=0:=by simpa using h
theorem q9q (y m d h n s z:Int):Ok (q9r y m d h n s z) fun _=>True:=.via q9p (by
 unfold q9s
 refine qkj (qab y m d h n s z) ?_
 intro r hr
 refine qkj (qby _ _) ?_
 rintro _ rfl
 refine qkk (fun _=>qkm trivial) fun h0=>?_
 exact qkj (q98 y m d (hr (bne0 h0)).2) fun _ _=>qkj qkd fun _ _=>qkm trivial)
theorem qa5 (n b:Int) (hb:b≠0):Ok (qa6 n b) fun _=>True:=.via qa4 (by
 unfold qa7
 have:(b==0)=false:=by simpa using hb
 simp only [this]
 exact qkm trivial)
theorem qxw (y m d h n s z:Int):Ok (wday_s y m d h n s z) fun _=>True:=.via qxv (by
 unfold wday_t
 refine qkj (qab y m d h n s z) ?_
 intro r hr
 refine qkj (qby _ _) ?_
 rintro _ rfl
 refine qkk (fun _=>qkm trivial) fun h0=>?_
 exact qkj (q98 y m d (hr (bne0 h0)).2) fun _ _=>qkj (qa5 _ 7 (by decide)) fun _ _=>qkj qkd fun _ _=>qkm trivial)
theorem qzc (a b c d y h:Int):Ok (qzd a b c d y h) fun _=>True:=.via qzb (by
 unfold qze
 repeat' (first
  |exact ⟨_,rfl,trivial⟩
  |(refine qkk ?_ ?_ <;> intro _)
  |(refine qkj (qxw _ _ _ _ _ _ _) ?_;intro _ _)
  |(refine qkj (qab _ _ _ _ _ _ _) ?_;intro _ _)
  |(refine qkj (qby _ _) ?_;rintro _ rfl)
  |(refine qkj (q9q _ _ _ _ _ _ _) ?_;intro _ _)))
def YearIn (y days:Int):Prop:=Ok (q99 y 1 1) fun d=>d≤days
theorem qki {α β:Type} {o:Option α} {x:α} {f:α→Option β} {Q:β→Prop} (h:o=some x) (k:Ok (f x) Q):Ok (o.bind f) Q:=by subst h;exact k
theorem q70 (zone days s:Int) (b0 b1 b2 b3 b4 b5 b6 c0 c1:Int):∀ (g:Nat) (y step:Int),step≤g→step≤4096→YearIn y days→Ok (q76 zone days s y step b0 b1 b2 b3 b4 b5 b6 c0 c1) fun r=>r.1.2.2.2.1=days∧YearIn r.1.2.2.2.2.2.1 days:=by
 intro g
 induction g with
 |zero =>
  intro y step h1 h4 hy
  refine .via q78 ?_
  unfold q7c
  rw [show decide (step>0)=false by simp;omega]
  exact qkm ⟨rfl,hy⟩
 |succ g ih =>
  intro y step h1 h4 hy
  refine .via q78 ?_
  unfold q7c
  refine qkk (fun h=>?_) fun _=>qkm ⟨rfl,hy⟩
  simp at h
  have hs:IntKind.i64.wrap (Int.tdiv step 2)≤g∧IntKind.i64.wrap (Int.tdiv step 2)≤4096:=by
   rw [Int.tdiv_eq_ediv_of_nonneg (by omega),qy5 (by omega) (by omega)]
   omega
  refine qkk (fun _=>?_) fun _=>ih _ _ hs.1 hs.2 hy
  obtain ⟨d,hd,_⟩:=q98 (IntKind.i64.wrap (y+step)) 1 1 (by omega)
  refine qki hd ?_
  refine qkk (fun hle=>ih _ _ hs.1 hs.2 ⟨d,hd,by simpa using hle⟩) fun _=>ih _ _ hs.1 hs.2 hy
theorem q71 (zone days s y:Int) (b0 b1 b2 b3 b4 b5 b6 c0 c1:Int) (hy:YearIn y days):∀ (g:Nat) (m:Int),m=g+1→m≤12→Ok (q7d zone days s y m b0 b1 b2 b3 b4 b5 b6 c0 c1) fun r=>r.1.2.2.2.2.2.2.1≤12:=by
 intro g
 induction g with
 |zero =>
  intro m h1 h2
  obtain rfl:m=1:=by omega
  refine .via q7f ?_
  unfold q7j
  obtain ⟨d,hd,hle⟩:=hy
  refine qki hd ?_
  rw [show decide (d>days)=false by simp;omega]
  exact qkm h2
 |succ g ih =>
  intro m h1 h2
  refine .via q7f ?_
  unfold q7j
  refine qkj (q98 y m 1 h2) fun d _=>?_
  refine qkk (fun _=>?_) fun _=>qkm h2
  rw [qy5 (x:=m - 1) (by omega) (by omega)]
  exact ih _ (by omega) (by omega)
theorem q7k (t zone:Int):Ok (q7l t zone) fun _=>True:=.via q75 (by
 unfold q7m
 refine qkj (qvu _) fun _ _=>qkk (fun _=>qkj (qc0 _ _) fun _ _=>qkm trivial) fun _=>?_
 refine qkj (qag _ _ _) fun _ _=>qkk (fun _=>qkj (qc0 _ _) fun _ _=>qkm trivial) fun _=>?_
 refine qkj (qa5 _ _ (by decide)) fun r2 _=>?_
 obtain ⟨d,hd,_⟩:=q98 1 1 1 (by omega)
 refine qki hd ?_
 refine qkk (fun h=>?_) fun _=>qkj (qc0 _ _) fun _ _=>qkm trivial
 simp at h
 refine qkj (q98 _ _ _ (by decide)) fun d2 _=>qkk (fun _=>qkj (qc0 _ _) fun _ _=>qkm trivial) fun _=>?_
 refine qkj (q70 zone r2.1 r2.2 0 0 0 0 0 0 0 0 0 2048 1 2048 (by decide) (by decide) ⟨d,hd,h⟩) fun r5 h5=>?_
 rw [h5.1]
 refine qkj (q71 _ _ _ _ _ _ _ _ _ _ _ _ _ h5.2 11 12 (by decide) (by decide)) fun r6 h6=>?_
 exact qkj (q98 _ _ _ h6) fun _ _=>qkj qkd fun _ _=>qkm trivial)
set_option maxRecDepth 100000
theorem qzh (t year:Int) (c0:ByteArray) (c1 c2 c3 c4 c5 c6 c7 c8 c9 c10:Int) (h0:-1000000≤year) (h1:year≤1000000):∀ (g:Nat) (best out:Int) (has:Bool) (y:Int),-2000000≤y→year+2 - y≤g→Ok (qzm t year best out has y c0 c1 c2 c3 c4 c5 c6 c7 c8 c9 c10) fun _=>True:=by
 intro g
 induction g with
 |zero =>
  intro best out has y hy hg
  refine .via qzo ?_
  unfold qzs
  rw [qy5 (x:=year+1) (by omega) (by omega),show decide (y≤year+1)=false by simp;omega]
  exact qkm trivial
 |succ g ih =>
  intro best out has y hy hg
  refine .via qzo ?_
  unfold qzs
  rw [qy5 (x:=year+1) (by omega) (by omega)]
  refine qkk (fun h=>?_) fun _=>qkm trivial
  simp at h
  rw [qy5 (x:=y+1) (by omega) (by omega)]
  have ih':∀ (best out:Int) (has:Bool),Ok (qzm t year best out has (y+1) c0 c1 c2 c3 c4 c5 c6 c7 c8 c9 c10) fun _=>True:=fun a b c=>ih a b c _ (by omega) (by omega)
  repeat' (first
   |exact ih' _ _ _
   |(refine qkk ?_ ?_ <;> intro _)
   |(refine qkj (qzc _ _ _ _ _ _) ?_;intro _ _))
theorem qzt (z1:ByteArray) (z2 z3 z4 z5 z6 z7 z8 z9 z10 z11 t year:Int) (h0:-1000000≤year) (h1:year≤1000000):Ok (qzu z1 z2 z3 z4 z5 z6 z7 z8 z9 z10 z11 t year) fun _=>True:=.via qzl (by
 unfold qzv
 refine qkj (qz5 _ _ _ _ _ _ _ _ _ _ _) fun _ _=>qkk (fun _=>qkm trivial) fun _=>?_
 rw [qy5 (x:=year - 1) (by omega) (by omega)]
 exact qkj (qzh t year _ _ _ _ _ _ _ _ _ _ _ h0 h1 3 _ _ _ _ (by omega) (by omega)) fun _ _=>qkm trivial)
theorem qyt (z1:ByteArray) (z2 z3 z4 z5 z6 z7 z8 z9 z10 z11 t:Int):Ok (qyu z1 z2 z3 z4 z5 z6 z7 z8 z9 z10 z11 t) fun _=>True:=.via qys (by
 unfold qyv
 refine qkj (q108 _ _ _ _ _ _ _ _ _ _ _) fun _ _=>qkj (qby _ _) fun _ _=>qkk (fun _=>qkm trivial) fun _=>?_
 refine qkj (qvu _) fun _ _=>qkk (fun _=>qkj (qc0 _ _) fun _ _=>qkm trivial) fun _=>?_
 refine qkj (q7k _ _) fun r3 _=>qkj (qby _ _) fun _ _=>qkk (fun _=>?_) fun _=>qkj (qc0 _ _) fun _ _=>qkm trivial
 refine qkj (q10d _ _ _) fun r5 h5=>qkk (fun _=>qkj (qc0 _ _) fun _ _=>qkm trivial) fun h6=>?_
 subst h5
 have h7:(decide (2≤r3.1.1)&&decide (r3.1.1≤3999))=true:=by simpa using h6
 simp at h7
 exact qkj (qzt _ _ _ _ _ _ _ _ _ _ _ _ _ (by omega) (by omega)) fun _ _=>qkj qkd fun _ _=>qkm trivial)
theorem qh4 (x:List C):∀ (l:List (List C)) (n:Nat),(∀ e∈l,∃ a,e=[.int .i64 a])→n<l.length→isP [K1.int IntKind.i64] 0 (l.getD n [])=true:=fun l n h hn=>by
 rw [qfo hn]
 obtain ⟨a,ha⟩:=h _ (List.getElem_mem hn)
 rw [ha]
 simp [isP,isE,isK]
theorem qau (l:List Int):∀ e∈qak.encL l,∃ a,e=[.int .i64 a]:=fun e he=>by
 obtain ⟨a,_,rfl⟩:=List.mem_map.1 he
 exact ⟨a,rfl⟩
theorem qya (n t50:Int) (c0:ByteArray) (c1 c2 c3 c4 c5 c6 c7 c8 c9 c10 d0 d1:Int) (b3:List Int) (h50:t50=b3.length) (h3:b3.length≤2):∀ (g k:Nat) (b2:List Int),k+g=b3.length→b2.length≤k→Ok (qyf n b2.length b3.length t50 k c0 c1 c2 c3 c4 c5 c6 c7 c8 c9 c10 d0 d1 b2 b3) fun r=>r.2.2.2.1.length≤2:=by
 intro g
 induction g with
 |zero =>
  intro k b2 hk hb
  refine .via qyh ?_
  unfold qyl
  rw [show decide ((k:Int)<t50)=false by simp;omega]
  refine qkl (EC.isL_encL _ _) (qkl (EC.isL_encL _ _) (qkm ?_))
  show (qak.decL (qak.encL b2)).length≤2
  rw [EC.decL_encL]
  omega
 |succ g ih =>
  intro k b2 hk hb
  refine .via qyh ?_
  unfold qyl
  rw [show decide ((k:Int)<t50)=true by simp;omega]
  refine qkl (by simp;omega) ?_
  refine qkl (by rw [qj1 _ _ (by simp;omega)];simp;omega) ?_
  refine qkl (qh4 [] _ _ (qau _) (by simp;omega)) ?_
  have hw:IntKind.i64.wrap ((k:Int)+1)=((k+1:Nat):Int):=qy6 (n:=2) (by omega) (by omega)
  rw [hw]
  refine qkj (qyt _ _ _ _ _ _ _ _ _ _ _ _) fun _ _=>qkj (qby _ _) fun _ _=>?_
  refine qkk (fun _=>qkk (fun _=>?_) fun _=>?_) fun _=>?_
  ·refine qkl ?_ ?_
   ·rw [q1l]
    have:(192+100)*8≤281474976710656:=by decide
    simp
    omega
   refine qkl (by rw [q1x];exact EC.isL_encL _ _) ?_
   refine qkl (EC.isL_encL _ _) ?_
   rw [q1x,EC.decL_encL,EC.decL_encL]
   have:=ih (k+1) (b2++[IntKind.i64.wrap (n - IntKind.i64.wrap (60*qgm (((qak.encL b3).getD (k:Int).toNat []).getD 0 .ne)))]) (by omega) (by simp;omega)
   rw [List.length_append] at this
   exact this
  ·refine qkl (EC.isL_encL _ _) (qkl (EC.isL_encL _ _) ?_)
   rw [EC.decL_encL,EC.decL_encL]
   exact ih (k+1) b2 (by omega) (by omega)
  ·refine qkl (EC.isL_encL _ _) (qkl (EC.isL_encL _ _) ?_)
   rw [EC.decL_encL,EC.decL_encL]
   exact ih (k+1) b2 (by omega) (by omega)
theorem qgn (l:List Int):(qak.encL l).all intB=true:=by
 rw [List.all_eq_true]
 intro e he
 obtain ⟨a,rfl⟩:=qau l e he
 rfl
theorem srt_is (l:List Int):qak.isL (srtL (qak.encL l))=true:=by
 show qak.isL (qak.encL (((qak.encL l).map intE).mergeSort leI))=true
 exact EC.isL_encL _ _
theorem qym (z1:ByteArray) (z2 z3 z4 z5 z6 z7 z8 z9 z10 z11 d1 d2 d3 d4 d5 d6 d7:Int):Ok (qyn z1 z2 z3 z4 z5 z6 z7 z8 z9 z10 z11 d1 d2 d3 d4 d5 d6 d7) fun _=>True:=.via qye (by
 unfold qyo
 refine qkj (q108 _ _ _ _ _ _ _ _ _ _ _) fun _ _=>qkj (qby _ _) fun _ _=>qkk (fun _=>qkm trivial) fun _=>?_
 refine qkj (q9q _ _ _ _ _ _ _) fun _ _=>qkj (qby _ _) fun _ _=>qkk (fun _=>qkm trivial) fun _=>?_
 refine qkk (fun _=>qkj (qc0 _ _) fun _ _=>qkm trivial) fun _=>?_
 refine qkj (q10d _ _ _) fun _ _=>qkk (fun _=>qkj (qc0 _ _) fun _ _=>qkm trivial) fun _=>?_
 refine qkj (qz5 _ _ _ _ _ _ _ _ _ _ _) fun _ _=>qkk (fun _=>?_) fun _=>?_
 ·have h:=qya
  refine qkj (h _ 2 z1 z2 z3 z4 z5 z6 z7 z8 z9 z10 z11 0 0 [z2,z3] rfl (Nat.le_refl 2) 2 0 [] rfl (Nat.le_refl 0)) fun r6 h6=>?_
  refine qkl (by rw [qgn,EC.encL_length];simp;omega) (qkj qkd fun _ _=>qkl (srt_is _) (qkm trivial))
 ·have h:=qya
  refine qkj (h _ 1 z1 z2 z3 z4 z5 z6 z7 z8 z9 z10 z11 0 0 [z2] rfl (Nat.le_succ 1) 1 0 [] rfl (Nat.le_refl 0)) fun r6 h6=>?_
  refine qkl (by rw [qgn,EC.encL_length];simp;omega) (qkj qkd fun _ _=>qkl (srt_is _) (qkm trivial)))
set_option maxRecDepth 100000
section
attribute [local irreducible] gdE
theorem qop (l:List Int) (at_ b0 b1:Int) (hl:l.length≤300):∀ (g k:Nat),k+g=l.length→Ok (qou l at_ l l.length k b0 b1) fun r=>∀ x,r=.inl x→x.2.1≠0:=by
 intro g
 induction g with
 |zero =>
  intro k hk
  refine .via qow ?_
  unfold qp1
  rw [show decide ((k:Int)<(l.length:Int))=false by simp;omega]
  exact qkl (EC.isL_encL _ _) (qkl (EC.isL_encL _ _) (qkm fun x h=>by cases h))
 |succ g ih =>
  intro k hk
  refine .via qow ?_
  unfold qp1
  rw [show decide ((k:Int)<(l.length:Int))=true by simp;omega,qy6 (n:=300) (by omega) (by omega)]
  refine qkl (by simp) (qkl (by rw [qgv];simp only [Bool.and_eq_true,decide_eq_true_eq,EC.encL_length,Int.toNat_natCast];omega) ?_)
  have ih':=ih (k+1) (by omega)
  refine qkj (qvu _) fun _ _=>qkk (fun _=>qkj (qc0 _ _) ?_) fun _=>qkk (fun h=>?_) fun _=>?_
  ·rintro _ rfl
   exact qkm fun x h=>by cases h;simp
  ·simp at h
   have hw:IntKind.i64.wrap ((k:Int) - 1)=((k - 1:Nat):Int):=by rw [qy5 (by omega) (by omega)];omega
   rw [hw]
   refine qkl (by simp) (qkl (by rw [qgv];simp only [Bool.and_eq_true,decide_eq_true_eq,EC.encL_length,Int.toNat_natCast];omega) ?_)
   refine qkk (fun _=>qkj (qc0 _ _) ?_) fun _=>?_
   ·rintro _ rfl
    exact qkm fun x h=>by cases h;simp
   ·refine qkl (EC.isL_encL _ _) (qkl (EC.isL_encL _ _) ?_)
    rw [EC.decL_encL]
    exact ih'
  ·refine qkl (EC.isL_encL _ _) (qkl (EC.isL_encL _ _) ?_)
   rw [EC.decL_encL]
   exact ih'
theorem qp2 (l:List Int) (at_:Int):Ok (qp3 l at_) fun r=>r.1=0→l.length≤300:=.via qot (by
 unfold qp4
 refine qkk (fun _=>qkj (qc0 _ _) ?_) fun h=>?_
 ·rintro _ rfl
  exact qkm fun h=>by simp at h
 ·have hl:l.length≤300:=by simp [EC.encL_length] at h;omega
  refine qkl (EC.isL_encL _ _) (qkl (EC.isL_encL _ _) ?_)
  rw [EC.decL_encL,EC.encL_length]
  refine qkj (qop l at_ 0 0 hl l.length 0 (by omega)) fun r _=>?_
  cases r with
  |inl x=>exact qkm fun _=>hl
  |inr x=>exact qkj qkd fun _ _=>qkm fun _=>hl)
theorem qq4 (l:List Int) (b0 b1 b2 b3:Int) (b4:Bool) (b6 b7:List Int) (c0 c1:Int) (hl:l.length≤9223372036854775807):∀ (g k:Nat),k+g=l.length→Ok (qq9 l l.length k b0 b1 b2 b3 b4 l b6 b7 c0 c1) fun _=>True:=by
 intro g
 induction g with
 |zero =>
  intro k hk
  refine .via qqb ?_
  unfold qqg
  rw [show decide ((k:Int)<(l.length:Int))=false by simp;omega]
  exact qkl (EC.isL_encL _ _) (qkl (EC.isL_encL _ _) (qkl (EC.isL_encL _ _) (qkl (EC.isL_encL _ _) (qkm trivial))))
 |succ g ih =>
  intro k hk
  refine .via qqb ?_
  unfold qqg
  rw [show decide ((k:Int)<(l.length:Int))=true by simp;omega,qy6 (n:=9223372036854775807) (by omega) (by omega)]
  refine qkl (by simp) (qkl (by rw [qgv];simp only [Bool.and_eq_true,decide_eq_true_eq,EC.encL_length,Int.toNat_natCast];omega) ?_)
  have ih':=ih (k+1) (by omega)
  have fin:Ok (gdE (qak.isL (qak.encL l))<| gdE (qak.isL (qak.encL l))<| gdE (qak.isL (qak.encL b6))<| gdE (qak.isL (qak.encL b7))<| qq9 (qak.decL (qak.encL l)) l.length ((k+1:Nat):Int) b0 b1 b2 b3 b4 (qak.decL (qak.encL l)) (qak.decL (qak.encL b6)) (qak.decL (qak.encL b7)) c0 c1) fun _=>True:=by
   refine qkl (EC.isL_encL _ _) (qkl (EC.isL_encL _ _) (qkl (EC.isL_encL _ _) (qkl (EC.isL_encL _ _) ?_)))
   simp only [EC.decL_encL]
   exact ih'
  refine qkk (fun _=>qkk (fun _=>qkj (qc0 _ _) fun _ _=>qkm trivial) fun _=>qkk (fun h=>?_) fun _=>fin) fun _=>qkj (qc0 _ _) fun _ _=>qkm trivial
  simp at h
  have hw:IntKind.i64.wrap ((k:Int) - 1)=((k - 1:Nat):Int):=by rw [qy5 (by omega) (by omega)];omega
  rw [hw]
  refine qkl (by simp) (qkl (by rw [qgv];simp only [Bool.and_eq_true,decide_eq_true_eq,EC.encL_length,Int.toNat_natCast];omega) ?_)
  exact qkk (fun _=>qkj (qc0 _ _) fun _ _=>qkm trivial) fun _=>fin
theorem qqh (b0 b1 b2 b3:Int) (b4:Bool) (l b6 b7:List Int) (hl:l.length≤9223372036854775807):Ok (qqi b0 b1 b2 b3 b4 l b6 b7) fun _=>True:=.via qq8 (by
 unfold qqj
 simp only [EC.encL_length]
 have fin:Ok (gdE (qak.isL (qak.encL l))<| gdE (qak.isL (qak.encL l))<| gdE (qak.isL (qak.encL b6))<| gdE (qak.isL (qak.encL b7))<| (qq9 (qak.decL (qak.encL l)) l.length 0 b0 b1 b2 b3 b4 (qak.decL (qak.encL l)) (qak.decL (qak.encL b6)) (qak.decL (qak.encL b7)) 0 0).bind fun r0=>Sum.elim (fun r1=>some (r1.2.1,r1.2.2)) (fun _=>q4z.bind fun r2=>some (r2.1,r2.2)) r0) fun _=>True:=by
  refine qkl (EC.isL_encL _ _) (qkl (EC.isL_encL _ _) (qkl (EC.isL_encL _ _) (qkl (EC.isL_encL _ _) ?_)))
  simp only [EC.decL_encL]
  refine qkj (qq4 l b0 b1 b2 b3 b4 b6 b7 0 0 hl l.length 0 (by omega)) fun r _=>?_
  cases r with
  |inl x=>exact qkm trivial
  |inr x=>exact qkj qkd fun _ _=>qkm trivial
 exact qkk (fun _=>qkk (fun _=>qkj (qc0 _ _) fun _ _=>qkm trivial) fun _=>fin) fun _=>fin)
theorem qq3 (b0 b1 b2 b3:Int) (b4:Bool) (l b6 b7:List Int) (hl:l.length≤9223372036854775807):Ok (rval_s b0 b1 b2 b3 b4 l b6 b7) fun r=>r.1=0→1≤b1∧b6.length≤300∧b7.length≤300:=.via qq2 (by
 unfold rval_t
 have bad:∀ (c a:Int),c≠0→Ok ((q4b c a).bind fun r0=>some (r0.1,r0.2)) fun r=>r.1=0→1≤b1∧b6.length≤300∧b7.length≤300:=by
  intro c a hc
  refine qkj (qc0 _ _) ?_
  rintro _ rfl
  exact qkm fun h=>absurd h hc
 refine qkk (fun _=>qkk (fun _=>bad _ _ (by decide)) fun _=>qkk (fun he=>qkk (fun _=>bad _ _ (by decide)) fun _=>qkk (fun _=>qkk (fun _=>bad _ _ (by decide)) fun _=>?_) fun _=>bad _ _ (by decide)) fun _=>bad _ _ (by decide)) fun _=>bad _ _ (by decide)
 have hE:1≤b1:=by simpa using he
 have fin:Ok (gdE (qak.isL (qak.encL l))<| gdE (qak.isL (qak.encL b6))<| gdE (qak.isL (qak.encL b7))<| (qqi b0 b1 b2 b3 b4 (qak.decL (qak.encL l)) (qak.decL (qak.encL b6)) (qak.decL (qak.encL b7))).bind fun r1=>(q45 r1.1 r1.2).bind fun r2=>brE r2 (some (r1.1,r1.2)) (gdE (qak.isL (qak.encL b6))<| (qp3 (qak.decL (qak.encL b6)) (-8)).bind fun r3=>(q45 r3.1 r3.2).bind fun r4=>brE r4 (some (r3.1,r3.2)) (gdE (qak.isL (qak.encL b7))<| (qp3 (qak.decL (qak.encL b7)) (-9)).bind fun r5=>some (r5.1,r5.2)))) fun r=>r.1=0→1≤b1∧b6.length≤300∧b7.length≤300:=by
  refine qkl (EC.isL_encL _ _) (qkl (EC.isL_encL _ _) (qkl (EC.isL_encL _ _) ?_))
  simp only [EC.decL_encL]
  refine qkj (qqh b0 b1 b2 b3 b4 l b6 b7 hl) fun r1 _=>qkj (qby _ _) ?_
  rintro _ rfl
  refine qkk (fun h=>qkm fun h0=>absurd h0 (by simpa using h)) fun _=>qkl (EC.isL_encL _ _) (qkj (qp2 b6 _) fun r3 h3=>qkj (qby _ _) ?_)
  rintro _ rfl
  refine qkk (fun h=>qkm fun h0=>absurd h0 (by simpa using h)) fun h=>qkl (EC.isL_encL _ _) (qkj (qp2 b7 _) fun r5 h5=>qkm fun h0=>⟨hE,h3 (bne0 h),h5 h0⟩)
 refine qkk (fun _=>qkj (qvu _) fun _ _=>qkk (fun _=>bad _ _ (by decide)) fun _=>qkk (fun _=>qkk (fun _=>bad _ _ (by decide)) fun _=>fin) fun _=>fin) fun _=>qkk (fun _=>qkk (fun _=>bad _ _ (by decide)) fun _=>fin) fun _=>fin)
theorem qs5 (l:List Int) (v:Int) (hl:l.length≤9223372036854775807):∀ (g k:Nat),k+g=l.length→Ok (qsp l v l.length k) fun _=>True:=by
 intro g
 induction g with
 |zero =>
  intro k hk
  refine .via qsr ?_
  unfold qsw
  rw [show decide ((k:Int)<(l.length:Int))=false by simp;omega]
  exact qkl (EC.isL_encL _ _) (qkm trivial)
 |succ g ih =>
  intro k hk
  refine .via qsr ?_
  unfold qsw
  rw [show decide ((k:Int)<(l.length:Int))=true by simp;omega,qy6 (n:=9223372036854775807) (by omega) (by omega)]
  refine qkl (by simp) (qkl (by rw [qgv];simp only [Bool.and_eq_true,decide_eq_true_eq,EC.encL_length,Int.toNat_natCast];omega) ?_)
  refine qkk (fun _=>qkm trivial) fun _=>qkl (EC.isL_encL _ _) ?_
  rw [EC.decL_encL]
  exact ih (k+1) (by omega)
theorem qs4 (l:List Int) (v:Int) (hl:l.length≤9223372036854775807):Ok (qsj l v) fun _=>True:=.via qsi (by
 unfold qsk
 refine qkl (EC.isL_encL _ _) (qkj (.via qso ?_) fun _ (_:True)=>qkm trivial)
 unfold qsy
 rw [EC.decL_encL]
 refine qkl (EC.isL_encL _ _) ?_
 rw [EC.decL_encL,EC.encL_length]
 refine qkj (qs5 l v hl l.length 0 (by omega)) fun r _=>?_
 cases r <;> exact qkm trivial)
theorem qcw (b0 b1 b2 b3:Int) (b4:Bool) (l b6 b7:List Int) (s1 s2 s3 s4 s5 s6 s7 d1 d2 d3 d4 d5 d6 d7 k:Int) (hl:l.length≤9223372036854775807) (he:1≤b1):Ok (fits_s b0 b1 b2 b3 b4 l b6 b7 s1 s2 s3 s4 s5 s6 s7 d1 d2 d3 d4 d5 d6 d7 k) fun _=>True:=.via qcv (by
 unfold fits_t
 have hb:(b1==0)=false:=by simp;omega
 simp only [hb,EC.encL_length,EC.decL_encL]
 have z:∀ {α:Type} (x:Option α),brE false none x=x:=fun _=>rfl
 simp only [z]
 repeat' (first
  |exact ⟨_,rfl,trivial⟩
  |(refine qkk ?_ ?_ <;> intro _)
  |refine qkl (EC.isL_encL _ _) ?_
  |(refine qkj (qxw _ _ _ _ _ _ _) ?_;intro _ _)
  |(refine qkj (qs4 l _ hl) ?_;intro _ _)))
theorem qsa (x:Int):Ok (qsb x) fun r=>r=false:=.via qs9 (qkm (by simp))
theorem q7y (x y:Int):Ok (q7z x y) fun r=>r=decide (x<y):=.via q7x (by
 unfold q80
 refine qkj (P:=fun r=>r=false) (.via q84 (qkm (by simp))) ?_
 rintro _ rfl
 exact qkm rfl)
theorem q5p (l:List Int) (v n:Int) (hl:l.length≤1000000):∀ (g i j:Nat),i≤j→j≤l.length→j - i≤g→Ok (bsI_l3 l v n i j) fun r=>r.1.1=l∧r.1.2.2.1=n∧∃ i2:Nat,r.1.2.2.2.1=i2∧i2≤l.length:=by
 intro g
 induction g with
 |zero =>
  intro i j h1 h2 h3
  refine .via q5r ?_
  unfold q5v
  rw [show decide ((i:Int)<(j:Int))=false by simp;omega]
  exact qkl (EC.isL_encL _ _) (qkm ⟨EC.decL_encL _ _,rfl,i,rfl,by omega⟩)
 |succ g ih =>
  intro i j h1 h2 h3
  refine .via q5r ?_
  unfold q5v
  refine qkk (fun h=>?_) fun _=>qkl (EC.isL_encL _ _) (qkm ⟨EC.decL_encL _ _,rfl,i,rfl,by omega⟩)
  simp at h
  have hh:IntKind.i64.wrap (Int.fdiv (IntKind.u64.wrap (IntKind.i64.wrap ((i:Int)+j))) ((2:Int) ^ (Min.min (Int.toNat 1) (IntKind.bits .u64))))=(((i+j) / 2:Nat):Int):=by
   rw [qy5 (x:=(i:Int)+j) (by omega) (by omega),IntWalk.u64_in _ (by omega)]
   have:((2:Int) ^ (Min.min (Int.toNat 1) (IntKind.bits .u64)))=2:=by decide
   rw [this,Int.fdiv_eq_ediv_of_nonneg _ (by decide),qy5 (x:=((i:Int)+j) / 2) (by omega) (by omega)]
   omega
  rw [hh]
  refine qkl (by simp;omega) (qkl (by rw [qgv];simp only [Bool.and_eq_true,decide_eq_true_eq,EC.encL_length,Int.toNat_natCast];omega) ?_)
  refine qkj (q7y _ _) fun _ _=>qkk (fun _=>qkl (EC.isL_encL _ _) ?_) fun _=>qkl (EC.isL_encL _ _) ?_
  ·rw [EC.decL_encL,qy6 (n:=1000000) (by omega) (by omega)]
   exact ih _ _ (by omega) (by omega) (by omega)
  ·rw [EC.decL_encL]
   exact ih _ _ (by omega) (by omega) (by omega)
theorem bsI_ok (l:List Int) (v:Int) (hl:l.length≤1000000):Ok (bsI_s l v) fun _=>True:=.via bsI_eq (by
 unfold bsI_t
 refine qkl (EC.isL_encL _ _) ?_
 rw [EC.decL_encL,EC.encL_length]
 refine qkj (q5p l v l.length hl l.length 0 l.length (by omega) (by omega) (by omega)) ?_
 rintro ⟨⟨x,v',n,i,j,q⟩,u⟩ ⟨h1,h2,i2,h3,hi⟩
 dsimp only at h1 h2 h3 hi ⊢
 subst h3 h1
 rw [h2]
 refine qkk (fun h=>?_) fun _=>qkm trivial
 simp at h
 have g1:decide ((0:Int)≤(i2:Int))=true:=by simp
 have g2:(decide (((i2:Int)).toNat<(qak.encL x).length)&&isE [.int .i64] 0 ((qak.encL x).getD ((i2:Int)).toNat []))=true:=by
  rw [qgv];simp only [Bool.and_eq_true,decide_eq_true_eq,EC.encL_length,Int.toNat_natCast];omega
 refine qkl g1 (qkl g2 (qkk (fun _=>qkl g1 (qkl g2 (qkj (qsa _) ?_))) fun _=>qkm trivial))
 rintro _ rfl
 exact qkm trivial)
end
end Go.Proofs.Ytjlkjiifkganoaa
