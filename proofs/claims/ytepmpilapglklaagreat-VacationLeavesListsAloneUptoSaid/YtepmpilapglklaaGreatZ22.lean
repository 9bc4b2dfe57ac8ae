/- Functions of the program as plain functions: made by program from the machine. -/
import Derived.Test.YtepmpilapglklaaGreatH2
namespace Go.Proofs.YtepmpilapglklaaGreat
open Go.RowKit
set_option maxRecDepth 100000
noncomputable section
def q1n7:=(qah (vC (cSl q1dj)) (qaj (vC (cSl q1dj))))
def q1nh:=sLS [0,1,5] (qah (vC (cSl q1dj)) (qah (vC (cSl q1dj)) (qaj (vC (cInt .i64))))) qai [] [] (by decide) (fun _=>rfl)
def q1ng:=sLS [0,1,5,14] (qah (vC (cSl q1dj)) (qah (vC (cSl q1dj)) (qah (vC (cInt .i64)) (qaj (vC cBool))))) qai [] [] (by decide) (fun _=>rfl)
def q1nf:=sLS [4] (qaj (vC cBool)) qai [] [] (by decide) (fun _=>rfl)
def q1ne:=oOr 1 q1nf (oAt 2 q1ng) (fun x=>(by decide:(2:Nat)≠1))
def q1nb (a:(List S44)) (b:(List S44)) (i:Int):Option ((Bool×Unit)⊕(((List S44)×(List S44)×Int×Bool)×Unit)):=lS Tryz.prog lv X0 21 26 (q8l (cdF Tryz.f21) 4) q1nh q1ne ((a,b,i),())
def q1ni (a:(List S44)) (b:(List S44)) (i:Int):Option ((Bool×Unit)⊕(((List S44)×(List S44)×Int×Bool)×Unit)) :=
 (brE (decide (i<(List.length (EC.encL q1dj a):Int)))
 (gdE (decide (0≤i))<|
 (gdE ((decide ((Int.toNat i)<(List.length (EC.encL q1dj a))))&&(isE [K1.str,(K1.int Go.IntKind.i64)] 0 (List.getD (EC.encL q1dj a) (Int.toNat i) [])))<|
 (gdE (decide (0≤i))<|
 (gdE ((decide ((Int.toNat i)<(List.length (EC.encL q1dj b))))&&(isE [K1.str,(K1.int Go.IntKind.i64)] 0 (List.getD (EC.encL q1dj b) (Int.toNat i) [])))<|
 (brE (!(((qss (List.getD (List.getD (EC.encL q1dj a) (Int.toNat i) []) 0 C.ne))==(qss (List.getD (List.getD (EC.encL q1dj b) (Int.toNat i) []) 0 C.ne)))&&(((q9n (List.getD (List.getD (EC.encL q1dj a) (Int.toNat i) []) 1 C.ne))==(q9n (List.getD (List.getD (EC.encL q1dj b) (Int.toNat i) []) 1 C.ne)))&&true)))
 (some (.inl (false,())))
 (gdE (EC.isL q1dj (EC.encL q1dj a))<|
 (gdE (EC.isL q1dj (EC.encL q1dj b))<|
 (q1nb (EC.decL q1dj (EC.encL q1dj a)) (EC.decL q1dj (EC.encL q1dj b)) (IntKind.wrap .i64 (i+1))))))))))
 (gdE (EC.isL q1dj (EC.encL q1dj a))<|
 (gdE (EC.isL q1dj (EC.encL q1dj b))<|
 (some (.inr (((EC.decL q1dj (EC.encL q1dj a)),((EC.decL q1dj (EC.encL q1dj b)),(i,false))),()))))))
theorem q1nd {a b i r} (h:q1ni a b i=some r):q1nb a b i=some r :=
 qal (es:=q1rg) (hs:=[]) [] (by kernel_rfl) trivial trivial (by kernel_rfl) h
def q1nc:=qb9 Tryz.prog lv X0 4 (q8l (cdF Tryz.f21) 4) q1nh q1ne (fun x=>q1nb x.1.1 x.1.2.1 x.1.2.2) (fun _ _ h=>qak h)
def q1n8:Cod (V×List B) Bool:=(cFstU (cPair (vC cBool) qai))
def q1nj (a:(List S44)) (b:(List S44)):Option Bool:=fS Tryz.prog lv X0 21 q1n7 q1n8 (a,b)
def q1nk (a:(List S44)) (b:(List S44)):Option Bool :=
 (brE ((List.length (EC.encL q1dj a):Int) != (List.length (EC.encL q1dj b):Int))
 (some false)
 (gdE (EC.isL q1dj (EC.encL q1dj a))<|
 (gdE (EC.isL q1dj (EC.encL q1dj b))<|
 ((q1nb (EC.decL q1dj (EC.encL q1dj a)) (EC.decL q1dj (EC.encL q1dj b)) 0).bind fun r0 =>
 (Sum.elim (fun r1=>(some r1.1))
 (fun r1=>(some true)) r0)))))
theorem q1na {a b r} (h:q1nk a b=some r):q1nj a b=some r :=
 q6x (es:=q1rg) (hs:=[]) [q1nc] Tryz.func21 rfl (by kernel_rfl) rfl (by kernel_rfl) (by kernel_rfl) ⟨⟨_,rfl,rfl⟩,trivial⟩ trivial (by kernel_rfl) h
def q1n9:=entS Tryz.prog lv X0 21 [] q1n7 q1n8 (fun x=>q1nj x.1 x.2) (fun _ _ h=>q6w h)
def q1r6:=q1n9::q1rg
end
end Go.Proofs.YtepmpilapglklaaGreat
namespace Go.Proofs.YtepmpilapglklaaGreat
open Go.RowKit
theorem q3l {β:Type} (q:Bool) (a b:Option β):brE q a b=if q=true then a else b:=by cases q <;> rfl
theorem q8h {β:Type} (q:Bool) (a:Option β):gdE q a=if q=true then a else none:=by cases q <;> rfl
theorem beq_t (q:Bool):(q==true)=q:=by cases q <;> rfl
theorem q17c {τ:Type} (e:EC τ) (xs:List τ) (n:Nat):(e.encL xs).take n=e.encL (xs.take n):=by simp [EC.encL,List.map_take]
theorem q17a {τ:Type} (e:EC τ) (xs:List τ) (n:Nat):(e.encL xs).drop n=e.encL (xs.drop n):=by simp [EC.encL,List.map_drop]
theorem q17b {τ:Type} (e:EC τ):e.decL []=[]:=rfl
theorem q1u2 {k n:Nat} (h:k<n) (hn:n≤9223372036854775807):IntKind.i64.wrap ((k:Int)+1)=((k+1:Nat):Int):=by rw [IntWalk.i64_in _ (by omega)];rfl
theorem q8k {α:Type} {l:List α} {k:Nat} {d:α} (h:k<l.length):l.getD k d=l[k]:=by simp [List.getD_eq_getElem?_getD,h]
theorem q5h {α:Type} {l:List α} {k:Nat} (h:k<l.length):l.drop k=l[k]::l.drop (k+1):=List.drop_eq_getElem_cons h
theorem wrap8 {n:Int} (h0:0≤n) (h1:n<256):IntKind.u8.wrap n=n:=IntWalk.u8_in n (by omega)
theorem q72 (a b:Int):q32 a b=some (a,b):=q31 rfl
theorem none_s:q38=some (0,0):=q37 rfl
def nb (b:UInt8):Int:=(b.toNat:Int)
def ints (s:ByteArray):List Int:=s.data.toList.map nb
theorem q1k9 (s:ByteArray):(ints s).length=s.size:=by rw [ints,List.length_map,Array.length_toList];rfl
theorem q1c8 (s:ByteArray):bytesL s=q5j.encL (ints s):=by
 show s.data.toList.map _=(s.data.toList.map nb).map q5j.enc
 rw [List.map_map];rfl
def ub (n:Int):UInt8:=UInt8.ofNat n.toNat
theorem q1c7 (xs:List Int):bytesOf (q5j.encL xs)=some (xs.map ub):=by
 induction xs with
 |nil=>rfl
 |cons x xs ih =>
  have:q5j.encL (x::xs)=[.int .u8 x]::q5j.encL xs:=rfl
  rw [this,bytesOf,ih];rfl
def lowI (c:Int):Int:=if 65≤c∧c≤90 then c+32 else c
def lowB (b:UInt8):UInt8:=ub (lowI (nb b))
def lowL (l:List UInt8):List UInt8:=l.map lowB
def lowS (s:ByteArray):ByteArray:=⟨(lowL s.data.toList).toArray⟩
theorem isP_5 (xs:List Int) (n:Nat) (h:n<xs.length):isP [.int .u8] 0 ((q5j.encL xs).getD n [])=true:=by
 rw [EC.getD_lt _ _ h];rfl
theorem q1l8 (n:Nat) (hn:n≤9223372036854775807):∀ (m k:Nat) (xs:List Int),k+m=n→xs.length=n→∃ r,q1aw n n n k xs=some r∧r.2=xs.take k++(xs.drop k).map lowI:=by
 intro m
 induction m with
 |zero =>
  intro k xs hk hl
  have hk:k=n:=by omega
  subst hk
  refine ⟨((k,k,(k:Int),(k:Int),false),xs),q1ay (by
   simp only [q1b2,q3l,q8h,EC.decL_encL,EC.isL_encL,EC.encL_length,at_5_0,q1oa]
   simp),?_⟩
  rw [←hl];simp
 |succ m ih =>
  intro k xs hk hl
  have hlt:k<xs.length:=by omega
  have hkn:k<n:=by omega
  have hk':(k:Int)<(n:Int):=by omega
  by_cases hp:65≤xs[k]∧xs[k]≤90
  ·obtain ⟨r,hr,hv⟩:=ih (k+1) (xs.set k (xs[k]+32)) (by omega) (by simpa using hl)
   refine ⟨r,q1ay ?_,?_⟩
   ·have w1:IntKind.u8.wrap (IntKind.u8.wrap (xs[k]+97) - 65)=xs[k]+32:=by rw [wrap8 (n:=xs[k]+97) (by omega) (by omega),wrap8 (by omega) (by omega)];omega
    simp only [q1b2,q3l,q8h,EC.decL_encL,EC.isL_encL,EC.encL_length,at_5_0,q1oa,Int.toNat_natCast,q8k hlt,isP_5 xs k hlt,len_5 xs k hlt,w1,q1u2 hkn hn,hr]
    simp [hlt,hk',hp]
   ·have hlo:lowI xs[k]=xs[k]+32:=by simp [lowI,hp]
    rw [hv,q5h hlt,List.map_cons,hlo]
    apply List.ext_getElem?
    intro i
    rcases Nat.lt_trichotomy i k with h|h|h
    ·rw [List.getElem?_append_left (by simp;omega),List.getElem?_append_left (by simp;omega),List.getElem?_take_of_lt (by omega),List.getElem?_take_of_lt h,List.getElem?_set_ne (by omega)]
    ·subst h
     rw [List.getElem?_append_left (by simp;omega),List.getElem?_append_right (by simp;omega),List.getElem?_take_of_lt (by omega),List.getElem?_set_self hlt]
     simp [Nat.min_eq_left (Nat.le_of_lt hlt)]
    ·rw [List.getElem?_append_right (by simp;omega),List.getElem?_append_right (by simp;omega)]
     obtain ⟨q,rfl⟩:∃ q,i=k+1+q:=⟨i - (k+1),by omega⟩
     simp only [List.length_take,List.length_set,Nat.min_eq_left (Nat.le_of_lt hlt),Nat.min_eq_left (show k+1≤xs.length from hlt)]
     rw [show k+1+q - (k+1)=q by omega,show k+1+q - k=q+1 by omega,List.getElem?_cons_succ]
     simp only [List.getElem?_map,List.getElem?_drop]
     rw [List.getElem?_set_ne (by omega)]
  ·obtain ⟨r,hr,hv⟩:=ih (k+1) xs (by omega) hl
   refine ⟨r,q1ay ?_,?_⟩
   ·simp only [q1b2,q3l,q8h,EC.decL_encL,EC.isL_encL,EC.encL_length,at_5_0,q1oa,Int.toNat_natCast,q8k hlt,isP_5 xs k hlt,len_5 xs k hlt,q1u2 hkn hn,hr]
    by_cases h1:65≤xs[k]
    ·have h2:¬ xs[k]≤90:=fun h=>hp ⟨h1,h⟩
     simp [hlt,hk',h1,h2]
    ·simp [hlt,hk',h1]
   ·rw [hv,q5h hlt,List.map_cons]
    have:lowI xs[k]=xs[k]:=by simp only [lowI,hp,if_false]
    rw [this,List.take_succ_eq_append_getElem hlt,List.append_assoc]
    rfl
theorem q1l9 (s:ByteArray) (hs:s.size≤9223372036854775807):q1b3 s=some (lowS s):=by
 by_cases h0:s.size=0
 ·have:s=⟨#[]⟩:=by
   cases s with|mk d=>
   have:d=#[]:=by simpa [ByteArray.size] using h0
   rw [this]
  subst this
  exact fS_of (r:=(⟨#[]⟩:ByteArray)) (qd (n:=200) (by kernel_rfl))
 ·obtain ⟨r,hr,hv⟩:=q1l8 s.size hs s.size 0 (ints s) (by omega) (q1k9 s)
  refine q1av ?_
  simp only [q1b4,q8h,q1c8,EC.decL_encL,EC.isL_encL]
  have hr':q1aw s.size s.size (s.size:Int) (0:Int) (ints s)=some r:=hr
  have h0':(s.size==0)=false:=by simpa using h0
  simp only [hs,h0',hr',q1c7,decide_true,Option.bind_some,Bool.not_false,Bool.and_self,if_true,hv,List.take_zero,List.drop_zero,List.nil_append]
  congr 3
  simp only [lowL,ints,List.map_map]
  rfl
def L (s:ByteArray):List UInt8:=s.data.toList
theorem q17d (s:ByteArray):(L s).length=s.size:=by rw [L,Array.length_toList];rfl
theorem q19x (s:ByteArray) {k:Nat} (h:k<(L s).length):((UInt8.toNat (Array.getD s.data k (0:UInt8)):Nat):Int)=nb (L s)[k]:=by
 have:k<s.data.size:=by rw [q17d] at h;exact h
 have e:s.data.getD k 0=(L s)[k]:=by unfold Array.getD;rw [dif_pos this];rfl
 rw [e];rfl
theorem L_low (s:ByteArray):L (lowS s)=lowL (L s):=by simp [L,lowS]
theorem L_ext (s:ByteArray) (i j:Nat):L (s.extract i j)=((L s).drop i).take (j - i):=by simp [L,List.extract_eq_take_drop]
theorem q1rq (s:ByteArray):s.toList=L s:=ByteArray.toList_eq s
theorem same_s (a b:ByteArray) (ha:a.size≤9223372036854775807) (hb:b.size≤9223372036854775807):q1bl a b=some (lowL (L a)==lowL (L b)):=q1bk (by
 have e:(L (lowS a)==L (lowS b))=(lowL (L a)==lowL (L b)):=by rw [L_low,L_low]
 by_cases h:a.size=b.size
 ·have h':((a.size:Int)==(b.size:Int))=true:=by simp [h]
  simp only [q1bm,q3l,h',q1l9 a ha,q1l9 b hb,q1rq,e,beq_self_eq_true,if_true,Option.bind_some]
 ·have h':¬ (a.size:Int)=(b.size:Int):=by omega
  have:(lowL (L a)==lowL (L b))=false:=by
   simp only [beq_eq_false_iff_ne,ne_eq]
   intro hh
   have:=congrArg List.length hh
   simp [lowL] at this
   apply h
   rw [←q17d,←q17d];simpa using this
  simp [q1bm,q3l,h',this])
theorem q1v5 (b:UInt8):0≤nb b∧nb b<256:=by have:=b.toNat_lt;unfold nb;omega
theorem q1l6 {c:Int} (h0:0≤c) (h1:c<256):0≤lowI c∧lowI c<256:=by unfold lowI;split <;> omega
theorem qvs {n:Int} (h:-9223372036854775808≤n∧n≤9223372036854775807):IntKind.i64.wrap n=n:=IntWalk.i64_in n h
theorem q71 (a b:Int):q2w a b=some (a != 0):=by
 refine q2v ?_
 simp [q2x]
def em (s:ByteArray):Bool:=(ByteArray.toList s)==(ByteArray.toList (ByteArray.mk (List.toArray [])))
theorem qwb (s:ByteArray):((ByteArray.toList s)==(ByteArray.toList (ByteArray.mk (List.toArray []))))=em s:=rfl
theorem q5p (s:ByteArray):em s=decide (s.size=0):=by
 have e0:ByteArray.toList (ByteArray.mk (List.toArray []))=[]:=by rw [ByteArray.toList_eq]
 have hl:(ByteArray.toList s).length=s.size:=by rw [ByteArray.toList_eq,Array.length_toList];rfl
 unfold em
 rw [e0]
 cases h:ByteArray.toList s with
 |nil=>rw [h] at hl;simp at hl;simp [←hl]
 |cons x l =>
  rw [h] at hl
  simp only [List.length_cons] at hl
  have h0:s.size≠0:=by omega
  simp [h0]
def Ok {α:Type} (o:Option α) (Q:α→Prop):Prop:=∃ r,o=some r∧Q r
theorem q1mo {α:Type} {x:α} {Q:α→Prop} (h:Q x):Ok (some x) Q:=⟨x,rfl,h⟩
theorem Ok.mono {α:Type} {o:Option α} {Q R:α→Prop} (h:Ok o Q) (k:∀ r,Q r→R r):Ok o R:=by obtain ⟨r,e,q⟩:=h;exact ⟨r,e,k r q⟩
theorem Ok.via {α:Type} {t s:Option α} {Q:α→Prop} (e:∀ {r},t=some r→s=some r) (h:Ok t Q):Ok s Q:=by obtain ⟨r,e1,q⟩:=h;exact ⟨r,e e1,q⟩
theorem q1ml {α:Type} {q:Bool} {a b:Option α} {Q:α→Prop} (h1:q=true→Ok a Q) (h2:q=false→Ok b Q):Ok (brE q a b) Q:=by
 cases q with
 |true=>exact h1 rfl
 |false=>exact h2 rfl
theorem q1mn {α:Type} {q:Bool} {a:Option α} {Q:α→Prop} (hq:q=true) (h:Ok a Q):Ok (gdE q a) Q:=by subst hq;exact h
theorem q1mk {α β:Type} {o:Option α} {f:α→Option β} {P:α→Prop} {Q:β→Prop} (h:Ok o P) (k:∀ r,P r→Ok (f r) Q):Ok (o.bind f) Q:=by
 obtain ⟨r,rfl,p⟩:=h
 exact k r p
theorem q1mm {α:Type} {o:Option α} {x:α} (h:o=some x):Ok o fun r=>r=x:=⟨x,h,rfl⟩
theorem q1hx {o:Option Bool} (h:Ok o fun _=>True):o=some (o.getD false):=by obtain ⟨r,rfl,_⟩:=h;rfl
theorem q1fg (a b:Int):Ok (q32 a b) fun r=>r=(a,b):=⟨_,q72 a b,rfl⟩
theorem q1mh:Ok q38 fun r=>r=(0,0):=⟨_,none_s,rfl⟩
theorem q1kv (c:Int):Ok (q1aq c) fun _=>True:=.via q1ap (by
 unfold q1ar
 repeat' (first
  |exact ⟨_,rfl,trivial⟩
  |(refine q1ml ?_ ?_ <;> intro _)
  |(refine q1mk (q1fg _ _) ?_;intro _ _)
  |(refine q1mk q1mh ?_;intro _ _)))
theorem q1bv (c:Int):Ok (q1a6 c) fun r=>c=32→r=true:=.via q1a5 (by
 unfold q1a7
 refine q1ml (fun h=>q1mo fun h1=>?_) (fun _=>q1mo fun _=>rfl)
 subst h1
 cases h)
theorem q1mc (c:Int):Ok (q1b9 c) fun _=>True:=.via q1b8 (by
 unfold q1ba
 repeat' (first
  |exact ⟨_,rfl,trivial⟩
  |(refine q1ml ?_ ?_ <;> intro _)
  |(refine q1mk (q1fg _ _) ?_;intro _ _)
  |(refine q1mk q1mh ?_;intro _ _)
  |(refine q1mk (q1kv _) ?_;intro _ _)))
theorem q1dd (c:Int):Ok (q1e0 c) fun _=>True:=.via q1dz (by
 unfold q1e1
 repeat' (first
  |exact ⟨_,rfl,trivial⟩
  |(refine q1ml ?_ ?_ <;> intro _)
  |(refine q1mk (q1fg _ _) ?_;intro _ _)
  |(refine q1mk q1mh ?_;intro _ _)))
theorem q1kc (s:ByteArray) (c:Int):Ok (ixbP s c) fun _=>True:=⟨_,rfl,trivial⟩
theorem q1l1 (c:Int):Ok (q1ew c) fun _=>True:=.via q1ev (by
 unfold q1ex
 repeat' (first
  |exact ⟨_,rfl,trivial⟩
  |(refine q1ml ?_ ?_ <;> intro _)
  |(refine q1mk (q1fg _ _) ?_;intro _ _)
  |(refine q1mk q1mh ?_;intro _ _)
  |(refine q1mk (q1kv _) ?_;intro _ _)
  |(refine q1mk (q1kc _ _) ?_;intro _ _)))
def fnB (c:Int):Bool:=decide (c≥33)&&(decide (c≤126)&&c != 58)
theorem fnC_s (c:Int):q1gn c=some (fnB c):=q1gm (by
 simp only [q1go,q3l,fnB]
 cases decide (c≥33) <;> cases decide (c≤126) <;> rfl)
noncomputable def q19f (b:UInt8):Bool:=(fun b=>(q1b9 (nb b)).getD false) b
theorem q19e (s:ByteArray) (hs:s.size≤9223372036854775807):∀ m k:Nat,k+m=s.size→∃ x,q196 s s.size k=some x∧Sum.elim (fun r=>r.1) (fun _=>true) x=((L s).drop k).all q19f:=by
 intro m
 induction m with
 |zero =>
  intro k hk
  refine ⟨.inr ((s,((),((s.size:Int),((k:Int),false)))),()),q198 (by
   simp only [q19d,q3l]
   rw [if_neg (by simp;omega)]),?_⟩
  rw [List.drop_eq_nil_of_le (by rw [q17d];omega)];rfl
 |succ m ih =>
  intro k hk
  have hlt:k<(L s).length:=by rw [q17d];omega
  have e1:decide ((k:Int)<(s.size:Int))=true:=by simp;omega
  have e0:decide ((0:Int)≤(k:Int))=true:=by simp
  have e2:IntKind.i64.wrap ((k:Int)+1)=((k+1:Nat):Int):=q1u2 (n:=s.size) (by omega) hs
  have e3:decide (k<s.size)=true:=by simp;omega
  have hc:q1b9 (nb (L s)[k])=some (q19f (L s)[k]):=q1hx (q1mc _)
  rw [q5h hlt,List.all_cons]
  cases hp:q19f (L s)[k] with
  |false =>
   rw [hp] at hc
   refine ⟨.inl (false,()),q198 ?_,rfl⟩
   simp only [q19d,q3l,q8h,e1,e0,e3,if_true,Int.toNat_natCast,Bool.and_self,q19x s hlt,hc,Option.bind_some,Bool.not_false]
  |true =>
   rw [hp] at hc
   obtain ⟨x,h1,h2⟩:=ih (k+1) (by omega)
   refine ⟨x,q198 ?_,by rw [Bool.true_and];exact h2⟩
   simp only [q19d,q3l,q8h,e1,e0,e3,if_true,Int.toNat_natCast,Bool.and_self,q19x s hlt,hc,Option.bind_some,Bool.not_true,Bool.false_eq_true,if_false,e2]
   exact h1
theorem q19h (s:ByteArray) (hs:s.size≤9223372036854775807):q19g s=some ((L s).all q19f):=by
 obtain ⟨x,h1,h2⟩:=q19e s hs s.size 0 (by omega)
 rw [List.drop_zero] at h2
 have h1:q196 s s.size 0=some x:=h1
 refine q195 ?_
 simp only [q19i,h1,Option.bind_some,←h2]
 rcases x with x|x <;> rfl
noncomputable def q18g (b:UInt8):Bool:=(fun b=>fnB (nb b)) b
theorem q18f (s:ByteArray) (hs:s.size≤9223372036854775807):∀ m k:Nat,k+m=s.size→∃ x,q187 s s.size k=some x∧Sum.elim (fun r=>r.1) (fun _=>true) x=((L s).drop k).all q18g:=by
 intro m
 induction m with
 |zero =>
  intro k hk
  refine ⟨.inr ((s,((),((s.size:Int),((k:Int),false)))),()),q189 (by
   simp only [q18e,q3l]
   rw [if_neg (by simp;omega)]),?_⟩
  rw [List.drop_eq_nil_of_le (by rw [q17d];omega)];rfl
 |succ m ih =>
  intro k hk
  have hlt:k<(L s).length:=by rw [q17d];omega
  have e1:decide ((k:Int)<(s.size:Int))=true:=by simp;omega
  have e0:decide ((0:Int)≤(k:Int))=true:=by simp
  have e2:IntKind.i64.wrap ((k:Int)+1)=((k+1:Nat):Int):=q1u2 (n:=s.size) (by omega) hs
  have e3:decide (k<s.size)=true:=by simp;omega
  have hc:q1gn (nb (L s)[k])=some (q18g (L s)[k]):=fnC_s _
  rw [q5h hlt,List.all_cons]
  cases hp:q18g (L s)[k] with
  |false =>
   rw [hp] at hc
   refine ⟨.inl (false,()),q189 ?_,rfl⟩
   simp only [q18e,q3l,q8h,e1,e0,e3,if_true,Int.toNat_natCast,Bool.and_self,q19x s hlt,hc,Option.bind_some,Bool.not_false]
  |true =>
   rw [hp] at hc
   obtain ⟨x,h1,h2⟩:=ih (k+1) (by omega)
   refine ⟨x,q189 ?_,by rw [Bool.true_and];exact h2⟩
   simp only [q18e,q3l,q8h,e1,e0,e3,if_true,Int.toNat_natCast,Bool.and_self,q19x s hlt,hc,Option.bind_some,Bool.not_true,Bool.false_eq_true,if_false,e2]
   exact h1
theorem q18i (s:ByteArray) (hs:s.size≤9223372036854775807):q18h s=some ((L s).all q18g):=by
 obtain ⟨x,h1,h2⟩:=q18f s hs s.size 0 (by omega)
 rw [List.drop_zero] at h2
 have h1:q187 s s.size 0=some x:=h1
 refine q186 ?_
 simp only [q18j,h1,Option.bind_some,←h2]
 rcases x with x|x <;> rfl
noncomputable def q17y (b:UInt8):Bool:=(fun b=>(q1e0 (nb b)).getD false) b
theorem q17x (s:ByteArray) (hs:s.size≤9223372036854775807):∀ m k:Nat,k+m=s.size→∃ x,q17p s s.size k=some x∧Sum.elim (fun r=>r.1) (fun _=>true) x=((L s).drop k).all q17y:=by
 intro m
 induction m with
 |zero =>
  intro k hk
  refine ⟨.inr ((s,((),((s.size:Int),((k:Int),false)))),()),q17r (by
   simp only [q17w,q3l]
   rw [if_neg (by simp;omega)]),?_⟩
  rw [List.drop_eq_nil_of_le (by rw [q17d];omega)];rfl
 |succ m ih =>
  intro k hk
  have hlt:k<(L s).length:=by rw [q17d];omega
  have e1:decide ((k:Int)<(s.size:Int))=true:=by simp;omega
  have e0:decide ((0:Int)≤(k:Int))=true:=by simp
  have e2:IntKind.i64.wrap ((k:Int)+1)=((k+1:Nat):Int):=q1u2 (n:=s.size) (by omega) hs
  have e3:decide (k<s.size)=true:=by simp;omega
  have hc:q1e0 (nb (L s)[k])=some (q17y (L s)[k]):=q1hx (q1dd _)
  rw [q5h hlt,List.all_cons]
  cases hp:q17y (L s)[k] with
  |false =>
   rw [hp] at hc
   refine ⟨.inl (false,()),q17r ?_,rfl⟩
   simp only [q17w,q3l,q8h,e1,e0,e3,if_true,Int.toNat_natCast,Bool.and_self,q19x s hlt,hc,Option.bind_some,Bool.not_false]
  |true =>
   rw [hp] at hc
   obtain ⟨x,h1,h2⟩:=ih (k+1) (by omega)
   refine ⟨x,q17r ?_,by rw [Bool.true_and];exact h2⟩
   simp only [q17w,q3l,q8h,e1,e0,e3,if_true,Int.toNat_natCast,Bool.and_self,q19x s hlt,hc,Option.bind_some,Bool.not_true,Bool.false_eq_true,if_false,e2]
   exact h1
theorem q180 (s:ByteArray) (hs:s.size≤9223372036854775807):q17z s=some ((L s).all q17y):=by
 obtain ⟨x,h1,h2⟩:=q17x s hs s.size 0 (by omega)
 rw [List.drop_zero] at h2
 have h1:q17p s s.size 0=some x:=h1
 refine q17o ?_
 simp only [q181,h1,Option.bind_some,←h2]
 rcases x with x|x <;> rfl
noncomputable def q18x (b:UInt8):Bool:=(fun b=>(q1ew (nb b)).getD false) b
theorem q18w (s:ByteArray) (hs:s.size≤9223372036854775807):∀ m k:Nat,k+m=s.size→∃ x,q18o s s.size k=some x∧Sum.elim (fun r=>r.1) (fun _=>true) x=((L s).drop k).all q18x:=by
 intro m
 induction m with
 |zero =>
  intro k hk
  refine ⟨.inr ((s,((),((s.size:Int),((k:Int),false)))),()),q18q (by
   simp only [q18v,q3l]
   rw [if_neg (by simp;omega)]),?_⟩
  rw [List.drop_eq_nil_of_le (by rw [q17d];omega)];rfl
 |succ m ih =>
  intro k hk
  have hlt:k<(L s).length:=by rw [q17d];omega
  have e1:decide ((k:Int)<(s.size:Int))=true:=by simp;omega
  have e0:decide ((0:Int)≤(k:Int))=true:=by simp
  have e2:IntKind.i64.wrap ((k:Int)+1)=((k+1:Nat):Int):=q1u2 (n:=s.size) (by omega) hs
  have e3:decide (k<s.size)=true:=by simp;omega
  have hc:q1ew (nb (L s)[k])=some (q18x (L s)[k]):=q1hx (q1l1 _)
  rw [q5h hlt,List.all_cons]
  cases hp:q18x (L s)[k] with
  |false =>
   rw [hp] at hc
   refine ⟨.inl (false,()),q18q ?_,rfl⟩
   simp only [q18v,q3l,q8h,e1,e0,e3,if_true,Int.toNat_natCast,Bool.and_self,q19x s hlt,hc,Option.bind_some,Bool.not_false]
  |true =>
   rw [hp] at hc
   obtain ⟨x,h1,h2⟩:=ih (k+1) (by omega)
   refine ⟨x,q18q ?_,by rw [Bool.true_and];exact h2⟩
   simp only [q18v,q3l,q8h,e1,e0,e3,if_true,Int.toNat_natCast,Bool.and_self,q19x s hlt,hc,Option.bind_some,Bool.not_true,Bool.false_eq_true,if_false,e2]
   exact h1
theorem q18z (s:ByteArray) (hs:s.size≤9223372036854775807):q18y s=some ((L s).all q18x):=by
 obtain ⟨x,h1,h2⟩:=q18w s hs s.size 0 (by omega)
 rw [List.drop_zero] at h2
 have h1:q18o s s.size 0=some x:=h1
 refine q18n ?_
 simp only [q190,h1,Option.bind_some,←h2]
 rcases x with x|x <;> rfl
noncomputable def fnameB (s:ByteArray):Bool:=!em s&&(decide ((s.size:Int)≤60)&&(L s).all q18g)
theorem q1fp (s:ByteArray):q1gt s=some (fnameB s):=q1gs (by
 simp only [q1gu,q3l,qwb,fnameB]
 cases em s with
 |true=>rfl
 |false =>
  cases h:decide ((s.size:Int)≤60) with
  |false=>simp
  |true=>simp [q18i s (by have:=of_decide_eq_true h;omega)])
theorem q1dp (s:ByteArray) (hs:s.size<4294967281):Ok (q1gg s) fun r=>s.size=0→r=false:=.via q1gf (by
 unfold q1gh canyP
 rw [if_pos ⟨hs,rfl⟩]
 refine q1mo ?_
 intro h0
 have:s.data.toList=[]:=by
  apply List.eq_nil_of_length_eq_zero
  rw [Array.length_toList]
  exact h0
 rw [this]
 rfl)
def noSp (l:List UInt8):Prop:=∀ a,l≠a++[32]
theorem q1mg {s:ByteArray} (h0:s.size≠0) (h:((UInt8.toNat (Array.getD s.data (s.size - 1) (0:UInt8)):Nat):Int)≠32):noSp (L s):=by
 intro a ha
 have hl:=q17d s
 have h1:s.size - 1<(L s).length:=by omega
 have e:(L s)[s.size - 1]=32:=by
  have h2:s.size - 1=a.length:=by rw [←hl,ha];simp
  simp only [ha,h2]
  simp
 rw [q19x s h1,e] at h
 exact h rfl
theorem q1tu (s:ByteArray) (hs:s.size<4294967281):Ok (q1he s) fun r=>(s.size=0→r=true)∧(r=true→noSp (L s)):=.via q1hd (by
 unfold q1hf
 refine q1mk (q1dp s hs) ?_
 intro r hr
 refine q1ml ?_ ?_
 ·intro _
  simp only [qwb]
  refine q1ml ?_ ?_
  ·intro he
   have h0:s.size≠0:=by intro h0;rw [q5p] at he;simp [h0] at he
   have hw:IntKind.i64.wrap ((s.size:Int) - 1)=((s.size - 1:Nat):Int):=by rw [qvs (by omega)];omega
   refine q1mn (by simp;omega) ?_
   refine q1mk (q1bv _) ?_
   intro r1 _
   refine q1ml ?_ ?_
   ·intro _
    rw [hw]
    refine q1mn (by simp;omega) ?_
    refine q1mk (q1bv _) ?_
    intro r2 hr2
    refine q1mo ⟨(fun h=>absurd h h0),fun h=>q1mg h0 fun h9=>?_⟩
    rw [Int.toNat_natCast] at hr2
    rw [hr2 h9] at h;cases h
   ·intro _
    exact q1mo ⟨fun h=>absurd h h0,(fun h=>by cases h)⟩
  ·intro he
   have h0:s.size=0:=by rw [q5p] at he;simpa using he
   refine q1mo ⟨fun _=>rfl,fun _ a ha=>?_⟩
   have:=q17d s
   rw [ha] at this;simp at this;omega
 ·intro h
  exact q1mo ⟨fun h0=>(by rw [hr h0] at h;cases h),fun h=>by cases h⟩)
theorem maxI:IntKind.max IntKind.i64=9223372036854775807:=rfl
def ptP (s:ByteArray) (v:Int):Prop:=0≤v∧v≤s.size
theorem q1n0 (s:ByteArray) (hs:s.size≤100000):∀ (m:Nat) (k:Nat) (b:Int),1≤k→s.size - k≤m→k≤9223372036854775806→ptP s b→Ok (q1h0 s b k) fun x=>Sum.elim (fun r=>ptP s r.1.2.1) (fun r=>ptP s r.1.2.1) x:=by
 intro m
 induction m with
 |zero =>
  intro k b h1 hk hk2 hb
  refine .via q1h2 ?_
  unfold q1h7
  refine q1ml (fun h=>?_) (fun _=>q1mo hb)
  have:=of_decide_eq_true h
  omega
 |succ m ih =>
  intro k b h1 hk hk2 hb
  refine .via q1h2 ?_
  unfold q1h7
  refine q1ml (fun h=>?_) (fun _=>q1mo hb)
  have hlt:k<s.size:=by have:=of_decide_eq_true h;omega
  have e2:IntKind.i64.wrap ((k:Int)+1)=((k+1:Nat):Int):=by rw [qvs (by omega)];rfl
  have e3:IntKind.i64.wrap ((k:Int) - 1)=((k - 1:Nat):Int):=by rw [qvs (by omega)];omega
  have hi:=fun b' hb'=>ih (k+1) b' (by omega) (by omega) (by omega) hb'
  have hk':ptP s k:=⟨by omega,by omega⟩
  rw [e2,e3]
  refine q1mn (by simp;omega) (q1mk (q1bv _) fun r0 _=>q1ml (fun _=>q1mn (by simp;omega) (q1mk (q1bv _) fun r1 _=>q1ml (fun _=>hi b hb) (fun _=>q1ml (fun _=>q1ml (fun _=>q1mo hb) (fun _=>hi k hk')) (fun _=>hi k hk')))) (fun _=>hi b hb))
theorem q1n1 (s:ByteArray) (hs:s.size≤100000) (f:Int) (hf:f≤9223372036854775806):Ok (q1h8 s f) (ptP s):=.via q1gz (by
 unfold q1h9
 have hx:∃ k:Nat,1≤k∧k≤9223372036854775806∧(ite (true=true) (ite (f<(1:Int)) (1:Int) f) (ite ((1:Int)<f) (1:Int) f))=(k:Int):=by
  rw [if_pos rfl]
  split
  ·exact ⟨1,by omega,by omega,rfl⟩
  ·exact ⟨f.toNat,by omega,by omega,by omega⟩
 obtain ⟨k,h1,h2,h3⟩:=hx
 rw [h3]
 refine q1mk (q1n0 s hs _ k 0 h1 (Nat.le_refl _) h2 ⟨by omega,by omega⟩) ?_
 rintro (r|r) hr
 ·exact q1mo hr
 ·exact q1mo hr)
def flQ (x:((Unit×ByteArray×Int×Nat×Bool)×((Int×Int)×(List ByteArray)))⊕((Unit×ByteArray×Nat×Int×Bool)×((Int×Int)×(List ByteArray)))):ByteArray×Nat×List ByteArray:=Sum.elim (fun r=>(r.1.2.1,r.1.2.2.2.1,r.2.2)) (fun r=>(r.1.2.1,r.1.2.2.1,r.2.2)) x
def szB (l:List ByteArray):Prop:=∀ e∈l,e.size≤100000
theorem q1q4 {l:List ByteArray} {s:ByteArray} (h:szB l) (hs:s.size≤100000):szB (l++[s]):=by
 intro e he
 rcases List.mem_append.1 he with he|he
 ·exact h e he
 ·have:e=s:=by simpa using he
  rw [this];exact hs
theorem q1gi:∀ (m:Nat) (s:ByteArray) (f:Int) (out:Nat) (l:List ByteArray),s.size≤m→out=l.length→out+s.size≤100000→f≤100000→szB l→Ok (q1g2 s f out 0 0 l) fun x=>(flQ x).2.1=(flQ x).2.2.length∧(flQ x).2.1≤100000∧(flQ x).1.size≤100000∧szB (flQ x).2.2∧(s.size≤78→flQ x=(s,out,l)):=by
 intro m
 induction m with
 |zero =>
  intro s f out l hm ho hb hf hz
  refine .via q1g4 ?_
  unfold q1g9
  refine q1ml (fun h=>?_) (fun _=>q1mn (by simp [EC.isL_encL]) (q1mo ?_))
  ·have:=of_decide_eq_true h
   omega
  ·simp only [EC.decL_encL,flQ,Sum.elim_inl]
   exact ⟨ho,by omega,by omega,hz,fun _=>trivial⟩
 |succ m ih =>
  intro s f out l hm ho hb hf hz
  refine .via q1g4 ?_
  unfold q1g9
  refine q1ml (fun h=>?_) (fun _=>q1mn (by simp [EC.isL_encL]) (q1mo ?_))
  ·have h78:=of_decide_eq_true h
   refine q1mk (q1n1 s (by omega) f (by omega)) fun r hr=>?_
   obtain ⟨p0,p1⟩:=hr
   refine q1ml (fun _=>q1mn (by simp [EC.isL_encL]) (q1mo ?_)) (fun hne=>?_)
   ·simp only [EC.decL_encL,flQ,Sum.elim_inr]
    exact ⟨ho,by omega,by omega,hz,fun h=>by omega⟩
   ·have hne:r≠0:=by simpa using hne
    have hz1:(s.extract r.toNat s.size).size=s.size - r.toNat:=by rw [ByteArray.size_extract];omega
    have hz2:(s.extract 0 r.toNat).size≤100000:=by rw [ByteArray.size_extract];omega
    simp only [EC.decL_encL,EC.isL_encL,q1ub,q1ud]
    refine q1mn (by simp;omega) (q1mn (by simp;omega) (q1mn (by simp;omega) ?_))
    refine (ih _ 0 (out+1) (l++[s.extract 0 r.toNat]) (by rw [hz1];omega) (by simp [ho]) (by rw [hz1];omega) (by omega) (q1q4 hz hz2)).mono fun x hx=>⟨hx.1,hx.2.1,hx.2.2.1,hx.2.2.2.1,fun h=>by omega⟩
  ·simp only [EC.decL_encL,flQ,Sum.elim_inl]
   exact ⟨ho,by omega,by omega,hz,fun _=>trivial⟩
theorem q1kb (l:List ByteArray) (k:Nat) (h:k<l.length):isP [K1.str] 0 ((q5m.encL l).getD k [])=true:=by rw [EC.getD_lt _ _ h];rfl
theorem q1u0 (out:Nat) (c d:Int) (l:List ByteArray) (hl:l.length≤100001):∀ m k:Nat,k+m=l.length→Ok (q1fu out l.length l.length k c d l) fun x=>Sum.elim (fun r=>r.1.1=0∧r.2.1=[]∧r.2.2.1=1∧¬ ∀ e∈l,e.size≤998) (fun r=>r.1.2.1=out∧r.2.2=l) x:=by
 intro m
 induction m with
 |zero =>
  intro k hk
  refine .via q1fw ?_
  unfold q1g1
  refine q1ml (fun h=>?_) (fun _=>q1mn (by simp [EC.isL_encL]) (q1mo ?_))
  ·have:=of_decide_eq_true h
   omega
  ·simp only [EC.decL_encL,Sum.elim_inr,and_self]
 |succ m ih =>
  intro k hk
  have hlt:k<l.length:=by omega
  have e2:IntKind.i64.wrap ((k:Int)+1)=((k+1:Nat):Int):=by rw [qvs (by omega)];rfl
  refine .via q1fw ?_
  unfold q1g1
  simp only [EC.decL_encL,EC.isL_encL,EC.encL_length,q1ue,Int.toNat_natCast,e2]
  refine q1ml (fun h=>?_) (fun h=>?_)
  ·refine q1mn (by simp;omega) (q1mn (by rw [len_9 l k hlt];simp [hlt]) (q1mn (q1kb l k hlt) ?_))
   refine q1ml (fun hw=>?_) (fun _=>?_)
   ·refine q1mk (q1fg _ _) fun r hr=>q1mo ?_
    subst hr
    refine ⟨rfl,rfl,rfl,fun hall=>?_⟩
    have h1:=hall l[k] (List.getElem_mem hlt)
    have h2:=of_decide_eq_true hw
    rw [q8k hlt] at h2
    omega
   ·exact q1mn rfl (ih (k+1) (by omega))
  ·have:=of_decide_eq_false h
   omega
end Go.Proofs.YtepmpilapglklaaGreat
