/- The functions under recur.Between answer always: rules, searches. -/
import Derived.Test.YtfakibajjibjjaaGreatDoorZ39
import Derived.Test.YtfakibajjibjjaaGreatDoorGU
import Derived.Test.YtfakibajjibjjaaGreatDoorZ36
namespace Go.Proofs.YtfakibajjibjjaaGreatDoor
set_option linter.unusedSimpArgs false
open Go.RowKit
set_option maxRecDepth 100000
section
attribute [local irreducible] gdE
theorem qv9 (l:List Int) (at_ b0 b1:Int) (hl:l.length≤300):∀ (g k:Nat),k+g=l.length→Ok (qve l at_ l l.length k b0 b1) fun r=>∀ x,r=.inl x→x.2.1≠0:=by
 intro g
 induction g with
 |zero =>
  intro k hk
  refine .via qvg ?_
  unfold qvl
  rw [show decide ((k:Int)<(l.length:Int))=false by simp;omega]
  exact qtd (EC.isL_encL _ _) (qtd (EC.isL_encL _ _) (qte fun x h=>by cases h))
 |succ g ih =>
  intro k hk
  refine .via qvg ?_
  unfold qvl
  rw [show decide ((k:Int)<(l.length:Int))=true by simp;omega,q15g (n:=300) (by omega) (by omega)]
  refine qtd (by simp) (qtd (by rw [qmh];simp only [Bool.and_eq_true,decide_eq_true_eq,EC.encL_length,Int.toNat_natCast];omega) ?_)
  have ih':=ih (k+1) (by omega)
  refine qtb (q131 _) fun _ _=>qtc (fun _=>qtb (qf8 _ _) ?_) fun _=>qtc (fun h=>?_) fun _=>?_
  ·rintro _ rfl
   exact qte fun x h=>by cases h;simp
  ·simp at h
   have hw:IntKind.i64.wrap ((k:Int) - 1)=((k - 1:Nat):Int):=by rw [q15f (by omega) (by omega)];omega
   rw [hw]
   refine qtd (by simp) (qtd (by rw [qmh];simp only [Bool.and_eq_true,decide_eq_true_eq,EC.encL_length,Int.toNat_natCast];omega) ?_)
   refine qtc (fun _=>qtb (qf8 _ _) ?_) fun _=>?_
   ·rintro _ rfl
    exact qte fun x h=>by cases h;simp
   ·refine qtd (EC.isL_encL _ _) (qtd (EC.isL_encL _ _) ?_)
    rw [EC.decL_encL]
    exact ih'
  ·refine qtd (EC.isL_encL _ _) (qtd (EC.isL_encL _ _) ?_)
   rw [EC.decL_encL]
   exact ih'
theorem qvm (l:List Int) (at_:Int):Ok (qvn l at_) fun r=>r.1=0→l.length≤300:=.via qvd (by
 unfold qvo
 refine qtc (fun _=>qtb (qf8 _ _) ?_) fun h=>?_
 ·rintro _ rfl
  exact qte fun h=>by simp at h
 ·have hl:l.length≤300:=by simp [EC.encL_length] at h;omega
  refine qtd (EC.isL_encL _ _) (qtd (EC.isL_encL _ _) ?_)
  rw [EC.decL_encL,EC.encL_length]
  refine qtb (qv9 l at_ 0 0 hl l.length 0 (by omega)) fun r _=>?_
  cases r with
  |inl x=>exact qte fun _=>hl
  |inr x=>exact qtb qsy fun _ _=>qte fun _=>hl)
theorem qwr (l:List Int) (b0 b1 b2 b3:Int) (b4:Bool) (b6 b7:List Int) (c0 c1:Int) (hl:l.length≤9223372036854775807):∀ (g k:Nat),k+g=l.length→Ok (qww l l.length k b0 b1 b2 b3 b4 l b6 b7 c0 c1) fun _=>True:=by
 intro g
 induction g with
 |zero =>
  intro k hk
  refine .via qwy ?_
  unfold qx3
  rw [show decide ((k:Int)<(l.length:Int))=false by simp;omega]
  exact qtd (EC.isL_encL _ _) (qtd (EC.isL_encL _ _) (qtd (EC.isL_encL _ _) (qtd (EC.isL_encL _ _) (qte trivial))))
 |succ g ih =>
  intro k hk
  refine .via qwy ?_
  unfold qx3
  rw [show decide ((k:Int)<(l.length:Int))=true by simp;omega,q15g (n:=9223372036854775807) (by omega) (by omega)]
  refine qtd (by simp) (qtd (by rw [qmh];simp only [Bool.and_eq_true,decide_eq_true_eq,EC.encL_length,Int.toNat_natCast];omega) ?_)
  have ih':=ih (k+1) (by omega)
  have fin:Ok (gdE (qdf.isL (qdf.encL l))<| gdE (qdf.isL (qdf.encL l))<| gdE (qdf.isL (qdf.encL b6))<| gdE (qdf.isL (qdf.encL b7))<| qww (qdf.decL (qdf.encL l)) l.length ((k+1:Nat):Int) b0 b1 b2 b3 b4 (qdf.decL (qdf.encL l)) (qdf.decL (qdf.encL b6)) (qdf.decL (qdf.encL b7)) c0 c1) fun _=>True:=by
   refine qtd (EC.isL_encL _ _) (qtd (EC.isL_encL _ _) (qtd (EC.isL_encL _ _) (qtd (EC.isL_encL _ _) ?_)))
   simp only [EC.decL_encL]
   exact ih'
  refine qtc (fun _=>qtc (fun _=>qtb (qf8 _ _) fun _ _=>qte trivial) fun _=>qtc (fun h=>?_) fun _=>fin) fun _=>qtb (qf8 _ _) fun _ _=>qte trivial
  simp at h
  have hw:IntKind.i64.wrap ((k:Int) - 1)=((k - 1:Nat):Int):=by rw [q15f (by omega) (by omega)];omega
  rw [hw]
  refine qtd (by simp) (qtd (by rw [qmh];simp only [Bool.and_eq_true,decide_eq_true_eq,EC.encL_length,Int.toNat_natCast];omega) ?_)
  exact qtc (fun _=>qtb (qf8 _ _) fun _ _=>qte trivial) fun _=>fin
theorem qx4 (b0 b1 b2 b3:Int) (b4:Bool) (l b6 b7:List Int) (hl:l.length≤9223372036854775807):Ok (qx5 b0 b1 b2 b3 b4 l b6 b7) fun _=>True:=.via qwv (by
 unfold qx6
 simp only [EC.encL_length]
 have fin:Ok (gdE (qdf.isL (qdf.encL l))<| gdE (qdf.isL (qdf.encL l))<| gdE (qdf.isL (qdf.encL b6))<| gdE (qdf.isL (qdf.encL b7))<| (qww (qdf.decL (qdf.encL l)) l.length 0 b0 b1 b2 b3 b4 (qdf.decL (qdf.encL l)) (qdf.decL (qdf.encL b6)) (qdf.decL (qdf.encL b7)) 0 0).bind fun r0=>Sum.elim (fun r1=>some (r1.2.1,r1.2.2)) (fun _=>q69.bind fun r2=>some (r2.1,r2.2)) r0) fun _=>True:=by
  refine qtd (EC.isL_encL _ _) (qtd (EC.isL_encL _ _) (qtd (EC.isL_encL _ _) (qtd (EC.isL_encL _ _) ?_)))
  simp only [EC.decL_encL]
  refine qtb (qwr l b0 b1 b2 b3 b4 b6 b7 0 0 hl l.length 0 (by omega)) fun r _=>?_
  cases r with
  |inl x=>exact qte trivial
  |inr x=>exact qtb qsy fun _ _=>qte trivial
 exact qtc (fun _=>qtc (fun _=>qtb (qf8 _ _) fun _ _=>qte trivial) fun _=>fin) fun _=>fin)
theorem qwq (b0 b1 b2 b3:Int) (b4:Bool) (l b6 b7:List Int) (hl:l.length≤9223372036854775807):Ok (rval_s b0 b1 b2 b3 b4 l b6 b7) fun r=>r.1=0→1≤b1∧b6.length≤300∧b7.length≤300:=.via qwp (by
 unfold rval_t
 have bad:∀ (c a:Int),c≠0→Ok ((q5l c a).bind fun r0=>some (r0.1,r0.2)) fun r=>r.1=0→1≤b1∧b6.length≤300∧b7.length≤300:=by
  intro c a hc
  refine qtb (qf8 _ _) ?_
  rintro _ rfl
  exact qte fun h=>absurd h hc
 refine qtc (fun _=>qtc (fun _=>bad _ _ (by decide)) fun _=>qtc (fun he=>qtc (fun _=>bad _ _ (by decide)) fun _=>qtc (fun _=>qtc (fun _=>bad _ _ (by decide)) fun _=>?_) fun _=>bad _ _ (by decide)) fun _=>bad _ _ (by decide)) fun _=>bad _ _ (by decide)
 have hE:1≤b1:=by simpa using he
 have fin:Ok (gdE (qdf.isL (qdf.encL l))<| gdE (qdf.isL (qdf.encL b6))<| gdE (qdf.isL (qdf.encL b7))<| (qx5 b0 b1 b2 b3 b4 (qdf.decL (qdf.encL l)) (qdf.decL (qdf.encL b6)) (qdf.decL (qdf.encL b7))).bind fun r1=>(q5f r1.1 r1.2).bind fun r2=>brE r2 (some (r1.1,r1.2)) (gdE (qdf.isL (qdf.encL b6))<| (qvn (qdf.decL (qdf.encL b6)) (-8)).bind fun r3=>(q5f r3.1 r3.2).bind fun r4=>brE r4 (some (r3.1,r3.2)) (gdE (qdf.isL (qdf.encL b7))<| (qvn (qdf.decL (qdf.encL b7)) (-9)).bind fun r5=>some (r5.1,r5.2)))) fun r=>r.1=0→1≤b1∧b6.length≤300∧b7.length≤300:=by
  refine qtd (EC.isL_encL _ _) (qtd (EC.isL_encL _ _) (qtd (EC.isL_encL _ _) ?_))
  simp only [EC.decL_encL]
  refine qtb (qx4 b0 b1 b2 b3 b4 l b6 b7 hl) fun r1 _=>qtb (qf5 _ _) ?_
  rintro _ rfl
  refine qtc (fun h=>qte fun h0=>absurd h0 (by simpa using h)) fun _=>qtd (EC.isL_encL _ _) (qtb (qvm b6 _) fun r3 h3=>qtb (qf5 _ _) ?_)
  rintro _ rfl
  refine qtc (fun h=>qte fun h0=>absurd h0 (by simpa using h)) fun h=>qtd (EC.isL_encL _ _) (qtb (qvm b7 _) fun r5 h5=>qte fun h0=>⟨hE,h3 (bne0 h),h5 h0⟩)
 refine qtc (fun _=>qtb (q131 _) fun _ _=>qtc (fun _=>bad _ _ (by decide)) fun _=>qtc (fun _=>qtc (fun _=>bad _ _ (by decide)) fun _=>fin) fun _=>fin) fun _=>qtc (fun _=>qtc (fun _=>bad _ _ (by decide)) fun _=>fin) fun _=>fin)
theorem qz0 (l:List Int) (v:Int) (hl:l.length≤9223372036854775807):∀ (g k:Nat),k+g=l.length→Ok (qzk l v l.length k) fun _=>True:=by
 intro g
 induction g with
 |zero =>
  intro k hk
  refine .via qzm ?_
  unfold qzr
  rw [show decide ((k:Int)<(l.length:Int))=false by simp;omega]
  exact qtd (EC.isL_encL _ _) (qte trivial)
 |succ g ih =>
  intro k hk
  refine .via qzm ?_
  unfold qzr
  rw [show decide ((k:Int)<(l.length:Int))=true by simp;omega,q15g (n:=9223372036854775807) (by omega) (by omega)]
  refine qtd (by simp) (qtd (by rw [qmh];simp only [Bool.and_eq_true,decide_eq_true_eq,EC.encL_length,Int.toNat_natCast];omega) ?_)
  refine qtc (fun _=>qte trivial) fun _=>qtd (EC.isL_encL _ _) ?_
  rw [EC.decL_encL]
  exact ih (k+1) (by omega)
theorem qyz (l:List Int) (v:Int) (hl:l.length≤9223372036854775807):Ok (qze l v) fun _=>True:=.via qzd (by
 unfold qzf
 refine qtd (EC.isL_encL _ _) (qtb (.via qzj ?_) fun _ (_:True)=>qte trivial)
 unfold qzt
 rw [EC.decL_encL]
 refine qtd (EC.isL_encL _ _) ?_
 rw [EC.decL_encL,EC.encL_length]
 refine qtb (qz0 l v hl l.length 0 (by omega)) fun r _=>?_
 cases r <;> exact qte trivial)
theorem qg7 (b0 b1 b2 b3:Int) (b4:Bool) (l b6 b7:List Int) (s1 s2 s3 s4 s5 s6 s7 d1 d2 d3 d4 d5 d6 d7 k:Int) (hl:l.length≤9223372036854775807) (he:1≤b1):Ok (fits_s b0 b1 b2 b3 b4 l b6 b7 s1 s2 s3 s4 s5 s6 s7 d1 d2 d3 d4 d5 d6 d7 k) fun _=>True:=.via qg6 (by
 unfold fits_t
 have hb:(b1==0)=false:=by simp;omega
 simp only [hb,EC.encL_length,EC.decL_encL]
 have z:∀ {α:Type} (x:Option α),brE false none x=x:=fun _=>rfl
 simp only [z]
 repeat' (first
  |exact ⟨_,rfl,trivial⟩
  |(refine qtc ?_ ?_ <;> intro _)
  |refine qtd (EC.isL_encL _ _) ?_
  |(refine qtb (q158 _ _ _ _ _ _ _) ?_;intro _ _)
  |(refine qtb (qyz l _ hl) ?_;intro _ _)))
theorem qz5 (x:Int):Ok (qz6 x) fun r=>r=false:=.via qz4 (qte (by simp))
theorem qa8 (x y:Int):Ok (qa9 x y) fun r=>r=decide (x<y):=.via qa7 (by
 unfold qaa
 refine qtb (P:=fun r=>r=false) (.via qae (qte (by simp))) ?_
 rintro _ rfl
 exact qte rfl)
theorem q79 (l:List Int) (v n:Int) (hl:l.length≤1000000):∀ (g i j:Nat),i≤j→j≤l.length→j - i≤g→Ok (bsI_l3 l v n i j) fun r=>r.1.1=l∧r.1.2.2.1=n∧∃ i2:Nat,r.1.2.2.2.1=i2∧i2≤l.length:=by
 intro g
 induction g with
 |zero =>
  intro i j h1 h2 h3
  refine .via q7b ?_
  unfold q7f
  rw [show decide ((i:Int)<(j:Int))=false by simp;omega]
  exact qtd (EC.isL_encL _ _) (qte ⟨EC.decL_encL _ _,rfl,i,rfl,by omega⟩)
 |succ g ih =>
  intro i j h1 h2 h3
  refine .via q7b ?_
  unfold q7f
  refine qtc (fun h=>?_) fun _=>qtd (EC.isL_encL _ _) (qte ⟨EC.decL_encL _ _,rfl,i,rfl,by omega⟩)
  simp at h
  have hh:IntKind.i64.wrap (Int.fdiv (IntKind.u64.wrap (IntKind.i64.wrap ((i:Int)+j))) ((2:Int) ^ (Min.min (Int.toNat 1) (IntKind.bits .u64))))=(((i+j) / 2:Nat):Int):=by
   rw [q15f (x:=(i:Int)+j) (by omega) (by omega),IntWalk.u64_in _ (by omega)]
   have:((2:Int) ^ (Min.min (Int.toNat 1) (IntKind.bits .u64)))=2:=by decide
   rw [this,Int.fdiv_eq_ediv_of_nonneg _ (by decide),q15f (x:=((i:Int)+j) / 2) (by omega) (by omega)]
   omega
  rw [hh]
  refine qtd (by simp;omega) (qtd (by rw [qmh];simp only [Bool.and_eq_true,decide_eq_true_eq,EC.encL_length,Int.toNat_natCast];omega) ?_)
  refine qtb (qa8 _ _) fun _ _=>qtc (fun _=>qtd (EC.isL_encL _ _) ?_) fun _=>qtd (EC.isL_encL _ _) ?_
  ·rw [EC.decL_encL,q15g (n:=1000000) (by omega) (by omega)]
   exact ih _ _ (by omega) (by omega) (by omega)
  ·rw [EC.decL_encL]
   exact ih _ _ (by omega) (by omega) (by omega)
theorem bsI_ok (l:List Int) (v:Int) (hl:l.length≤1000000):Ok (bsI_s l v) fun _=>True:=.via bsI_eq (by
 unfold bsI_t
 refine qtd (EC.isL_encL _ _) ?_
 rw [EC.decL_encL,EC.encL_length]
 refine qtb (q79 l v l.length hl l.length 0 l.length (by omega) (by omega) (by omega)) ?_
 rintro ⟨⟨x,v',n,i,j,q⟩,u⟩ ⟨h1,h2,i2,h3,hi⟩
 dsimp only at h1 h2 h3 hi ⊢
 subst h3 h1
 rw [h2]
 refine qtc (fun h=>?_) fun _=>qte trivial
 simp at h
 have g1:decide ((0:Int)≤(i2:Int))=true:=by simp
 have g2:(decide (((i2:Int)).toNat<(qdf.encL x).length)&&isE [.int .i64] 0 ((qdf.encL x).getD ((i2:Int)).toNat []))=true:=by
  rw [qmh];simp only [Bool.and_eq_true,decide_eq_true_eq,EC.encL_length,Int.toNat_natCast];omega
 refine qtd g1 (qtd g2 (qtc (fun _=>qtd g1 (qtd g2 (qtb (qz5 _) ?_))) fun _=>qte trivial))
 rintro _ rfl
 exact qte trivial)
end
end Go.Proofs.YtfakibajjibjjaaGreatDoor
namespace Go.Proofs.YtfakibajjibjjaaGreatDoor
set_option linter.unusedSimpArgs false
open Go.RowKit
set_option maxRecDepth 100000
theorem q14y (z:ZT) (s:DT) (r:RT) (b:Int) (k:Nat) (hw:r.2.2.2.2.2.1.length≤9223372036854775807) (he:1≤r.2.1):Ok (visit z s r b k) fun _=>True:=by
 unfold visit
 refine qtb (q9k _ _) fun d _=>qtb (qg7 _ _ _ _ _ _ _ _ _ _ _ _ _ _ _ _ _ _ _ _ _ _ _ hw he) fun q _=>?_
 cases q with
 |true=>exact qtb (q15w _ _ _ _ _ _ _ _ _ _ _ _ _ _ _ _ _ _) fun _ _=>qte trivial
 |false=>exact qte trivial
theorem qm0 (z:ZT) (s:DT) (r:RT) (b:Int) (hw:r.2.2.2.2.2.1.length≤9223372036854775807) (he:1≤r.2.1):∀ (n k:Nat) (many:Int),Ok (insF z s r b n k many) fun l=>l.length≤n
 |0,k,many=>qte (Nat.le_refl 0)
 |n+1,k,many=>by
  unfold insF
  refine qtb (q14y z s r b k hw he) fun v _=>?_
  cases v with
  |none=>exact (qm0 z s r b hw he n (k+1) many).mono fun _ h=>Nat.le_succ_of_le h
  |some t =>
   dsimp only
   cases (r.2.2.2.2.1&&decide (r.2.2.2.1<t)) with
   |true=>exact qte (Nat.zero_le _)
   |false =>
    cases (IntKind.i64.wrap (many+1)==r.2.2.1) with
    |true=>exact qte (by simp)
    |false =>
     obtain ⟨l,hl,h⟩:=qm0 z s r b hw he n (k+1) (IntKind.i64.wrap (many+1))
     simp only [cond_false,hl,Option.map_some]
     exact qte (by simpa using h)
theorem qnb (ex:List Int) (hx:ex.length≤1000000):∀ l:List Int,Ok (keepF ex l) fun k=>k.length≤l.length
 |[]=>qte (Nat.le_refl 0)
 |t::l=>by
  obtain ⟨q,hq,_⟩:=bsI_ok ex t hx
  obtain ⟨k,hk,h⟩:=qnb ex hx l
  simp only [keepF,hq,hk,Option.bind_some,Option.map_some]
  refine qte ?_
  cases q.2 <;> simp <;> omega
theorem qsd {α:Type} [Inhabited α] [DecidableEq α] {zs:List α} {x:α} (h:x∈Lib.compact zs):x∈zs:=by
 obtain ⟨j,hj,rfl⟩:=List.mem_map.1 h
 have hj:=List.mem_range.1 (List.mem_filter.1 hj).1
 rw [getElem!_pos zs.toArray j (by simpa using hj)]
 simp
def BetP (a b:Int) (x:List Int×(Int×Int)):Prop:=(x.2.1≠0→x.1=[])∧(∀ t∈x.1,a≤t∧t≤b)∧x.1.length≤1801∧(x.2.1=0→-68719476736≤a∧b≤68719476736)
theorem q6r (z:ZT) (s:DT) (r:RT) (a b:Int) (hw:r.2.2.2.2.2.1.length≤9223372036854775807):Ok (betS z s r a b) (BetP a b):=by
 have bad:∀ (x y:Int),x≠0→Ok (some (([]:List Int),(x,y))) (BetP a b):=fun x y h=>qte ⟨fun _=>rfl,by simp,by simp,fun h0=>absurd h0 h⟩
 unfold betS betF
 refine qtb (q17i _ _ _ _ _ _ _ _ _ _ _) fun f _=>?_
 cases h1:f.1 != 0 with
 |true=>exact bad _ _ (by simpa using h1)
 |false =>
 refine qtb (q15w _ _ _ _ _ _ _ _ _ _ _ _ _ _ _ _ _ _) fun q _=>?_
 cases h2:q.1.2.1 != 0 with
 |true=>exact bad _ _ (by simpa using h2)
 |false =>
 cases decide (3980<s.1) with
 |true=>exact bad _ _ (by decide)
 |false =>
 refine qtb (qwq _ _ _ _ _ _ _ _ hw) fun g hg=>?_
 cases h3:g.1 != 0 with
 |true=>exact bad _ _ (by simpa using h3)
 |false =>
 obtain ⟨he,hx,hy⟩:=hg (bne0 h3)
 refine qtb (q131 _) ?_
 rintro _ rfl
 refine qtb (q131 _) ?_
 rintro _ rfl
 cases h4:(!(decide (-68719476736≤a)&&decide (a≤68719476736))||(!(decide (-68719476736≤b)&&decide (b≤68719476736))||decide (b<a))) with
 |true=>exact bad _ _ (by decide)
 |false =>
 simp at h4
 refine qtb (qcl _ _ _ _ _ _ _) fun b0 _=>?_
 unfold finB
 refine qtb (qm0 z s r b0.1 hw he 1501 0 0) fun ts ht=>?_
 refine qtb (qnb _ (by omega) ts) fun k hk=>?_
 have e:(decide (ts.length≤1000000)&&decide (r.2.2.2.2.2.2.2.length≤1000000))=true:=by simp;omega
 rw [e]
 refine qte ⟨fun h=>absurd rfl h,fun t ht=>?_,?_,fun _=>⟨h4.1.1,h4.2.1.2⟩⟩
 ·have:=(List.mergeSort_perm _ _).subset (qsd ht)
  have:=(List.mem_filter.1 this).2
  simp at this
  exact this
 ·refine Nat.le_trans (Lib.compact_length_le _) ?_
  rw [(List.mergeSort_perm _ _).length_eq]
  refine Nat.le_trans (List.length_filter_le _ _) ?_
  rw [List.length_append]
  omega
set_option maxRecDepth 100000
section
attribute [local irreducible] gdE
abbrev Ev:=S86
abbrev Zo:=S77
def zt (z:Zo):ZT:=(z.Name,z.Standard,z.Summer,z.Begin_Month,z.Begin_Week,z.Begin_Weekday,z.Begin_Minute,z.End_Month,z.End_Week,z.End_Weekday,z.End_Minute)
def evS (x:Ev):DT:=(x.Start_Year,x.Start_Month,x.Start_Day,x.Start_Hour,x.Start_Minute,x.Start_Second,x.Start_Zone)
def evR (x:Ev):RT:=(x.Repeat_Frequency,x.Repeat_Every,x.Repeat_Count,x.Repeat_Until,x.Repeat_HasUntil,x.Repeat_Weekdays,x.Repeat_Except,x.Repeat_Add)
def inZ (x:Ev) (z:Zo):Bool:=z.Name.toList==x.Zone.toList
theorem zt_at (zs:List Zo) (k:Nat):(q10v (((qdk.encL zs).getD k []).getD 0 .ne),qm6 (((qdk.encL zs).getD k []).getD 1 .ne),qm6 (((qdk.encL zs).getD k []).getD 2 .ne),qm6 (((qdk.encL zs).getD k []).getD 3 .ne),qm6 (((qdk.encL zs).getD k []).getD 4 .ne),qm6 (((qdk.encL zs).getD k []).getD 5 .ne),qm6 (((qdk.encL zs).getD k []).getD 6 .ne),qm6 (((qdk.encL zs).getD k []).getD 7 .ne),qm6 (((qdk.encL zs).getD k []).getD 8 .ne),qm6 (((qdk.encL zs).getD k []).getD 9 .ne),qm6 (((qdk.encL zs).getD k []).getD 10 .ne))=zt (zs.getD k (qdk.dec [])):=by
 simp only [EC.decL_encL,EC.isL_encL,EC.encL_length,qmg,q3a,q3b,q29,q2w,qxe,qxd,qxf,qmi,q3c,q2b,q2y,qxg,qmh,q3g,q2a,q2x,qxl,qmk,q3d,q3e,q2d,q30,qxi,qxh,qxj,qmm,q3l,q3m,q3o,q3p,q3q,q3r,q3s,q3t,q3u,q3v,q3n,q2f,q32,qxt,qxs,qxv,qxw,qxy,qxx,qxz,qy0,qy1,qy3,qy2,qy4,qy5,qxu,qmn,q3w,q3x,q48,q4d,q4e,q4f,q4g,q4h,q4i,q4j,q3y,q3z,q40,q41,q42,q43,q44,q45,q46,q47,q49,q4a,q4b,q4c,q2g,q33,qy7,qy6,qyj,qyo,qyp,qyq,qyr,qys,qyt,qyv,qyu,qyw,qy8,qy9,qya,qyb,qyc,qyd,qyf,qye,qyg,qyh,qyi,qyk,qyl,qym,qyn,qml,q3h,q3i,q3j,q3k,q2e,q31,qxn,qxm,qxo,qxq,qxp,qxr,qmj,q3f,q2c,q2z,qxk]
 rfl
def lowA (f L:Int):Int:=if f - 60*L < -68719476736 then -68719476736 else f - 60*L
noncomputable def betV (zs:List Zo) (x:Ev) (f t:Int):List Int×(Int×Int):=(betS (zt (zs.getD (gidx (inZ x) 0 zs).toNat (qdk.dec []))) (evS x) (evR x) (lowA f x.Length) t).getD ([],0,0)
noncomputable def evP (zs:List Zo) (x:Ev) (f t:Int):Int×List Int :=
 if gidx (inZ x) 0 zs<0 then (6,[]) else if x.Length<0∨1000000<x.Length then (3,[]) else
  ((betV zs x f t).2.1,if x.Method=4 then [] else (betV zs x f t).1)
def clipP (f t L:Int) (a:Int):Pd:=⟨if a<f then f else a,if t<a+60*L then t else a+60*L⟩
theorem q6s (zs:List Zo) (x:Ev) (f t:Int) (hw:x.Repeat_Weekdays.length≤9223372036854775807):betS (zt (zs.getD (gidx (inZ x) 0 zs).toNat (qdk.dec []))) (evS x) (evR x) (lowA f x.Length) t=some (betV zs x f t)∧BetP (lowA f x.Length) t (betV zs x f t):=by
 obtain ⟨r,hr,hp⟩:=q6r (zt (zs.getD (gidx (inZ x) 0 zs).toNat (qdk.dec []))) (evS x) (evR x) (lowA f x.Length) t hw
 have:betV zs x f t=r:=by unfold betV;rw [hr];rfl
 rw [this]
 exact ⟨hr,hp⟩
theorem qln (x:Ev) (zs:List Zo) (hz:zs.length≤60):∀ (g k:Nat),k+g=zs.length→Ok (qlr zs x.Uid x.Method x.Sequence x.Summary x.Place x.Organizer x.Guests x.Zone x.Start_Year x.Start_Month x.Start_Day x.Start_Hour x.Start_Minute x.Start_Second x.Start_Zone x.Length x.Repeat_Frequency x.Repeat_Every x.Repeat_Count x.Repeat_Until x.Repeat_HasUntil x.Repeat_Weekdays x.Repeat_Except x.Repeat_Add zs.length k) fun r=>Sum.elim (fun r=>r.1) (fun _=>-1) r=gidx (inZ x) k (zs.drop k):=by
 intro g
 induction g with
 |zero =>
  intro k hk
  refine .via qlt ?_
  unfold qly
  rw [show decide ((k:Int)<(zs.length:Int))=false by simp;omega]
  refine qtd (EC.isL_encL _ _) (qtd (EC.isL_encL _ _) (qtd (EC.isL_encL _ _) (qtd (EC.isL_encL _ _) (qtd (EC.isL_encL _ _) (qte ?_)))))
  rw [List.drop_eq_nil_of_le (by omega)]
  rfl
 |succ g ih =>
  intro k hk
  have hlt:k<zs.length:=by omega
  refine .via qlt ?_
  unfold qly
  rw [show decide ((k:Int)<(zs.length:Int))=true by simp;omega,q15g (n:=60) (by omega) (by omega)]
  refine qtd (by simp) (qtd (by rw [qmm];simp only [Bool.and_eq_true,decide_eq_true_eq,EC.encL_length,Int.toNat_natCast];omega) ?_)
  refine qtd (EC.isL_encL _ _) (qtd (EC.isL_encL _ _) (qtd (EC.isL_encL _ _) (qtd (EC.isL_encL _ _) ?_)))
  simp only [EC.decL_encL]
  refine qta (x:=inZ x zs[k]) (evz_eq ?_) ?_
  ·simp only [evz_t,inZ,EC.decL_encL,EC.isL_encL,EC.encL_length,qmg,q3a,q3b,q29,q2w,qxe,qxd,qxf,qmi,q3c,q2b,q2y,qxg,qmh,q3g,q2a,q2x,qxl,qmk,q3d,q3e,q2d,q30,qxi,qxh,qxj,qmm,q3l,q3m,q3o,q3p,q3q,q3r,q3s,q3t,q3u,q3v,q3n,q2f,q32,qxt,qxs,qxv,qxw,qxy,qxx,qxz,qy0,qy1,qy3,qy2,qy4,qy5,qxu,qmn,q3w,q3x,q48,q4d,q4e,q4f,q4g,q4h,q4i,q4j,q3y,q3z,q40,q41,q42,q43,q44,q45,q46,q47,q49,q4a,q4b,q4c,q2g,q33,qy7,qy6,qyj,qyo,qyp,qyq,qyr,qys,qyt,qyv,qyu,qyw,qy8,qy9,qya,qyb,qyc,qyd,qyf,qye,qyg,qyh,qyi,qyk,qyl,qym,qyn,qml,q3h,q3i,q3j,q3k,q2e,q31,qxn,qxm,qxo,qxq,qxp,qxr,qmj,q3f,q2c,q2z,qxk,Int.toNat_natCast,qiw hlt]
  ·rw [qcv hlt,gidx]
   refine qtc (fun h=>qte ?_) fun h=>?_
   ·simp [h]
   ·rw [h,if_neg (by simp)]
    exact qtd (EC.isL_encL _ _) (qtd (EC.isL_encL _ _) (qtd (EC.isL_encL _ _) (qtd (EC.isL_encL _ _) (qtd (EC.isL_encL _ _) (ih (k+1) (by omega))))))
theorem qlz (x:Ev) (zs:List Zo) (hz:zs.length≤60):idxZ_s zs x.Uid x.Method x.Sequence x.Summary x.Place x.Organizer x.Guests x.Zone x.Start_Year x.Start_Month x.Start_Day x.Start_Hour x.Start_Minute x.Start_Second x.Start_Zone x.Length x.Repeat_Frequency x.Repeat_Every x.Repeat_Count x.Repeat_Until x.Repeat_HasUntil x.Repeat_Weekdays x.Repeat_Except x.Repeat_Add=some (gidx (inZ x) 0 zs):=by
 have h:Ok (idxZ_s zs x.Uid x.Method x.Sequence x.Summary x.Place x.Organizer x.Guests x.Zone x.Start_Year x.Start_Month x.Start_Day x.Start_Hour x.Start_Minute x.Start_Second x.Start_Zone x.Length x.Repeat_Frequency x.Repeat_Every x.Repeat_Count x.Repeat_Until x.Repeat_HasUntil x.Repeat_Weekdays x.Repeat_Except x.Repeat_Add) fun r=>r=gidx (inZ x) 0 zs:=.via qlq (by
  unfold idxZ_t
  refine qtd (EC.isL_encL _ _) (qtd (EC.isL_encL _ _) (qtd (EC.isL_encL _ _) (qtd (EC.isL_encL _ _) (qtd (EC.isL_encL _ _) ?_))))
  simp only [EC.decL_encL,EC.encL_length]
  refine qtb (qln x zs hz zs.length 0 (by omega)) fun r h=>?_
  rw [List.drop_zero] at h
  cases r with
  |inl r=>exact qte h
  |inr r=>exact qte h)
 obtain ⟨r,e,rfl⟩:=h
 exact e
end
set_option maxRecDepth 100000
section
attribute [local irreducible] gdE
theorem qeo (f t L:Int) (b0:ByteArray) (b1 b2:Int) (b3 b4 b5:ByteArray) (b6) (b7:ByteArray) (b8 b9 b10 b11 b12 b13 b14 b16 b17 b18 b19:Int) (b20:Bool) (b21 b22 b23:List Int) (hL:0≤L∧L≤1000000) (l:List Int) (hl:l.length≤1801) (hb:∀ a∈l,-68719476736≤a∧a≤68719476736) :
  ∀ (g k:Nat) (acc:List Pd),k+g=l.length→acc.length≤k→Ok (qep f t acc.length l l.length k b0 b1 b2 b3 b4 b5 b6 b7 b8 b9 b10 b11 b12 b13 b14 L b16 b17 b18 b19 b20 b21 b22 b23 acc) fun r=>r.1.2.2.2.1=(acc++(l.drop k).map (clipP f t L)).length∧r.2.2=acc++(l.drop k).map (clipP f t L):=by
 intro g
 induction g with
 |zero =>
  intro k acc hk ha
  refine .via qer ?_
  unfold qev
  rw [show decide ((k:Int)<(l.length:Int))=false by simp;omega]
  refine qtd (EC.isL_encL _ _) (qtd (EC.isL_encL _ _) (qtd (EC.isL_encL _ _) (qtd (EC.isL_encL _ _) (qtd (EC.isL_encL _ _) (qtd (EC.isL_encL _ _) (qte ?_))))))
  rw [List.drop_eq_nil_of_le (by omega)]
  simp only [List.map_nil,List.append_nil,EC.decL_encL,and_self]
 |succ g ih =>
  intro k acc hk ha
  have hlt:k<l.length:=by omega
  refine .via qer ?_
  unfold qev
  have hB:=hb _ (List.getElem_mem hlt)
  have hw:IntKind.i64.wrap (l[k]+IntKind.i64.wrap (60*L))=l[k]+60*L:=by rw [q15f (x:=60*L) (by omega) (by omega),q15f (by omega) (by omega)]
  rw [show decide ((k:Int)<(l.length:Int))=true by simp;omega,q15g (n:=1801) (by omega) (by omega)]
  refine qtd (by simp) (qtd (by rw [qmh];simp only [Bool.and_eq_true,decide_eq_true_eq,EC.encL_length,Int.toNat_natCast];omega) ?_)
  simp only [q3g,q2w,Int.toNat_natCast,qiw hlt,hw,if_true,Bool.false_eq_true,if_false]
  refine qtd ?_ (qtd (EC.isL_encL _ _) (qtd (EC.isL_encL _ _) (qtd (EC.isL_encL _ _) (qtd (EC.isL_encL _ _) (qtd (EC.isL_encL _ _) (qtd (EC.isL_encL _ _) ?_))))))
  ·rw [q29]
   simp only [List.all_cons,List.all_nil,List.length_cons,List.length_nil,Bool.and_true,beq_self_eq_true,Bool.true_and,Bool.and_eq_true,decide_eq_true_eq]
   omega
  simp only [EC.decL_encL]
  have:=ih (k+1) (acc++[clipP f t L l[k]]) (by omega) (by simp;omega)
  rw [qcv hlt,List.map_cons]
  rw [List.append_assoc,List.singleton_append,List.length_append] at this
  exact this
theorem evt_sp (x:Ev) (zs:List Zo) (f t:Int) (hz:zs.length≤60) (hw:x.Repeat_Weekdays.length≤9223372036854775807) (hf:-68719476736≤f) (hft:f≤t) (ht:t≤68719476736) :
  evt_s x.Uid x.Method x.Sequence x.Summary x.Place x.Organizer x.Guests x.Zone x.Start_Year x.Start_Month x.Start_Day x.Start_Hour x.Start_Minute x.Start_Second x.Start_Zone x.Length x.Repeat_Frequency x.Repeat_Every x.Repeat_Count x.Repeat_Until x.Repeat_HasUntil x.Repeat_Weekdays x.Repeat_Except x.Repeat_Add zs f t
   = some ((((evP zs x f t).2.map (clipP f t x.Length)).length,(evP zs x f t).1),(evP zs x f t).2.map (clipP f t x.Length)):=by
 have h:Ok (evt_s x.Uid x.Method x.Sequence x.Summary x.Place x.Organizer x.Guests x.Zone x.Start_Year x.Start_Month x.Start_Day x.Start_Hour x.Start_Minute x.Start_Second x.Start_Zone x.Length x.Repeat_Frequency x.Repeat_Every x.Repeat_Count x.Repeat_Until x.Repeat_HasUntil x.Repeat_Weekdays x.Repeat_Except x.Repeat_Add zs f t) fun r=>r=((((evP zs x f t).2.map (clipP f t x.Length)).length,(evP zs x f t).1),(evP zs x f t).2.map (clipP f t x.Length)):=.via evt_eq (by
  unfold evt_t
  refine qtd (EC.isL_encL _ _) (qtd (EC.isL_encL _ _) (qtd (EC.isL_encL _ _) (qtd (EC.isL_encL _ _) (qtd (EC.isL_encL _ _) ?_))))
  simp only [EC.decL_encL,EC.encL_length]
  refine qta (qlz x zs hz) ?_
  refine qtc (fun h0=>qte ?_) fun h0=>?_
  ·simp at h0
   unfold evP
   rw [if_pos h0]
   rfl
  simp at h0
  refine qtc (fun h1=>?_) fun h1=>qte ?_
  ·refine qtc (fun h2=>qte ?_) fun h2=>?_
   ·simp at h2
    unfold evP
    rw [if_neg (by omega),if_pos (Or.inr h2)]
    rfl
   simp at h1 h2
   have hlt:(gidx (inZ x) 0 zs).toNat<zs.length:=by
    rcases qj3 (inZ x) zs 0 with ⟨e,_⟩|⟨i,hi,e,_⟩
    ·omega
    ·rw [e];simpa using hi
   refine qtd (by simpa using h0) (qtd (by rw [qmm];simp only [Bool.and_eq_true,decide_eq_true_eq];exact ⟨hlt,hlt⟩) (qtd (EC.isL_encL _ _) (qtd (EC.isL_encL _ _) (qtd (EC.isL_encL _ _) ?_))))
   rw [zt_at]
   have hw1:IntKind.i64.wrap (f - IntKind.i64.wrap (60*x.Length))=f - 60*x.Length:=by
    rw [q15f (x:=60*x.Length) (by omega) (by omega),q15f (by omega) (by omega)]
   simp only [hw1,if_true]
   obtain ⟨hB,hP⟩:=q6s zs x f t hw
   refine qta hB ?_
   have hev:evP zs x f t=((betV zs x f t).2.1,if x.Method=4 then [] else (betV zs x f t).1):=by
    unfold evP
    rw [if_neg (by omega),if_neg (by omega)]
   refine qta (qf6 _ _) ?_
   rw [hev]
   refine qtc (fun h3=>qtc (fun h4=>qte ?_) fun h4=>?_) fun h3=>qte ?_
   ·rw [if_pos (by simpa using h4)]
    rfl
   ·have h4':x.Method≠4:=by simpa using h4
    have h3':(betV zs x f t).2.1=0:=by simpa using h3
    rw [if_neg h4']
    refine qtd (EC.isL_encL _ _) (qtd (EC.isL_encL _ _) (qtd (EC.isL_encL _ _) (qtd (EC.isL_encL _ _) (qtd (EC.isL_encL _ _) ?_))))
    have hb:∀ a∈(betV zs x f t).1,-68719476736≤a∧a≤68719476736:=fun a ha=>by
     have h1:=hP.2.1 a ha
     have h2:=hP.2.2.2 h3'
     omega
    refine qtb (qeo f t x.Length _ _ _ _ _ _ _ _ _ _ _ _ _ _ _ _ _ _ _ _ _ _ _ ⟨by omega,by omega⟩ (betV zs x f t).1 hP.2.2.1 hb (betV zs x f t).1.length 0 [] (by omega) (by simp)) fun r hr=>?_
    rw [List.drop_zero,List.nil_append] at hr
    refine qtd (EC.isL_encL _ _) (qte ?_)
    rw [hr.1,hr.2,h3']
   ·have h3':(betV zs x f t).2.1≠0:=by simpa using h3
    rw [hP.1 h3',ite_self]
    rfl
  ·simp at h1
   unfold evP
   rw [if_neg (by omega),if_pos (Or.inl h1)]
   rfl)
 obtain ⟨r,e,rfl⟩:=h
 exact e
end
end Go.Proofs.YtfakibajjibjjaaGreatDoor
