/- The forms of fields: they answer. -/
import Derived.Test.YtmlcmoaonaomfaaGreatDoorZ29
import Derived.Shelf.Strings.Builder1
import Derived.Shelf.Strings.Builder2
import Derived.Shelf.Strings.OnBuilder
import Derived.Shelf.Small.Utf8
import Derived.Shelf.Small.Strs
import Derived.Shelf.Strings.BuilderF
import Derived.Shelf.Strings.Builder2Cap
import Derived.Shelf.Strconv.Atoi
import Derived.Shelf.Strconv.Itoa0
import Derived.Shelf.Strconv.Itoa1
import Derived.Shelf.LaysM
import Derived.Shelf.Strconv.Itoa2
import Derived.Shelf.Strconv.Itoa3
import Derived.Shelf.Strconv.AtoiErrFast
import Derived.Shelf.Strconv.ParseIntEmpty
import Derived.Shelf.Strconv.AtoiFail
import Derived.Shelf.Strconv.Clone
import Derived.Shelf.Strconv.SyntaxError
import Derived.Shelf.LaysC
import Derived.Shelf.Strconv.ToError
import Derived.Shelf.Strconv.Lower
import Derived.Shelf.Strconv.ParseUint10
import Derived.Shelf.Strconv.ParseUint10Empty
import Derived.Shelf.Strconv.ParseUint10Any
import Derived.Shelf.Strconv.ParseInt10
import Derived.Shelf.Strconv.AtoiLong
import Derived.Shelf.Strconv.AtoiInnerAll
import Derived.Shelf.Strconv.RangeError
import Derived.Shelf.Strconv.ToErrorRange
import Derived.Shelf.Strconv.AtoiAll
import Derived.Shelf.Strings.Search1
import Derived.Shelf.Strings.Search2
import Derived.Shelf.Strings.Search3
import Derived.Shelf.Strings.Cut
import Derived.Shelf.Strings.Count
import Derived.Shelf.Strings.Shaped
import Derived.Shelf.Strings.Prefix
import Derived.Shelf.Strings.Runes
import Derived.Shelf.Strings.IndexAny
import Derived.Shelf.Strings.AsciiSet
import Derived.Shelf.Strings.IndexAnyAll
import Derived.Shelf.Bits.Mul64
import Derived.Shelf.Strings.Repeat
import Derived.Shelf.Bytes.SlIndexSmall
import Derived.Shelf.Bytes.SlIndexAt
import Derived.Shelf.Bytes.SlSearch0
import Derived.Shelf.Bytes.SlSearch1
import Derived.Shelf.Bytes.SlSearch2
import Derived.Shelf.Bytes.SlIndexWhole
import Derived.Shelf.Bytes.Small
import Derived.Shelf.Bytes.IndexByte
import Derived.Test.YtmlcmoaonaomfaaGreatDoorZ01
import Derived.Test.YtmlcmoaonaomfaaGreatDoorChecked
namespace Go.Proofs.YtmlcmoaonaomfaaGreatDoor
set_option linter.unusedSimpArgs false
open Go.RowKit
set_option maxRecDepth 100000 in
theorem qge (l:List S71) (hl:l.length<=60) (ha:∀ x∈l,fieldB x) (n:BA) (hn:n.size<=2000000) (t24:List BA) (t25 t26 b0 b01:Int) (b1:List Bool) (hb1:b1.length=l.length) (b2:List Int) (hb2:b2.length<=1000000000):∀ k:Nat,k<=l.length ->
  Ok (q9a l l.length b2.length n ((k:Int) - 1) t24 t25 t26 b0 b01 b1 b2) λx=>Sum.elim (λr=>∃ i,r=((l,(),l.length,b2.length,n,i,t24,t25,t26,false),(b0,b01),b1,b2)) (λr=>∃ (c1:List Bool) (c2:List Int),r=((l,(),l.length,c2.length,t24,t25,t26),(b0,b01),c1,c2)/\c1.length=l.length/\c2.length<=b2.length+5000) x:=by
 intro k
 induction k with
 |zero =>
  intro hk
  refine .via q9c ?_
  unfold q9h
  try simp only [gL,dL,lN,eC,p0,aL,dQ]
  simp only [x25q,x26q,x27q,qol,q4x,q3k,q43,q164,qoo,q52,q3n,q46,q16b,qom,q4y,q4z,q3l,q44,q166,q165,q167,qon,q50,q51,q3m,q45,q169,q168,q16a,qoh,q4c,q4d,q4e,q4f,q4g,q4h,q3g,q3z,q15h,q15g,q15i,q15j,q15k,q15l,q15m,qoj,q4j,q4k,q4o,q4p,q4q,q4r,q4s,q4t,q4u,q4v,q4l,q4m,q4n,q3i,q41,q15p,q15o,q15u,q15t,q15v,q15w,q15x,q15y,q15z,q160,q161,q162,q15q,q15r,q15s,qoi,q4i,q3h,q40,q15n,qog,q4b,q3f,q3y,q15f,qok,q4w,q3j,q42,q163]
  refine qu7 (λh=>?_) (λ_=>qu9 rfl (qu9 rfl (qu9 rfl (qu9 rfl (qua ⟨_,rfl⟩)))))
  have:=of_decide_eq_true h
  omega
 |succ k ih =>
  intro hk
  have hlt:k<l.length:=by omega
  have hlb:k<b1.length:=by omega
  have e1:((k+1:Nat):Int) - 1=(k:Int):=by omega
  have e2:IntKind.i64.wrap ((k:Int) - 1)=(k:Int) - 1:=q1es (by omega)
  have ih:=ih (by omega)
  rw [e1]
  refine .via q9c ?_
  unfold q9h
  try simp only [gL,dL,lN,eC,p0,aL,dQ]
  simp only [x25q,x26q,x27q,qol,q4x,q3k,q43,q164,qoo,q52,q3n,q46,q16b,qom,q4y,q4z,q3l,q44,q166,q165,q167,qon,q50,q51,q3m,q45,q169,q168,q16a,qoh,q4c,q4d,q4e,q4f,q4g,q4h,q3g,q3z,q15h,q15g,q15i,q15j,q15k,q15l,q15m,qoj,q4j,q4k,q4o,q4p,q4q,q4r,q4s,q4t,q4u,q4v,q4l,q4m,q4n,q3i,q41,q15p,q15o,q15u,q15t,q15v,q15w,q15x,q15y,q15z,q160,q161,q162,q15q,q15r,q15s,qoi,q4i,q3h,q40,q15n,qog,q4b,q3f,q3y,q15f,qok,q4w,q3j,q42,q163,x3q,e2]
  have nx:=qu9 (q:=true) rfl (qu9 (q:=true) rfl (qu9 (q:=true) rfl (qu9 (q:=true) rfl ih)))
  have g1:(decide (k<b1.length)&&(((qcx.encL b1).getD k []).length==(1:Nat)))=true:=by
   rw [EC.getD_lt _ _ hlb]
   simp [hlb]
   rfl
  have g2:isP [K1.bool] (0:Nat) ((qcx.encL b1).getD k [])=true:=by
   rw [EC.getD_lt _ _ hlb]
   rfl
  refine qu7 (λ_=>qu9 (by simp;omega) (qu9 g1 (qu9 g2 (qu7 (λ_=>qu9 (by simp) (qu9 (by simp [hlt]) ?_)) (λ_=>nx))))) (λh=>?_)
  ·rw [qk6 hlt]
   obtain ⟨f1,f2,_⟩:=ha _ (List.getElem_mem hlt)
   have f0:=qh9 f1
   refine qu6 (qu8 (same_s _ _ (by omega) (by omega))) λr _=>qu7 (λ_=>?_) (λ_=>nx)
   refine qu9 (by simp;omega) (qu9 g1 (qu9 (by simp) (qu9 (by simp [hlt]) (qu6 (qh4 _ _ (by omega) (by omega)) λr1 hr1=>?_))))
   have hil:=qo9 r1
   simp only [bmap,qdf,x25q,x26q,x27q,q3k,hil]
   refine qu9 (by simp;omega) (qu9 rfl (qu9 rfl (qu9 rfl (qu9 rfl (qua ⟨b1.set k true,b2++ints r1,?_,?_,?_⟩)))))
   ·rw [x12q,hil]
   ·rw [List.length_set];exact hb1
   ·rw [x12q,hil];omega
  ·have:=of_decide_eq_false h
   omega
set_option maxRecDepth 100000 in
theorem qhc (l:List S71) (hl:l.length<=60) (ha:∀ x∈l,fieldB x) (names:List BA) (hnl:names.length<=300) (hn:∀ n∈names,n.size<=2000000) (b0 b01:Int):∀ (m k:Nat) (b1:List Bool) (b2:List Int),k+m=names.length->b1.length=l.length->b2.length+m*5000<=1000000000 ->
  Ok (q9i l l.length b2.length names names.length k b0 b01 b1 b2) λx=>x.1.2.2.2.1=x.2.2.2.length/\x.2.2.2.length<=b2.length+m*5000:=by
 intro m
 induction m with
 |zero =>
  intro k b1 b2 hk hb1 hb2
  refine .via q9k ?_
  unfold q9o
  try simp only [gL,dL,lN,eC,wI,p0]
  simp only [x25q,x26q,x27q,qol,q4x,q3k,q43,q164,qoo,q52,q3n,q46,q16b,qom,q4y,q4z,q3l,q44,q166,q165,q167,qon,q50,q51,q3m,q45,q169,q168,q16a,qoh,q4c,q4d,q4e,q4f,q4g,q4h,q3g,q3z,q15h,q15g,q15i,q15j,q15k,q15l,q15m,qoj,q4j,q4k,q4o,q4p,q4q,q4r,q4s,q4t,q4u,q4v,q4l,q4m,q4n,q3i,q41,q15p,q15o,q15u,q15t,q15v,q15w,q15x,q15y,q15z,q160,q161,q162,q15q,q15r,q15s,qoi,q4i,q3h,q40,q15n,qog,q4b,q3f,q3y,q15f,qok,q4w,q3j,q42,q163]
  refine qu7 (λh=>?_) (λ_=>qu9 rfl (qu9 rfl (qu9 rfl (qu9 rfl (qua ⟨rfl,Nat.le_add_right _ _⟩)))))
  have:=of_decide_eq_true h
  omega
 |succ m ih =>
  intro k b1 b2 hk hb1 hb2
  have hlt:k<names.length:=by omega
  have e2:IntKind.i64.wrap ((k:Int)+1)=((k+1:Nat):Int):=by rw [q1es (by omega)];rfl
  have e3:IntKind.i64.wrap ((l.length:Int) - 1)=(l.length:Int) - 1:=q1es (by omega)
  refine .via q9k ?_
  unfold q9o
  try simp only [gL,dL,lN,eC,wI,p0]
  simp only [x25q,x26q,x27q,qol,q4x,q3k,q43,q164,qoo,q52,q3n,q46,q16b,qom,q4y,q4z,q3l,q44,q166,q165,q167,qon,q50,q51,q3m,q45,q169,q168,q16a,qoh,q4c,q4d,q4e,q4f,q4g,q4h,q3g,q3z,q15h,q15g,q15i,q15j,q15k,q15l,q15m,qoj,q4j,q4k,q4o,q4p,q4q,q4r,q4s,q4t,q4u,q4v,q4l,q4m,q4n,q3i,q41,q15p,q15o,q15u,q15t,q15v,q15w,q15x,q15y,q15z,q160,q161,q162,q15q,q15r,q15s,qoi,q4i,q3h,q40,q15n,qog,q4b,q3f,q3y,q15f,qok,q4w,q3j,q42,q163,x3q,e3]
  refine qu7 (λ_=>qu9 (by simp) (qu9 (by simp [hlt]) (qu9 rfl (qu9 rfl (qu9 rfl (qu9 rfl ?_)))))) (λh=>?_)
  ·rw [qk6 hlt]
   refine qu6 (qge l hl ha _ (hn _ (List.getElem_mem hlt)) names names.length k b0 b01 b1 hb1 b2 (by omega) l.length (by omega)) ?_
   rintro (x|x) hx
   ·obtain ⟨i,rfl⟩:=hx
    simp only [Sum.elim_inl,e2]
    refine qu9 rfl (qu9 rfl (qu9 rfl (qu9 rfl ((ih (k+1) b1 b2 (by omega) hb1 (by omega)).mono λx h=>⟨h.1,by omega⟩))))
   ·obtain ⟨c1,c2,rfl,h1,h2⟩:=hx
    simp only [Sum.elim_inr,e2]
    refine qu9 rfl (qu9 rfl (qu9 rfl (qu9 rfl ((ih (k+1) c1 c2 (by omega) h1 (by omega)).mono λx h=>⟨h.1,by omega⟩))))
  ·have:=of_decide_eq_false h
   omega
theorem qh7 (l:List S71) (names:List BA) (hn:∀ n∈names,n.size<=2000000):Ok (q9p l names) λr=>r.1.1=r.2.length/\r.2.length<=10000000:=.via q99 (by
 unfold q9q
 try simp only [gL,dL,lN,p0]
 simp only [x25q,x26q,x27q,qj,x3q]
 obtain ⟨r0,e0,p0⟩:=qn3 l
 refine qu9 rfl (qu6 (qu8 e0) λr hr=>?_)
 subst hr
 refine qu6 (qu8 (qgb _ _)) λr1 hr1=>?_
 subst hr1
 refine qu7 (λ_=>qua ⟨rfl,by simp⟩) (λhb0=>qu7 (λ_=>qu6 (qgc _ _) λ_ _=>qua ⟨rfl,by simp⟩) (λh300=>?_))
 have h0:r.1=0:=by simpa using hb0
 obtain ⟨hl,ha⟩:=p0 h0
 have h3:names.length<=300:=by have:=of_decide_eq_false h300;omega
 have e1:List.replicate l.length [C.bool false]=qcx.encL (List.replicate l.length false):=EC_rep qcx l.length false
 rw [e1,x25q,x26q]
 refine qu9 (by simp;omega) (qu9 rfl (qu9 rfl (qu9 rfl ?_)))
 have:=qhc l hl ha names h3 hn 0 0 names.length 0 (List.replicate l.length false) [] (by omega) (by simp) (by simp;omega)
 refine qu6 this λr2 hr2=>qu6 qtj λr3 _=>qu9 rfl (qu9 rfl (qua ⟨hr2.1,?_⟩))
 have:=hr2.2
 simp at this
 show r2.2.2.2.length<=_
 omega)
end Go.Proofs.YtmlcmoaonaomfaaGreatDoor
namespace Go.Proofs.YtmlcmoaonaomfaaGreatDoor
set_option linter.unusedSimpArgs false
open Go.Shelf
set_option maxRecDepth 100000
def qq3:Go.Shelf.Ren:=⟨λ|144=>163|143=>192|219=>167|217=>71|225=>195|224=>189|267=>196|266=>109|314=>213|n=>n,λ|9=>9|4=>4|3=>3|5=>5|46=>145|146=>174|51=>173|n=>n,λ|1=>0|n=>n⟩
theorem lays144:Go.Proofs.Lays.n144 Tryz.prog qq3:={
 mixed:=by kernel_rfl
 f143:=Tryz.func192.trans (congrArg some (by kernel_rfl))
 f144:=Tryz.func163.trans (congrArg some (by kernel_rfl))
 f217:=Tryz.func71.trans (congrArg some (by kernel_rfl))
 f219:=Tryz.func167.trans (congrArg some (by kernel_rfl))
 f224:=Tryz.func189.trans (congrArg some (by kernel_rfl))
 f225:=Tryz.func195.trans (congrArg some (by kernel_rfl))
 f266:=Tryz.func109.trans (congrArg some (by kernel_rfl))
 f267:=Tryz.func196.trans (congrArg some (by kernel_rfl))
 f314:=Tryz.func213.trans (congrArg some (by kernel_rfl))
 t3:=Tryz.underlying3
 a3:=Tryz.isAgg3
 z3:=Tryz.sizeOf3
 v3:=Tryz.zeroValue3
 t4:=Tryz.underlying4
 a4:=Tryz.isAgg4
 z4:=Tryz.sizeOf4
 v4:=Tryz.zeroValue4
 t5:=Tryz.underlying5
 a5:=Tryz.isAgg5
 z5:=Tryz.sizeOf5
 v5:=Tryz.zeroValue5
 t9:=Tryz.underlying9
 a9:=Tryz.isAgg9
 z9:=Tryz.sizeOf9
 v9:=Tryz.zeroValue9
 t46:=Tryz.underlying145
 a46:=Tryz.isAgg145
 z46:=Tryz.sizeOf145
 v46:=Tryz.zeroValue145
 t51:=Tryz.underlying173
 a51:=Tryz.isAgg173
 z51:=Tryz.sizeOf173
 v51:=Tryz.zeroValue173
 t146:=Tryz.underlying174
 a146:=Tryz.isAgg174
 z146:=Tryz.sizeOf174
 v146:=Tryz.zeroValue174
 g1:=by kernel_rfl }
def qq4:Go.Shelf.Ren:=⟨λ|145=>125|220=>147|219=>167|217=>71|225=>195|224=>189|267=>196|266=>109|314=>213|n=>n,λ|9=>9|4=>4|59=>166|3=>3|5=>5|46=>145|146=>174|51=>173|n=>n,λ|1=>0|n=>n⟩
theorem lays145:Go.Proofs.Lays.n145 Tryz.prog qq4:={
 mixed:=by kernel_rfl
 f145:=Tryz.func125.trans (congrArg some (by kernel_rfl))
 f217:=Tryz.func71.trans (congrArg some (by kernel_rfl))
 f219:=Tryz.func167.trans (congrArg some (by kernel_rfl))
 f220:=Tryz.func147.trans (congrArg some (by kernel_rfl))
 f224:=Tryz.func189.trans (congrArg some (by kernel_rfl))
 f225:=Tryz.func195.trans (congrArg some (by kernel_rfl))
 f266:=Tryz.func109.trans (congrArg some (by kernel_rfl))
 f267:=Tryz.func196.trans (congrArg some (by kernel_rfl))
 f314:=Tryz.func213.trans (congrArg some (by kernel_rfl))
 t3:=Tryz.underlying3
 a3:=Tryz.isAgg3
 z3:=Tryz.sizeOf3
 v3:=Tryz.zeroValue3
 t4:=Tryz.underlying4
 a4:=Tryz.isAgg4
 z4:=Tryz.sizeOf4
 v4:=Tryz.zeroValue4
 t5:=Tryz.underlying5
 a5:=Tryz.isAgg5
 z5:=Tryz.sizeOf5
 v5:=Tryz.zeroValue5
 t9:=Tryz.underlying9
 a9:=Tryz.isAgg9
 z9:=Tryz.sizeOf9
 v9:=Tryz.zeroValue9
 t46:=Tryz.underlying145
 a46:=Tryz.isAgg145
 z46:=Tryz.sizeOf145
 v46:=Tryz.zeroValue145
 t51:=Tryz.underlying173
 a51:=Tryz.isAgg173
 z51:=Tryz.sizeOf173
 v51:=Tryz.zeroValue173
 t59:=Tryz.underlying166
 a59:=Tryz.isAgg166
 z59:=Tryz.sizeOf166
 v59:=Tryz.zeroValue166
 t146:=Tryz.underlying174
 a146:=Tryz.isAgg174
 z146:=Tryz.sizeOf174
 v146:=Tryz.zeroValue174
 g1:=by kernel_rfl }
def qq1:Go.Shelf.Ren:=⟨λ|137=>38|217=>71|266=>109|n=>n,λ|9=>9|5=>5|3=>3|n=>n,λ|n=>n⟩
theorem lays137:Go.Proofs.Lays.n137 Tryz.prog qq1:={
 mixed:=by kernel_rfl
 f137:=Tryz.func38.trans (congrArg some (by kernel_rfl))
 f217:=Tryz.func71.trans (congrArg some (by kernel_rfl))
 f266:=Tryz.func109.trans (congrArg some (by kernel_rfl))
 t3:=Tryz.underlying3
 a3:=Tryz.isAgg3
 z3:=Tryz.sizeOf3
 v3:=Tryz.zeroValue3
 t5:=Tryz.underlying5
 a5:=Tryz.isAgg5
 z5:=Tryz.sizeOf5
 v5:=Tryz.zeroValue5
 t9:=Tryz.underlying9
 a9:=Tryz.isAgg9
 z9:=Tryz.sizeOf9
 v9:=Tryz.zeroValue9 }
def qq0:Go.Shelf.Ren:=⟨λ|119=>205|n=>n,λ|21=>21|4=>4|n=>n,λ|n=>n⟩
theorem lays119:Go.Proofs.Lays.n119 Tryz.prog qq0:={
 mixed:=by kernel_rfl
 f119:=Tryz.func205.trans (congrArg some (by kernel_rfl))
 t4:=Tryz.underlying4
 a4:=Tryz.isAgg4
 z4:=Tryz.sizeOf4
 v4:=Tryz.zeroValue4
 t21:=Tryz.underlying21
 a21:=Tryz.isAgg21
 z21:=Tryz.sizeOf21
 v21:=Tryz.zeroValue21 }
def qq5:Go.Shelf.Ren:=⟨λ|152=>179|137=>38|119=>205|224=>189|225=>195|217=>71|266=>109|n=>n,λ|9=>9|21=>21|3=>3|4=>4|5=>5|0=>0|46=>145|n=>n,λ|n=>n⟩
theorem lays152:Go.Proofs.Lays.n152 Tryz.prog qq5:={
 mixed:=by kernel_rfl
 f119:=Tryz.func205.trans (congrArg some (by kernel_rfl))
 f137:=Tryz.func38.trans (congrArg some (by kernel_rfl))
 f152:=Tryz.func179.trans (congrArg some (by kernel_rfl))
 f217:=Tryz.func71.trans (congrArg some (by kernel_rfl))
 f224:=Tryz.func189.trans (congrArg some (by kernel_rfl))
 f225:=Tryz.func195.trans (congrArg some (by kernel_rfl))
 f266:=Tryz.func109.trans (congrArg some (by kernel_rfl))
 t0:=Tryz.underlying0
 a0:=Tryz.isAgg0
 z0:=Tryz.sizeOf0
 v0:=Tryz.zeroValue0
 t3:=Tryz.underlying3
 a3:=Tryz.isAgg3
 z3:=Tryz.sizeOf3
 v3:=Tryz.zeroValue3
 t4:=Tryz.underlying4
 a4:=Tryz.isAgg4
 z4:=Tryz.sizeOf4
 v4:=Tryz.zeroValue4
 t5:=Tryz.underlying5
 a5:=Tryz.isAgg5
 z5:=Tryz.sizeOf5
 v5:=Tryz.zeroValue5
 t9:=Tryz.underlying9
 a9:=Tryz.isAgg9
 z9:=Tryz.sizeOf9
 v9:=Tryz.zeroValue9
 t21:=Tryz.underlying21
 a21:=Tryz.isAgg21
 z21:=Tryz.sizeOf21
 v21:=Tryz.zeroValue21
 t46:=Tryz.underlying145
 a46:=Tryz.isAgg145
 z46:=Tryz.sizeOf145
 v46:=Tryz.zeroValue145 }
def qq6:Go.Shelf.Ren:=⟨λ|153=>155|152=>179|226=>180|227=>181|228=>182|137=>38|119=>205|224=>189|225=>195|217=>71|266=>109|n=>n,λ|9=>9|3=>3|4=>4|5=>5|21=>21|117=>250|116=>249|0=>0|46=>145|124=>275|n=>n,λ|n=>n⟩
theorem lays153:Go.Proofs.Lays.n153 Tryz.prog qq6:={
 mixed:=by kernel_rfl
 f119:=Tryz.func205.trans (congrArg some (by kernel_rfl))
 f137:=Tryz.func38.trans (congrArg some (by kernel_rfl))
 f152:=Tryz.func179.trans (congrArg some (by kernel_rfl))
 f153:=Tryz.func155.trans (congrArg some (by kernel_rfl))
 f217:=Tryz.func71.trans (congrArg some (by kernel_rfl))
 f224:=Tryz.func189.trans (congrArg some (by kernel_rfl))
 f225:=Tryz.func195.trans (congrArg some (by kernel_rfl))
 f226:=Tryz.func180.trans (congrArg some (by kernel_rfl))
 f227:=Tryz.func181.trans (congrArg some (by kernel_rfl))
 f228:=Tryz.func182.trans (congrArg some (by kernel_rfl))
 f266:=Tryz.func109.trans (congrArg some (by kernel_rfl))
 t0:=Tryz.underlying0
 a0:=Tryz.isAgg0
 z0:=Tryz.sizeOf0
 v0:=Tryz.zeroValue0
 t3:=Tryz.underlying3
 a3:=Tryz.isAgg3
 z3:=Tryz.sizeOf3
 v3:=Tryz.zeroValue3
 t4:=Tryz.underlying4
 a4:=Tryz.isAgg4
 z4:=Tryz.sizeOf4
 v4:=Tryz.zeroValue4
 t5:=Tryz.underlying5
 a5:=Tryz.isAgg5
 z5:=Tryz.sizeOf5
 v5:=Tryz.zeroValue5
 t9:=Tryz.underlying9
 a9:=Tryz.isAgg9
 z9:=Tryz.sizeOf9
 v9:=Tryz.zeroValue9
 t21:=Tryz.underlying21
 a21:=Tryz.isAgg21
 z21:=Tryz.sizeOf21
 v21:=Tryz.zeroValue21
 t46:=Tryz.underlying145
 a46:=Tryz.isAgg145
 z46:=Tryz.sizeOf145
 v46:=Tryz.zeroValue145
 t116:=Tryz.underlying249
 a116:=Tryz.isAgg249
 z116:=Tryz.sizeOf249
 t117:=Tryz.underlying250
 a117:=Tryz.isAgg250
 z117:=Tryz.sizeOf250
 v117:=Tryz.zeroValue250
 t124:=Tryz.underlying275
 a124:=Tryz.isAgg275
 z124:=Tryz.sizeOf275
 v124:=Tryz.zeroValue275 }
def qqc:Go.Shelf.Ren:=⟨λ|171=>67|243=>105|246=>133|283=>151|284=>152|285=>153|286=>154|129=>175|317=>174|318=>176|319=>177|320=>178|337=>203|338=>204|n=>n,λ|3=>3|9=>9|2=>2|4=>4|171=>211|0=>0|53=>31|37=>26|5=>5|173=>214|212=>244|51=>173|20=>20|213=>245|46=>145|232=>297|233=>298|n=>n,λ|17=>1|18=>4|19=>5|n=>n⟩
theorem laysM171:Go.Proofs.LaysM.n171 Tryz.prog qqc:={
 mixed:=by kernel_rfl
 f129:=Tryz.func175.trans (congrArg some (by kernel_rfl))
 f171:=Tryz.func67.trans (congrArg some (by kernel_rfl))
 f243:=Tryz.func105.trans (congrArg some (by kernel_rfl))
 f246:=Tryz.func133.trans (congrArg some (by kernel_rfl))
 f283:=Tryz.func151.trans (congrArg some (by kernel_rfl))
 f284:=Tryz.func152.trans (congrArg some (by kernel_rfl))
 f285:=Tryz.func153.trans (congrArg some (by kernel_rfl))
 f286:=Tryz.func154.trans (congrArg some (by kernel_rfl))
 f317:=Tryz.func174.trans (congrArg some (by kernel_rfl))
 f318:=Tryz.func176.trans (congrArg some (by kernel_rfl))
 f319:=Tryz.func177.trans (congrArg some (by kernel_rfl))
 f320:=Tryz.func178.trans (congrArg some (by kernel_rfl))
 f337:=Tryz.func203.trans (congrArg some (by kernel_rfl))
 f338:=Tryz.func204.trans (congrArg some (by kernel_rfl))
 t0:=Tryz.underlying0
 a0:=Tryz.isAgg0
 z0:=Tryz.sizeOf0
 v0:=Tryz.zeroValue0
 t2:=Tryz.underlying2
 a2:=Tryz.isAgg2
 z2:=Tryz.sizeOf2
 v2:=Tryz.zeroValue2
 t3:=Tryz.underlying3
 a3:=Tryz.isAgg3
 z3:=Tryz.sizeOf3
 v3:=Tryz.zeroValue3
 t4:=Tryz.underlying4
 a4:=Tryz.isAgg4
 z4:=Tryz.sizeOf4
 v4:=Tryz.zeroValue4
 t5:=Tryz.underlying5
 a5:=Tryz.isAgg5
 z5:=Tryz.sizeOf5
 v5:=Tryz.zeroValue5
 t9:=Tryz.underlying9
 a9:=Tryz.isAgg9
 z9:=Tryz.sizeOf9
 v9:=Tryz.zeroValue9
 t20:=Tryz.underlying20
 a20:=Tryz.isAgg20
 z20:=Tryz.sizeOf20
 v20:=Tryz.zeroValue20
 t37:=Tryz.underlying26
 a37:=Tryz.isAgg26
 z37:=Tryz.sizeOf26
 v37:=Tryz.zeroValue26
 t46:=Tryz.underlying145
 a46:=Tryz.isAgg145
 z46:=Tryz.sizeOf145
 v46:=Tryz.zeroValue145
 t51:=Tryz.underlying173
 a51:=Tryz.isAgg173
 z51:=Tryz.sizeOf173
 v51:=Tryz.zeroValue173
 t53:=Tryz.underlying31
 a53:=Tryz.isAgg31
 z53:=Tryz.sizeOf31
 v53:=Tryz.zeroValue31
 t171:=Tryz.underlying211
 a171:=Tryz.isAgg211
 z171:=Tryz.sizeOf211
 v171:=Tryz.zeroValue211
 t173:=Tryz.underlying214
 a173:=Tryz.isAgg214
 z173:=Tryz.sizeOf214
 v173:=Tryz.zeroValue214
 t212:=Tryz.underlying244
 a212:=Tryz.isAgg244
 z212:=Tryz.sizeOf244
 v212:=Tryz.zeroValue244
 t213:=Tryz.underlying245
 a213:=Tryz.isAgg245
 z213:=Tryz.sizeOf245
 t232:=Tryz.underlying297
 a232:=Tryz.isAgg297
 z232:=Tryz.sizeOf297
 v232:=Tryz.zeroValue297
 t233:=Tryz.underlying298
 a233:=Tryz.isAgg298
 z233:=Tryz.sizeOf298
 v233:=Tryz.zeroValue298
 g17:=by kernel_rfl
 g18:=by kernel_rfl
 g19:=by kernel_rfl
 i0:=by kernel_rfl
 i2:=by kernel_rfl
 i3:=by kernel_rfl
 i4:=by kernel_rfl
 i5:=by kernel_rfl
 i9:=by kernel_rfl
 i20:=by kernel_rfl
 i37:=by kernel_rfl
 i46:=by kernel_rfl
 i51:=by kernel_rfl
 i53:=by kernel_rfl
 i171:=by kernel_rfl
 i173:=by kernel_rfl
 i212:=by kernel_rfl
 i232:=by kernel_rfl
 i233:=by kernel_rfl
 m17:=by kernel_rfl
 m18:=by kernel_rfl
 m19:=by kernel_rfl }
def qqb:Go.Shelf.Ren:=⟨λ|172=>156|244=>183|245=>184|247=>206|279=>207|280=>208|281=>209|282=>210|287=>223|316=>224|171=>67|205=>225|321=>233|322=>234|243=>105|246=>133|283=>151|284=>152|285=>153|286=>154|129=>175|317=>174|318=>176|319=>177|320=>178|337=>203|338=>204|n=>n,λ|9=>9|3=>3|75=>141|76=>142|4=>4|5=>5|167=>276|37=>26|0=>0|85=>277|2=>2|168=>279|53=>31|175=>299|46=>145|210=>302|127=>165|145=>308|143=>306|21=>21|171=>211|173=>214|212=>244|51=>173|20=>20|213=>245|232=>297|233=>298|80=>144|n=>n,λ|15=>6|16=>7|17=>1|18=>4|19=>5|n=>n⟩
theorem laysC172:Go.Proofs.LaysC.n172 Tryz.prog qqb:={
 mixed:=by kernel_rfl
 f129:=Tryz.func175.trans (congrArg some (by kernel_rfl))
 f171:=Tryz.func67.trans (congrArg some (by kernel_rfl))
 f172:=Tryz.func156.trans (congrArg some (by kernel_rfl))
 f205:=Tryz.func225.trans (congrArg some (by kernel_rfl))
 f243:=Tryz.func105.trans (congrArg some (by kernel_rfl))
 f244:=Tryz.func183.trans (congrArg some (by kernel_rfl))
 f245:=Tryz.func184.trans (congrArg some (by kernel_rfl))
 f246:=Tryz.func133.trans (congrArg some (by kernel_rfl))
 f247:=Tryz.func206.trans (congrArg some (by kernel_rfl))
 f279:=Tryz.func207.trans (congrArg some (by kernel_rfl))
 f280:=Tryz.func208.trans (congrArg some (by kernel_rfl))
 f281:=Tryz.func209.trans (congrArg some (by kernel_rfl))
 f282:=Tryz.func210.trans (congrArg some (by kernel_rfl))
 f283:=Tryz.func151.trans (congrArg some (by kernel_rfl))
 f284:=Tryz.func152.trans (congrArg some (by kernel_rfl))
 f285:=Tryz.func153.trans (congrArg some (by kernel_rfl))
 f286:=Tryz.func154.trans (congrArg some (by kernel_rfl))
 f287:=Tryz.func223.trans (congrArg some (by kernel_rfl))
 f316:=Tryz.func224.trans (congrArg some (by kernel_rfl))
 f317:=Tryz.func174.trans (congrArg some (by kernel_rfl))
 f318:=Tryz.func176.trans (congrArg some (by kernel_rfl))
 f319:=Tryz.func177.trans (congrArg some (by kernel_rfl))
 f320:=Tryz.func178.trans (congrArg some (by kernel_rfl))
 f321:=Tryz.func233.trans (congrArg some (by kernel_rfl))
 f322:=Tryz.func234.trans (congrArg some (by kernel_rfl))
 f337:=Tryz.func203.trans (congrArg some (by kernel_rfl))
 f338:=Tryz.func204.trans (congrArg some (by kernel_rfl))
 t0:=Tryz.underlying0
 a0:=Tryz.isAgg0
 z0:=Tryz.sizeOf0
 v0:=Tryz.zeroValue0
 t2:=Tryz.underlying2
 a2:=Tryz.isAgg2
 z2:=Tryz.sizeOf2
 v2:=Tryz.zeroValue2
 t3:=Tryz.underlying3
 a3:=Tryz.isAgg3
 z3:=Tryz.sizeOf3
 v3:=Tryz.zeroValue3
 t4:=Tryz.underlying4
 a4:=Tryz.isAgg4
 z4:=Tryz.sizeOf4
 v4:=Tryz.zeroValue4
 t5:=Tryz.underlying5
 a5:=Tryz.isAgg5
 z5:=Tryz.sizeOf5
 v5:=Tryz.zeroValue5
 t9:=Tryz.underlying9
 a9:=Tryz.isAgg9
 z9:=Tryz.sizeOf9
 v9:=Tryz.zeroValue9
 t20:=Tryz.underlying20
 a20:=Tryz.isAgg20
 z20:=Tryz.sizeOf20
 v20:=Tryz.zeroValue20
 t21:=Tryz.underlying21
 a21:=Tryz.isAgg21
 z21:=Tryz.sizeOf21
 v21:=Tryz.zeroValue21
 t37:=Tryz.underlying26
 a37:=Tryz.isAgg26
 z37:=Tryz.sizeOf26
 v37:=Tryz.zeroValue26
 t46:=Tryz.underlying145
 a46:=Tryz.isAgg145
 z46:=Tryz.sizeOf145
 v46:=Tryz.zeroValue145
 t51:=Tryz.underlying173
 a51:=Tryz.isAgg173
 z51:=Tryz.sizeOf173
 v51:=Tryz.zeroValue173
 t53:=Tryz.underlying31
 a53:=Tryz.isAgg31
 z53:=Tryz.sizeOf31
 v53:=Tryz.zeroValue31
 t75:=Tryz.underlying141
 a75:=Tryz.isAgg141
 z75:=Tryz.sizeOf141
 v75:=Tryz.zeroValue141
 t76:=Tryz.underlying142
 a76:=Tryz.isAgg142
 z76:=Tryz.sizeOf142
 v76:=Tryz.zeroValue142
 t85:=Tryz.underlying277
 a85:=Tryz.isAgg277
 z85:=Tryz.sizeOf277
 v85:=Tryz.zeroValue277
 t127:=Tryz.underlying165
 a127:=Tryz.isAgg165
 z127:=Tryz.sizeOf165
 v127:=Tryz.zeroValue165
 t143:=Tryz.underlying306
 a143:=Tryz.isAgg306
 z143:=Tryz.sizeOf306
 v143:=Tryz.zeroValue306
 t145:=Tryz.underlying308
 a145:=Tryz.isAgg308
 z145:=Tryz.sizeOf308
 v145:=Tryz.zeroValue308
 t167:=Tryz.underlying276
 a167:=Tryz.isAgg276
 z167:=Tryz.sizeOf276
 v167:=Tryz.zeroValue276
 t168:=Tryz.underlying279
 a168:=Tryz.isAgg279
 z168:=Tryz.sizeOf279
 v168:=Tryz.zeroValue279
 t171:=Tryz.underlying211
 a171:=Tryz.isAgg211
 z171:=Tryz.sizeOf211
 v171:=Tryz.zeroValue211
 t173:=Tryz.underlying214
 a173:=Tryz.isAgg214
 z173:=Tryz.sizeOf214
 v173:=Tryz.zeroValue214
 t175:=Tryz.underlying299
 a175:=Tryz.isAgg299
 z175:=Tryz.sizeOf299
 v175:=Tryz.zeroValue299
 t210:=Tryz.underlying302
 a210:=Tryz.isAgg302
 z210:=Tryz.sizeOf302
 v210:=Tryz.zeroValue302
 t212:=Tryz.underlying244
 a212:=Tryz.isAgg244
 z212:=Tryz.sizeOf244
 v212:=Tryz.zeroValue244
 t213:=Tryz.underlying245
 a213:=Tryz.isAgg245
 z213:=Tryz.sizeOf245
 t232:=Tryz.underlying297
 a232:=Tryz.isAgg297
 z232:=Tryz.sizeOf297
 v232:=Tryz.zeroValue297
 t233:=Tryz.underlying298
 a233:=Tryz.isAgg298
 z233:=Tryz.sizeOf298
 v233:=Tryz.zeroValue298
 g15:=by kernel_rfl
 g16:=by kernel_rfl
 g17:=by kernel_rfl
 g18:=by kernel_rfl
 g19:=by kernel_rfl
 t80:=Tryz.underlying144
 a80:=Tryz.isAgg144
 z80:=Tryz.sizeOf144
 v80:=Tryz.zeroValue144
 i0:=by kernel_rfl
 i2:=by kernel_rfl
 i3:=by kernel_rfl
 i4:=by kernel_rfl
 i5:=by kernel_rfl
 i9:=by kernel_rfl
 i20:=by kernel_rfl
 i21:=by kernel_rfl
 i37:=by kernel_rfl
 i46:=by kernel_rfl
 i51:=by kernel_rfl
 i53:=by kernel_rfl
 i75:=by kernel_rfl
 i76:=by kernel_rfl
 i80:=by kernel_rfl
 i85:=by kernel_rfl
 i127:=by kernel_rfl
 i143:=by kernel_rfl
 i145:=by kernel_rfl
 i167:=by kernel_rfl
 i168:=by kernel_rfl
 i171:=by kernel_rfl
 i173:=by kernel_rfl
 i175:=by kernel_rfl
 i210:=by kernel_rfl
 i212:=by kernel_rfl
 i232:=by kernel_rfl
 i233:=by kernel_rfl
 m15:=by kernel_rfl
 m16:=by kernel_rfl
 m17:=by kernel_rfl
 m18:=by kernel_rfl
 m19:=by kernel_rfl
 c0:=by kernel_rfl
 c2:=by kernel_rfl
 c3:=by kernel_rfl
 c4:=by kernel_rfl
 c5:=by kernel_rfl
 c9:=by kernel_rfl
 c20:=by kernel_rfl
 c21:=by kernel_rfl
 c37:=by kernel_rfl
 c46:=by kernel_rfl
 c51:=by kernel_rfl
 c53:=by kernel_rfl
 c75:=by kernel_rfl
 c76:=by kernel_rfl
 c80:=by kernel_rfl
 c85:=by kernel_rfl
 c127:=by kernel_rfl
 c143:=by kernel_rfl
 c145:=by kernel_rfl
 c167:=by kernel_rfl
 c168:=by kernel_rfl
 c171:=by kernel_rfl
 c173:=by kernel_rfl
 c175:=by kernel_rfl
 c210:=by kernel_rfl
 c212:=by kernel_rfl
 c213:=by kernel_rfl
 c232:=by kernel_rfl
 c233:=by kernel_rfl }
def qq2:Go.Shelf.Ren:=⟨λ|138=>262|195=>263|218=>264|143=>192|219=>167|217=>71|225=>195|224=>189|267=>196|266=>109|314=>213|n=>n,λ|9=>9|3=>3|4=>4|5=>5|0=>0|46=>145|146=>174|51=>173|n=>n,λ|1=>0|n=>n⟩
theorem lays138:Go.Proofs.Lays.n138 Tryz.prog qq2:={
 mixed:=by kernel_rfl
 f138:=Tryz.func262.trans (congrArg some (by kernel_rfl))
 f143:=Tryz.func192.trans (congrArg some (by kernel_rfl))
 f195:=Tryz.func263.trans (congrArg some (by kernel_rfl))
 f217:=Tryz.func71.trans (congrArg some (by kernel_rfl))
 f218:=Tryz.func264.trans (congrArg some (by kernel_rfl))
 f219:=Tryz.func167.trans (congrArg some (by kernel_rfl))
 f224:=Tryz.func189.trans (congrArg some (by kernel_rfl))
 f225:=Tryz.func195.trans (congrArg some (by kernel_rfl))
 f266:=Tryz.func109.trans (congrArg some (by kernel_rfl))
 f267:=Tryz.func196.trans (congrArg some (by kernel_rfl))
 f314:=Tryz.func213.trans (congrArg some (by kernel_rfl))
 t0:=Tryz.underlying0
 a0:=Tryz.isAgg0
 z0:=Tryz.sizeOf0
 v0:=Tryz.zeroValue0
 t3:=Tryz.underlying3
 a3:=Tryz.isAgg3
 z3:=Tryz.sizeOf3
 v3:=Tryz.zeroValue3
 t4:=Tryz.underlying4
 a4:=Tryz.isAgg4
 z4:=Tryz.sizeOf4
 v4:=Tryz.zeroValue4
 t5:=Tryz.underlying5
 a5:=Tryz.isAgg5
 z5:=Tryz.sizeOf5
 v5:=Tryz.zeroValue5
 t9:=Tryz.underlying9
 a9:=Tryz.isAgg9
 z9:=Tryz.sizeOf9
 v9:=Tryz.zeroValue9
 t46:=Tryz.underlying145
 a46:=Tryz.isAgg145
 z46:=Tryz.sizeOf145
 v46:=Tryz.zeroValue145
 t51:=Tryz.underlying173
 a51:=Tryz.isAgg173
 z51:=Tryz.sizeOf173
 v51:=Tryz.zeroValue173
 t146:=Tryz.underlying174
 a146:=Tryz.isAgg174
 z146:=Tryz.sizeOf174
 v146:=Tryz.zeroValue174
 g1:=by kernel_rfl }
def qq7:Go.Shelf.Ren:=⟨λ|156=>50|165=>84|166=>85|169=>86|240=>117|241=>118|276=>138|277=>139|n=>n,λ|31=>32|9=>9|3=>3|4=>4|0=>0|20=>20|72=>138|76=>142|70=>136|37=>26|75=>141|127=>165|164=>201|5=>5|80=>144|n=>n,λ|n=>n⟩
theorem lays156:Go.Proofs.Lays.n156 Tryz.prog qq7:={
 mixed:=by kernel_rfl
 f156:=Tryz.func50.trans (congrArg some (by kernel_rfl))
 f165:=Tryz.func84.trans (congrArg some (by kernel_rfl))
 f166:=Tryz.func85.trans (congrArg some (by kernel_rfl))
 f169:=Tryz.func86.trans (congrArg some (by kernel_rfl))
 f240:=Tryz.func117.trans (congrArg some (by kernel_rfl))
 f241:=Tryz.func118.trans (congrArg some (by kernel_rfl))
 f276:=Tryz.func138.trans (congrArg some (by kernel_rfl))
 f277:=Tryz.func139.trans (congrArg some (by kernel_rfl))
 t0:=Tryz.underlying0
 a0:=Tryz.isAgg0
 z0:=Tryz.sizeOf0
 v0:=Tryz.zeroValue0
 t3:=Tryz.underlying3
 a3:=Tryz.isAgg3
 z3:=Tryz.sizeOf3
 v3:=Tryz.zeroValue3
 t4:=Tryz.underlying4
 a4:=Tryz.isAgg4
 z4:=Tryz.sizeOf4
 v4:=Tryz.zeroValue4
 t9:=Tryz.underlying9
 a9:=Tryz.isAgg9
 z9:=Tryz.sizeOf9
 v9:=Tryz.zeroValue9
 t20:=Tryz.underlying20
 a20:=Tryz.isAgg20
 z20:=Tryz.sizeOf20
 v20:=Tryz.zeroValue20
 t31:=Tryz.underlying32
 a31:=Tryz.isAgg32
 z31:=Tryz.sizeOf32
 v31:=Tryz.zeroValue32
 t37:=Tryz.underlying26
 a37:=Tryz.isAgg26
 z37:=Tryz.sizeOf26
 v37:=Tryz.zeroValue26
 t70:=Tryz.underlying136
 a70:=Tryz.isAgg136
 z70:=Tryz.sizeOf136
 v70:=Tryz.zeroValue136
 t72:=Tryz.underlying138
 a72:=Tryz.isAgg138
 z72:=Tryz.sizeOf138
 v72:=Tryz.zeroValue138
 t75:=Tryz.underlying141
 a75:=Tryz.isAgg141
 z75:=Tryz.sizeOf141
 v75:=Tryz.zeroValue141
 t76:=Tryz.underlying142
 a76:=Tryz.isAgg142
 z76:=Tryz.sizeOf142
 v76:=Tryz.zeroValue142
 t127:=Tryz.underlying165
 a127:=Tryz.isAgg165
 z127:=Tryz.sizeOf165
 v127:=Tryz.zeroValue165
 t164:=Tryz.underlying201
 a164:=Tryz.isAgg201
 z164:=Tryz.sizeOf201
 v164:=Tryz.zeroValue201 }
def qpz:Go.Shelf.Ren:=⟨λ|105=>62|212=>98|99=>99|165=>84|166=>85|170=>100|169=>86|263=>127|264=>128|206=>129|240=>117|241=>118|276=>138|277=>139|n=>n,λ|9=>9|3=>3|4=>4|20=>20|0=>0|46=>145|109=>154|5=>5|72=>138|76=>142|51=>173|146=>174|53=>31|148=>176|70=>136|37=>26|75=>141|127=>165|164=>201|80=>144|n=>n,λ|n=>n⟩
theorem lays105:Go.Proofs.Lays.n105 Tryz.prog qpz:={
 mixed:=by kernel_rfl
 f99:=Tryz.func99.trans (congrArg some (by kernel_rfl))
 f105:=Tryz.func62.trans (congrArg some (by kernel_rfl))
 f165:=Tryz.func84.trans (congrArg some (by kernel_rfl))
 f166:=Tryz.func85.trans (congrArg some (by kernel_rfl))
 f169:=Tryz.func86.trans (congrArg some (by kernel_rfl))
 f170:=Tryz.func100.trans (congrArg some (by kernel_rfl))
 f206:=Tryz.func129.trans (congrArg some (by kernel_rfl))
 f212:=Tryz.func98.trans (congrArg some (by kernel_rfl))
 f240:=Tryz.func117.trans (congrArg some (by kernel_rfl))
 f241:=Tryz.func118.trans (congrArg some (by kernel_rfl))
 f263:=Tryz.func127.trans (congrArg some (by kernel_rfl))
 f264:=Tryz.func128.trans (congrArg some (by kernel_rfl))
 f276:=Tryz.func138.trans (congrArg some (by kernel_rfl))
 f277:=Tryz.func139.trans (congrArg some (by kernel_rfl))
 t0:=Tryz.underlying0
 a0:=Tryz.isAgg0
 z0:=Tryz.sizeOf0
 v0:=Tryz.zeroValue0
 t3:=Tryz.underlying3
 a3:=Tryz.isAgg3
 z3:=Tryz.sizeOf3
 v3:=Tryz.zeroValue3
 t4:=Tryz.underlying4
 a4:=Tryz.isAgg4
 z4:=Tryz.sizeOf4
 v4:=Tryz.zeroValue4
 t5:=Tryz.underlying5
 a5:=Tryz.isAgg5
 z5:=Tryz.sizeOf5
 v5:=Tryz.zeroValue5
 t9:=Tryz.underlying9
 a9:=Tryz.isAgg9
 z9:=Tryz.sizeOf9
 v9:=Tryz.zeroValue9
 t20:=Tryz.underlying20
 a20:=Tryz.isAgg20
 z20:=Tryz.sizeOf20
 v20:=Tryz.zeroValue20
 t37:=Tryz.underlying26
 a37:=Tryz.isAgg26
 z37:=Tryz.sizeOf26
 v37:=Tryz.zeroValue26
 t46:=Tryz.underlying145
 a46:=Tryz.isAgg145
 z46:=Tryz.sizeOf145
 v46:=Tryz.zeroValue145
 t51:=Tryz.underlying173
 a51:=Tryz.isAgg173
 z51:=Tryz.sizeOf173
 v51:=Tryz.zeroValue173
 t53:=Tryz.underlying31
 a53:=Tryz.isAgg31
 z53:=Tryz.sizeOf31
 v53:=Tryz.zeroValue31
 t70:=Tryz.underlying136
 a70:=Tryz.isAgg136
 z70:=Tryz.sizeOf136
 v70:=Tryz.zeroValue136
 t72:=Tryz.underlying138
 a72:=Tryz.isAgg138
 z72:=Tryz.sizeOf138
 v72:=Tryz.zeroValue138
 t75:=Tryz.underlying141
 a75:=Tryz.isAgg141
 z75:=Tryz.sizeOf141
 v75:=Tryz.zeroValue141
 t76:=Tryz.underlying142
 a76:=Tryz.isAgg142
 z76:=Tryz.sizeOf142
 v76:=Tryz.zeroValue142
 t109:=Tryz.underlying154
 a109:=Tryz.isAgg154
 z109:=Tryz.sizeOf154
 v109:=Tryz.zeroValue154
 t127:=Tryz.underlying165
 a127:=Tryz.isAgg165
 z127:=Tryz.sizeOf165
 v127:=Tryz.zeroValue165
 t146:=Tryz.underlying174
 a146:=Tryz.isAgg174
 z146:=Tryz.sizeOf174
 v146:=Tryz.zeroValue174
 t148:=Tryz.underlying176
 a148:=Tryz.isAgg176
 z148:=Tryz.sizeOf176
 v148:=Tryz.zeroValue176
 t164:=Tryz.underlying201
 a164:=Tryz.isAgg201
 z164:=Tryz.sizeOf201
 v164:=Tryz.zeroValue201 }
def qq9:Go.Shelf.Ren:=⟨λ|169=>86|n=>n,λ|70=>136|9=>9|0=>0|72=>138|37=>26|127=>165|3=>3|5=>5|n=>n,λ|n=>n⟩
theorem lays169:Go.Proofs.Lays.n169 Tryz.prog qq9:={
 mixed:=by kernel_rfl
 f169:=Tryz.func86.trans (congrArg some (by kernel_rfl))
 t0:=Tryz.underlying0
 a0:=Tryz.isAgg0
 z0:=Tryz.sizeOf0
 v0:=Tryz.zeroValue0
 t3:=Tryz.underlying3
 a3:=Tryz.isAgg3
 z3:=Tryz.sizeOf3
 v3:=Tryz.zeroValue3
 t9:=Tryz.underlying9
 a9:=Tryz.isAgg9
 z9:=Tryz.sizeOf9
 v9:=Tryz.zeroValue9
 t37:=Tryz.underlying26
 a37:=Tryz.isAgg26
 z37:=Tryz.sizeOf26
 v37:=Tryz.zeroValue26
 t70:=Tryz.underlying136
 a70:=Tryz.isAgg136
 z70:=Tryz.sizeOf136
 v70:=Tryz.zeroValue136
 t72:=Tryz.underlying138
 a72:=Tryz.isAgg138
 z72:=Tryz.sizeOf138
 v72:=Tryz.zeroValue138
 t127:=Tryz.underlying165
 a127:=Tryz.isAgg165
 z127:=Tryz.sizeOf165
 v127:=Tryz.zeroValue165 }
def qqa:Go.Shelf.Ren:=⟨λ|185=>159|187=>186|115=>187|253=>188|224=>189|254=>190|255=>211|291=>212|n=>n,λ|37=>26|3=>3|4=>4|0=>0|5=>5|46=>145|9=>9|146=>174|51=>173|n=>n,λ|1=>0|n=>n⟩
theorem lays185:Go.Proofs.Lays.n185 Tryz.prog qqa:={
 mixed:=by kernel_rfl
 f115:=Tryz.func187.trans (congrArg some (by kernel_rfl))
 f185:=Tryz.func159.trans (congrArg some (by kernel_rfl))
 f187:=Tryz.func186.trans (congrArg some (by kernel_rfl))
 f224:=Tryz.func189.trans (congrArg some (by kernel_rfl))
 f253:=Tryz.func188.trans (congrArg some (by kernel_rfl))
 f254:=Tryz.func190.trans (congrArg some (by kernel_rfl))
 f255:=Tryz.func211.trans (congrArg some (by kernel_rfl))
 f291:=Tryz.func212.trans (congrArg some (by kernel_rfl))
 t0:=Tryz.underlying0
 a0:=Tryz.isAgg0
 z0:=Tryz.sizeOf0
 v0:=Tryz.zeroValue0
 t3:=Tryz.underlying3
 a3:=Tryz.isAgg3
 z3:=Tryz.sizeOf3
 v3:=Tryz.zeroValue3
 t4:=Tryz.underlying4
 a4:=Tryz.isAgg4
 z4:=Tryz.sizeOf4
 v4:=Tryz.zeroValue4
 t5:=Tryz.underlying5
 a5:=Tryz.isAgg5
 z5:=Tryz.sizeOf5
 v5:=Tryz.zeroValue5
 t9:=Tryz.underlying9
 a9:=Tryz.isAgg9
 z9:=Tryz.sizeOf9
 v9:=Tryz.zeroValue9
 t37:=Tryz.underlying26
 a37:=Tryz.isAgg26
 z37:=Tryz.sizeOf26
 v37:=Tryz.zeroValue26
 t46:=Tryz.underlying145
 a46:=Tryz.isAgg145
 z46:=Tryz.sizeOf145
 v46:=Tryz.zeroValue145
 t51:=Tryz.underlying173
 a51:=Tryz.isAgg173
 z51:=Tryz.sizeOf173
 v51:=Tryz.zeroValue173
 t146:=Tryz.underlying174
 a146:=Tryz.isAgg174
 z146:=Tryz.sizeOf174
 v146:=Tryz.zeroValue174
 g1:=by kernel_rfl }
theorem qb:Builder.Extra Tryz.prog qq7:={
 sizeBuilder:=by kernel_rfl
 liesBuilder:=by kernel_rfl
 t5:=Tryz.underlying5
 a5:=Tryz.isAgg5
 z5:=Tryz.sizeOf5
 v5:=Tryz.zeroValue5
 infoByte:=by kernel_rfl
 cellsByte:=by kernel_rfl
 sizeByte:=by kernel_rfl
 neB5:=by decide }
theorem qa:Builder.Extra Tryz.prog qpz:={
 sizeBuilder:=by kernel_rfl
 liesBuilder:=by kernel_rfl
 t5:=Tryz.underlying5
 a5:=Tryz.isAgg5
 z5:=Tryz.sizeOf5
 v5:=Tryz.zeroValue5
 infoByte:=by kernel_rfl
 cellsByte:=by kernel_rfl
 sizeByte:=by kernel_rfl
 neB5:=by decide }
theorem qd:Builder.Extra Tryz.prog qq9:={
 sizeBuilder:=by kernel_rfl
 liesBuilder:=by kernel_rfl
 t5:=Tryz.underlying5
 a5:=Tryz.isAgg5
 z5:=Tryz.sizeOf5
 v5:=Tryz.zeroValue5
 infoByte:=by kernel_rfl
 cellsByte:=by kernel_rfl
 sizeByte:=by kernel_rfl
 neB5:=by decide }
def qq8:Go.Shelf.Ren:=⟨λ|166=>85|240=>117|276=>138|n=>n,λ|0=>0|3=>3|4=>4|9=>9|20=>20|37=>26|5=>5|70=>136|72=>138|75=>141|80=>144|164=>201|n=>n,λ|n=>n⟩
theorem lays166:Go.Proofs.Lays.n166 Tryz.prog qq8:={
 mixed:=by kernel_rfl
 f166:=Tryz.func85.trans (congrArg some (by kernel_rfl))
 f240:=Tryz.func117.trans (congrArg some (by kernel_rfl))
 f276:=Tryz.func138.trans (congrArg some (by kernel_rfl))
 t0:=Tryz.underlying0
 a0:=Tryz.isAgg0
 z0:=Tryz.sizeOf0
 v0:=Tryz.zeroValue0
 t3:=Tryz.underlying3
 a3:=Tryz.isAgg3
 z3:=Tryz.sizeOf3
 v3:=Tryz.zeroValue3
 t4:=Tryz.underlying4
 a4:=Tryz.isAgg4
 z4:=Tryz.sizeOf4
 v4:=Tryz.zeroValue4
 t9:=Tryz.underlying9
 a9:=Tryz.isAgg9
 z9:=Tryz.sizeOf9
 v9:=Tryz.zeroValue9
 t20:=Tryz.underlying20
 a20:=Tryz.isAgg20
 z20:=Tryz.sizeOf20
 v20:=Tryz.zeroValue20
 t37:=Tryz.underlying26
 a37:=Tryz.isAgg26
 z37:=Tryz.sizeOf26
 v37:=Tryz.zeroValue26
 t70:=Tryz.underlying136
 a70:=Tryz.isAgg136
 z70:=Tryz.sizeOf136
 v70:=Tryz.zeroValue136
 t72:=Tryz.underlying138
 a72:=Tryz.isAgg138
 z72:=Tryz.sizeOf138
 v72:=Tryz.zeroValue138
 t75:=Tryz.underlying141
 a75:=Tryz.isAgg141
 z75:=Tryz.sizeOf141
 v75:=Tryz.zeroValue141
 t164:=Tryz.underlying201
 a164:=Tryz.isAgg201
 z164:=Tryz.sizeOf201
 v164:=Tryz.zeroValue201 }
theorem qc:Builder.Extra Tryz.prog qq8:={
 sizeBuilder:=by kernel_rfl
 liesBuilder:=by kernel_rfl
 t5:=Tryz.underlying5
 a5:=Tryz.isAgg5
 z5:=Tryz.sizeOf5
 v5:=Tryz.zeroValue5
 infoByte:=by kernel_rfl
 cellsByte:=by kernel_rfl
 sizeByte:=by kernel_rfl
 neB5:=by decide }
end Go.Proofs.YtmlcmoaonaomfaaGreatDoor
