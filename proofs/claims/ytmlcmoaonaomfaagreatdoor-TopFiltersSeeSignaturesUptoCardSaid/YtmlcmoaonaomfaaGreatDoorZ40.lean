/- The reference's letters, texts that are alike, values of a field. -/
import Derived.Test.YtmlcmoaonaomfaaGreatDoorH4
import Derived.Test.YtmlcmoaonaomfaaGreatDoorZ28
import Derived.Test.YtmlcmoaonaomfaaGreatDoorH6
import Derived.Test.YtmlcmoaonaomfaaGreatDoorZ39
namespace Go.Proofs.YtmlcmoaonaomfaaGreatDoor
set_option linter.unusedSimpArgs false
open Go.RowKit
theorem in_s (n a b:Int):qvr n a b=some (decide (a<=n)&&decide (n<=b)):=qvq (by
 by_cases h:a<=n <;> simp [qvs,q85,h])
theorem low_s {c:Int} (h0:0<=c) (h1:c<256):qvx c=some (lowI c):=qvw (by
 have hw:IntKind.i64.wrap c=c:=IntWalk.i64_in c (by omega)
 by_cases h:65<=c/\c<=90
 ·have hw8:IntKind.u8.wrap (c+32)=c+32:=wrap8 (by omega) (by omega)
  simp [qvy,q85,in_s,hw,h,hw8,lowI]
 ·have:¬ (65<=c/\c<=90):=h
  simp only [qvy,q85,in_s,hw,lowI,h,x21q,x0q]
  simp
  omega)
theorem q1c (a b:BA) (hs:a.size=b.size) (ha:a.size<=9223372036854775807):∀ (m k:Nat),k+m=a.size ->
  (qvd a b k).bind (Sum.elim (λx=>some x.1) (λ_=>some true))=some (lowL ((L a).drop k)==lowL ((L b).drop k)):=by
 intro m
 have hLa:=qo a
 have hLb:=qo b
 induction m with
 |zero =>
  intro k hk
  have hk:k=a.size:=by omega
  have h1:qvd a b k=some (.inr ((a,b,(k:Int),false),())):=qvf (by
   simp only [qvk,wI,p0,q85]
   simp [hk])
  have e1:(L a).drop k=[]:=List.drop_eq_nil_of_le (by omega)
  have e2:(L b).drop k=[]:=List.drop_eq_nil_of_le (by omega)
  rw [h1,e1,e2];rfl
 |succ m ih =>
  intro k hk
  have hka:k<(L a).length:=by omega
  have hkb:k<(L b).length:=by omega
  have h1:(k:Int)<(a.size:Int):=by omega
  have h2:k<a.size:=by omega
  have h3:k<b.size:=by omega
  have aa:=q53 a hka
  have bb:=q53 b hkb
  rw [qcs hka,qcs hkb,qr5]
  generalize (L a)[k]'hka=xa at aa ⊢
  generalize (L b)[k]'hkb=xb at bb ⊢
  have n1:=nb_lt xa
  have n2:=nb_lt xb
  have hw:=q1eu h2 ha
  by_cases he:lowI (nb xa)=lowI (nb xb)
  ·have ih':=ih (k+1) (by omega)
   cases hz:qvd a b ((k+1:Nat):Int) with
   |none=>rw [hz] at ih';cases ih'
   |some r =>
    have hb:(lowI (nb xa) != lowI (nb xb))=false:=by rw [he];simp
    have h4:qvd a b k=some r:=qvf (by
     simp only [qvk,wI,p0,q85,qk3,x3q,aa,bb,low_s n1.1 n1.2,low_s n2.1 n2.2,x0q,hw,hz,h1,h2,h3,hb,x20q,x1q,x21q,decide_true,x4q,x16q])
    rw [h4,←hz,ih',he]
    simp
  ·have hb:(lowI (nb xa) != lowI (nb xb))=true:=by simpa using he
   have h4:qvd a b k=some (.inl (false,())):=qvf (by
    simp only [qvk,wI,p0,q85,qk3,x3q,aa,bb,low_s n1.1 n1.2,low_s n2.1 n2.2,x0q,h1,h2,h3,hb,x20q,decide_true,x4q,x16q])
   rw [h4]
   have:(lowI (nb xa)==lowI (nb xb))=false:=by simpa using he
   rw [this];rfl
theorem q1d (a b:BA) (ha:a.size<=9223372036854775807):qvl a b=some (lowL (L a)==lowL (L b)):=qvc (by
 by_cases h:a.size=b.size
 ·have:=q1c a b h ha a.size 0 (by omega)
  have h':((a.size:Int) != (b.size:Int))=false:=by simp [h]
  simp only [qvm,q85,h',x1q,x21q]
  exact this
 ·have h':((a.size:Int) != (b.size:Int))=true:=by simp;omega
  have:(lowL (L a)==lowL (L b))=false:=by
   simp only [beq_eq_false_iff_ne,ne_eq]
   intro hh
   have:=congrArg List.length hh
   simp only [lowL,List.length_map,qo] at this
   exact h this
  simp only [qvm,q85,h',this,x20q])
theorem q1ea (l:List S71) (b:List Int) (n:BA) (hl:l.length<=60) (hx:∀ x∈l,x.Name.size<=2000000):∀ (m k:Nat) (acc:List BA),k+m=l.length->acc.length<=k->Ok (qw3 n acc.length k l b acc) λx=>x.2.2=acc++valsL (l.drop k) n/\x.1.2.2.1=x.2.2.length:=by
 intro m
 induction m with
 |zero =>
  intro k acc hk ha
  refine .via qw5 ?_
  unfold qw9
  try simp only [gL,dL,lN,eC,wI,p0,aL,dQ]
  simp only [x25q,x26q,x27q,qol,q4x,q3k,q43,q164,qoo,q52,q3n,q46,q16b,qom,q4y,q4z,q3l,q44,q166,q165,q167,qon,q50,q51,q3m,q45,q169,q168,q16a,qoh,q4c,q4d,q4e,q4f,q4g,q4h,q3g,q3z,q15h,q15g,q15i,q15j,q15k,q15l,q15m,qoj,q4j,q4k,q4o,q4p,q4q,q4r,q4s,q4t,q4u,q4v,q4l,q4m,q4n,q3i,q41,q15p,q15o,q15u,q15t,q15v,q15w,q15x,q15y,q15z,q160,q161,q162,q15q,q15r,q15s,qoi,q4i,q3h,q40,q15n,qog,q4b,q3f,q3y,q15f,qok,q4w,q3j,q42,q163]
  refine qu7 (λh=>?_) (λ_=>qu9 rfl (qu9 rfl (qu9 rfl (qua ?_))))
  ·have:=of_decide_eq_true h
   omega
  ·rw [List.drop_eq_nil_of_le (by omega)]
   exact ⟨(List.append_nil _).symm,rfl⟩
 |succ m ih =>
  intro k acc hk ha
  have hlt:k<l.length:=by omega
  have e2:IntKind.i64.wrap ((k:Int)+1)=((k+1:Nat):Int):=by rw [q1es (by omega)];rfl
  refine .via qw5 ?_
  unfold qw9
  try simp only [gL,dL,lN,eC,wI,p0,aL,dQ]
  simp only [x25q,x26q,x27q,qol,q4x,q3k,q43,q164,qoo,q52,q3n,q46,q16b,qom,q4y,q4z,q3l,q44,q166,q165,q167,qon,q50,q51,q3m,q45,q169,q168,q16a,qoh,q4c,q4d,q4e,q4f,q4g,q4h,q3g,q3z,q15h,q15g,q15i,q15j,q15k,q15l,q15m,qoj,q4j,q4k,q4o,q4p,q4q,q4r,q4s,q4t,q4u,q4v,q4l,q4m,q4n,q3i,q41,q15p,q15o,q15u,q15t,q15v,q15w,q15x,q15y,q15z,q160,q161,q162,q15q,q15r,q15s,qoi,q4i,q3h,q40,q15n,qog,q4b,q3f,q3y,q15f,qok,q4w,q3j,q42,q163,x3q,e2]
  refine qu7 (λh=>?_) (λh=>?_)
  ·refine qu9 (by simp) (qu9 (by simp [hlt]) ?_)
   rw [qk6 hlt]
   have h1:=hx _ (List.getElem_mem hlt)
   refine qu6 (qu8 (q1d l[k].Name n (by omega))) λr hr=>?_
   rw [qcs hlt,q1e9]
   refine qu7 (λhb=>?_) (λhb=>?_)
   ·rw [hr] at hb
    have hb:sm n l[k]=true:=hb
    rw [if_pos hb]
    refine qu9 (by simp) (qu9 (by simp [hlt]) (qu9 (by simp;omega) (qu9 rfl (qu9 rfl (qu9 rfl ?_)))))
    have:=ih (k+1) (acc++[l[k].Value]) (by omega) (by simp;omega)
    rw [x12q] at this
    refine this.mono λx h=>⟨by rw [h.1,List.append_assoc];rfl,h.2⟩
   ·rw [hr] at hb
    have hb:sm n l[k]=false:=hb
    rw [if_neg (by rw [hb];decide)]
    exact qu9 rfl (qu9 rfl (qu9 rfl (ih (k+1) acc (by omega) (by omega))))
  ·have:=of_decide_eq_false h
   omega
theorem vals_s {l:List S71} (h:HdrOk l) (b:List Int) (n:BA):qwa l b n=some ((valsL l n).length,valsL l n):=by
 have:Ok (qwa l b n) λr=>r.2=valsL l n/\r.1=r.2.length:=.via qw2 (by
  unfold qwb
  try simp only [gL,dL]
  simp only [x25q,x26q,x27q,qol,q4x,q3k,q43,q164,qoo,q52,q3n,q46,q16b,qom,q4y,q4z,q3l,q44,q166,q165,q167,qon,q50,q51,q3m,q45,q169,q168,q16a,qoh,q4c,q4d,q4e,q4f,q4g,q4h,q3g,q3z,q15h,q15g,q15i,q15j,q15k,q15l,q15m,qoj,q4j,q4k,q4o,q4p,q4q,q4r,q4s,q4t,q4u,q4v,q4l,q4m,q4n,q3i,q41,q15p,q15o,q15u,q15t,q15v,q15w,q15x,q15y,q15z,q160,q161,q162,q15q,q15r,q15s,qoi,q4i,q3h,q40,q15n,qog,q4b,q3f,q3y,q15f,qok,q4w,q3j,q42,q163,qj]
  refine qu9 rfl (qu9 rfl (qu6 (q1ea l b n h.len (λx hx=>by have:=qh9 (h.all x hx).1;omega) l.length 0 [] (by omega) (by simp)) λr2 hr2=>qu9 rfl (qua ?_)))
  rw [x10q,List.nil_append] at hr2
  exact hr2)
 obtain ⟨r,e,h1,h2⟩:=this
 rw [e,←h1,←h2]
end Go.Proofs.YtmlcmoaonaomfaaGreatDoor
namespace Go.Proofs.YtmlcmoaonaomfaaGreatDoor
set_option linter.unusedSimpArgs false
open Go.RowKit
set_option maxRecDepth 100000
noncomputable section
def qyp:=(qpl (vC (cSl qcw)))
def qyq:Cod (V×List B) (BA×(Int×Int)):=(cFstU (cPair (vTup (qpj (vC cStr) (qpl (vAgg (qpj (vC (cInt .i64)) (qpl (vC (cInt .i64)))))))) qpk))
def qys (s:L38):=fS Tryz.prog lv X0 5 qyp qyq s
def qyr:=entS Tryz.prog lv X0 5 [] qyp qyq (λx=>qys x) (λ_ _ h=>qg5 h)
def q1c4:=qyr::q1cs
abbrev z1o:=(vAgg (qpj (vC cStr) (qpj (vC (cSl qd1)) (qpj (vC cStr) (qpj (vC (cSl qd0)) (qpl (vC (cSl qcy))))))))
def qfu:=(qpj (vC (cSl qcw)) (qpl z1o))
def qfv:Cod (V×List B) ((Nat×(Int×Int))×(List S54)):=(cPair (vTup (qpj (vRow 0) (qpl (vAgg (qpj (vC (cInt .i64)) (qpl (vC (cInt .i64)))))))) (qpl (bRow qcz)))
def qfx (s:L38) (qrb:BA) (qrd:L73) (qrc:BA) (qrg:L71) (qrf:(List Int)):=fS Tryz.prog lv X0 10 qfu qfv (s,(qrb,qrd,qrc,qrg,qrf))
def qfw:=entS Tryz.prog lv X0 10 [] qfu qfv (λx=>qfx x.1 x.2.1 x.2.2.1 x.2.2.2.1 x.2.2.2.2.1 x.2.2.2.2.2) (λ_ _ h=>qg5 h)
def q1b2:=qfw::q1c4
def qwc:=(qpj (vC (cSl qcz)) (qpl (vC (cSl qcz))))
def qwm:=sLS [0,1,5] (qpj (vC (cSl qcz)) (qpj (vC (cSl qcz)) (qpl (vC (cInt .i64))))) qpk [] [] (by decide) (λ_=>rfl)
def qwl:=sLS [0,1,5,14] (qpj (vC (cSl qcz)) (qpj (vC (cSl qcz)) (qpj (vC (cInt .i64)) (qpl (vC cBool))))) qpk [] [] (by decide) (λ_=>rfl)
def qwk:=sLS [4] (qpl (vC cBool)) qpk [] [] (by decide) (λ_=>rfl)
def qwj:=oOr 1 qwk (oAt 2 qwl) (λx=>(by decide:(2:Nat)≠1))
def qwg (a b:L54) (i:Int):=lS Tryz.prog lv X0 12 26 (qk8 (cdF Tryz.f12) 4) qwm qwj ((a,b,i),())
def qwn (a b:L54) (i:Int):Oq ((Bool×Unit)⊕((L54×L54×Int×Bool)×Unit)) :=
 (brE (decide (i<(lN qcz a:Int)))
 (gdE (p0 i)<|
 (gdE (eC qcz a i [(K1.int Go.IntKind.i64),K1.str,(K1.int Go.IntKind.i64)])<|
 (gdE (p0 i)<|
 (gdE (eC qcz b i [(K1.int Go.IntKind.i64),K1.str,(K1.int Go.IntKind.i64)])<|
 (brE (!(((qo4 (List.getD (List.getD (EC.encL qcz a) (Int.toNat i) []) 0 C.ne))==(qo4 (List.getD (List.getD (EC.encL qcz b) (Int.toNat i) []) 0 C.ne)))&&(((q18t (List.getD (List.getD (EC.encL qcz a) (Int.toNat i) []) 1 C.ne))==(q18t (List.getD (List.getD (EC.encL qcz b) (Int.toNat i) []) 1 C.ne)))&&(((qo4 (List.getD (List.getD (EC.encL qcz a) (Int.toNat i) []) 2 C.ne))==(qo4 (List.getD (List.getD (EC.encL qcz b) (Int.toNat i) []) 2 C.ne)))&&true))))
 (some (.inl (false,())))
 (gL qcz a<|
 (gL qcz b<|
 (qwg (dL qcz a) (dL qcz b) (wI i)))))))))
 (gL qcz a<|
 (gL qcz b<|
 (some (.inr (((dL qcz a),((dL qcz b),(i,false))),()))))))
theorem qwi {a b i r} (h:qwn a b i=some r):qwg a b i=some r :=
 qpn (es:=q1b2) (hs:=qmd) [] (by kernel_rfl) trivial trivial (by kernel_rfl) h
def qwh:=qqh Tryz.prog lv X0 4 (qk8 (cdF Tryz.f12) 4) qwm qwj (λx=>qwg x.1.1 x.1.2.1 x.1.2.2) (λ_ _ h=>qpm h)
def qwd:Cod (V×List B) Bool:=(cFstU (cPair (vC cBool) qpk))
def qwo (a b:L54):=fS Tryz.prog lv X0 12 qwc qwd (a,b)
def qwp (a b:L54):Oq Bool :=
 (brE ((lN qcz a:Int) != (lN qcz b:Int))
 (some false)
 (gL qcz a<|
 (gL qcz b<|
 ((qwg (dL qcz a) (dL qcz b) 0).bind λr0 =>
 (Sum.elim (λr1=>(some r1.1))
 (λr1=>(some true)) r0)))))
theorem qwf {a b r} (h:qwp a b=some r):qwo a b=some r :=
 qg7 (es:=q1b2) (hs:=qmd) [qwh] Tryz.func12 rfl (by kernel_rfl) rfl (by kernel_rfl) (by kernel_rfl) ⟨⟨_,rfl,rfl⟩,trivial⟩ trivial (by kernel_rfl) h
def qwe:=entS Tryz.prog lv X0 12 [] qwc qwd (λx=>qwo x.1 x.2) (λ_ _ h=>qg5 h)
def q1bz:=qwe::q1b2
def qwq:=(qpj z1o (qpj (vC cStr) (qpj (vC (cInt .u64)) (qpj (vC (cSl qd2)) (qpl (vC cStr))))))
def qwr:Cod (V×List B) Bool:=(cFstU (cPair (vC cBool) qpk))
def qwt (qrb:BA) (qrd:L73) (qrc:BA) (qrg:L71) (qrf:(List Int)) (domain:BA) (key:Int) (names:LB) (box:BA):=fS Tryz.prog lv X0 3 qwq qwr ((qrb,qrd,qrc,qrg,qrf),domain,key,names,box)
def qwu (qrb:BA) (qrd:L73) (qrc:BA) (qrg:L71) (qrf:(List Int)) (domain:BA) (key:Int) (names:LB) (box:BA):Oq Bool :=
 (gdE (EC.isL qcw [[(C.int Go.IntKind.i64 1),(C.int Go.IntKind.i64 2),(C.sl [[(C.int Go.IntKind.i64 9),(C.sl []),(C.str (ByteArray.mk (List.toArray [109,97,105,108,45,115,105,103,110,97,116,117,114,101]))),(C.int Go.IntKind.i64 0),(C.str ⟨#[]⟩),(C.int Go.IntKind.i64 0)]]),(C.str ⟨#[]⟩),(C.int Go.IntKind.i64 0),(C.str ⟨#[]⟩),(C.int Go.IntKind.i64 0),(C.sl [[(C.int Go.IntKind.i64 2),(C.int Go.IntKind.i64 0),(C.sl []),(C.str ⟨#[]⟩),(C.int Go.IntKind.i64 0),(C.str ⟨#[]⟩),(C.int Go.IntKind.i64 0),(C.sl []),(C.sl []),(C.int Go.IntKind.i64 2),(C.str ⟨#[]⟩),(C.str box),(C.int Go.IntKind.i64 0)]]),(C.sl []),(C.int Go.IntKind.i64 0),(C.str ⟨#[]⟩),(C.str ⟨#[]⟩),(C.int Go.IntKind.i64 0)]])<|
 (Option.bind (qys (EC.decL qcw [[(C.int Go.IntKind.i64 1),(C.int Go.IntKind.i64 2),(C.sl [[(C.int Go.IntKind.i64 9),(C.sl []),(C.str (ByteArray.mk (List.toArray [109,97,105,108,45,115,105,103,110,97,116,117,114,101]))),(C.int Go.IntKind.i64 0),(C.str ⟨#[]⟩),(C.int Go.IntKind.i64 0)]]),(C.str ⟨#[]⟩),(C.int Go.IntKind.i64 0),(C.str ⟨#[]⟩),(C.int Go.IntKind.i64 0),(C.sl [[(C.int Go.IntKind.i64 2),(C.int Go.IntKind.i64 0),(C.sl []),(C.str ⟨#[]⟩),(C.int Go.IntKind.i64 0),(C.str ⟨#[]⟩),(C.int Go.IntKind.i64 0),(C.sl []),(C.sl []),(C.int Go.IntKind.i64 2),(C.str ⟨#[]⟩),(C.str box),(C.int Go.IntKind.i64 0)]]),(C.sl []),(C.int Go.IntKind.i64 0),(C.str ⟨#[]⟩),(C.str ⟨#[]⟩),(C.int Go.IntKind.i64 0)]])) λr0 =>
 (brE ((r0.2.1 != 0)==false)
 (gL qd0 qrg<|
 (gL qcy qrf<|
 ((qrw (dL qd0 qrg) (dL qcy qrf)).bind λr1 =>
 (brE (r1.1 != 0)
 (some true)
 ((qyn r0.1).bind λr2 =>
 (brE (r2.2.1 != 0)
 (some false)
 (gL qd0 qrg<|
 (gL qcy qrf<|
 (gL qd2 names<|
 ((q16v (dL qd0 qrg) (dL qcy qrf) domain key (dL qd2 names)).bind λr3 =>
 (gL qcw r2.1<|
 (gL qd1 qrd<|
 (gL qd0 qrg<|
 (gL qcy qrf<|
 ((qfx (dL qcw r2.1) qrb (dL qd1 qrd) qrc (dL qd0 qrg) (dL qcy qrf)).bind λr4 =>
 (brE ((r3.1.2.1 != 0)==false)
 (brE ((r4.1.2.1 != 0)==false)
 (gL qd0 qrg<|
 (gL qcy qrf<|
 ((qwa (dL qd0 qrg) (dL qcy qrf) (ByteArray.mk (List.toArray [109,97,105,108,45,115,105,103,110,97,116,117,114,101]))).bind λr5 =>
 (brE (decide (((r5.1:Nat):Int)>0))
 (some true)
 (gL qcw r2.1<|
 (gL qd1 qrd<|
 (gL qd0 r3.2.1<|
 (gL qcy r3.2.2<|
 ((qfx (dL qcw r2.1) qrb (dL qd1 qrd) qrc (dL qd0 r3.2.1) (dL qcy r3.2.2)).bind λr6 =>
 (brE ((r6.1.2.1==0)==true)
 (brE ((((r4.1.1:Nat):Int)==1)==true)
 (gdE ((decide ((0:Int)<=0))&&(decide (0<((r4.1.1:Nat):Int))))<|
 (gdE ((decide ((Int.toNat 0)<(lN qcz r4.2)))&&((List.length (List.getD (EC.encL qcz r4.2) (Int.toNat 0) []))==3))<|
 (gdE (isP [(K1.int Go.IntKind.i64)] 0 (List.getD (EC.encL qcz r4.2) (Int.toNat 0) []))<|
 (brE (((qo4 (List.getD (List.getD (EC.encL qcz r4.2) (Int.toNat 0) []) 0 C.ne))==2)==true)
 (gL qcz r6.2<|
 ((qwo (dL qcz r6.2) (EC.decL qcz [[(C.int Go.IntKind.i64 1),(C.str ⟨#[]⟩),(C.int Go.IntKind.i64 0)]])).bind λr7 =>
 (brE (r7==true)
 (some true)
 (some false))))
 (some false)))))
 (some false))
 (some false)))))))))))
 (some true))
 (some true)))))))))))))))))
 (some true))))
theorem qws {qrb qrd qrc qrg qrf domain key names box r} (h:qwu qrb qrd qrc qrg qrf domain key names box=some r):qwt qrb qrd qrc qrg qrf domain key names box=some r :=
 qg7 (es:=q1bz) (hs:=qmd) [] Tryz.func3 rfl (by kernel_rfl) rfl (by kernel_rfl) (by kernel_rfl) trivial trivial (by kernel_rfl) h
end
theorem prnS (b:BA):qys (scr b)=qx0 b:=qg6 (by
 show [V.c (C.sl (qcw.encL (scr b)))]=[V.c (C.sl (scrE b))]
 rw [q156])
theorem runS (b f:BA) (rc:List S73) (e:BA) (fs:List S71) (bd:List Int):qfx (scr b) f rc e fs bd=q14f b f rc e fs bd:=qg6 (by
 show V.c (C.sl (qcw.encL (scr b)))::_=V.c (C.sl (scrE b))::_
 rw [q156])
theorem ok_bT {α:Type} {q:Bool} {a b:Oq α} {Q:α->Prop} (hq:q=true) (h:Ok a Q):Ok (brE q a b) Q:=by subst hq;exact h
theorem ok_bF {α:Type} {q:Bool} {a b:Oq α} {Q:α->Prop} (hq:q=false) (h:Ok b Q):Ok (brE q a b) Q:=by subst hq;exact h
theorem keep1:qwo [⟨1,ByteArray.mk (List.toArray []),0⟩] [⟨1,ByteArray.mk (List.toArray []),0⟩]=some true:=by
 have h1:Ok (qwg [⟨1,ByteArray.mk (List.toArray []),0⟩] [⟨1,ByteArray.mk (List.toArray []),0⟩] 1) λr=>∃ x,r=.inr x:=.via qwi (by
  unfold qwn
  try simp only [gL,dL,lN,eC,wI,p0]
  simp only [x25q,x26q,x27q]
  exact ok_bF rfl (qu9 rfl (qu9 rfl (qua ⟨_,rfl⟩))))
 have h0:Ok (qwg [⟨1,ByteArray.mk (List.toArray []),0⟩] [⟨1,ByteArray.mk (List.toArray []),0⟩] 0) λr=>∃ x,r=.inr x:=.via qwi (by
  unfold qwn
  try simp only [gL,dL,lN,eC,wI,p0]
  simp only [x25q,x26q,x27q]
  exact ok_bT rfl (qu9 rfl (qu9 rfl (qu9 rfl (qu9 rfl (ok_bF rfl (qu9 rfl (qu9 rfl h1))))))))
 have:Ok (qwo [⟨1,ByteArray.mk (List.toArray []),0⟩] [⟨1,ByteArray.mk (List.toArray []),0⟩]) λr=>r=true:=.via qwf (by
  unfold qwp
  try simp only [gL,dL,lN]
  simp only [x25q,x26q,x27q]
  refine ok_bF rfl (qu9 rfl (qu9 rfl (qu6 h0 ?_)))
  rintro r ⟨x,rfl⟩
  exact qua rfl)
 obtain ⟨r,e,rfl⟩:=this
 exact e
set_option maxRecDepth 100000 in
theorem law12 (f:BA) (rc:List S73) (e:BA) (fs:List S71) (bd:List Int) (d:BA) (key:Int) (names:List BA) (s:BA) (h:MlOk f rc bd) (h8:U8 bd) (hs:s.size<=2000000)
  (hp:∀ z,qyw (scr s)=some (0,z)->(txtL (bl s)).length<=4000->qyn (baL (txtL (bl s)))=some (scr s,(0,0))) :
  qwt f rc e fs bd d key names s=some true:=by
 have main:Ok (qwt f rc e fs bd d key names s) λr=>r=true:=.via qws (by
  unfold qwu
  try simp only [gL,dL,lN]
  simp only [x25q,x26q,x27q,qj]
  have hpr:=qx2 s hs
  rw [←prnS,←decScr] at hpr
  refine qu9 (isScr s) (qu6 hpr λr0 h0=>qu7 (λhf=>?_) (λ_=>qua rfl))
  obtain ⟨t0,t1,z,hz⟩:=h0 (by simpa using hf)
  rw [decScr] at hz
  obtain ⟨q1,e1,p1⟩:=qsx fs bd h.bl
  refine qu9 rfl (qu9 rfl (qu6 (qu8 e1) λr1 h1=>qu7 (λ_=>qua rfl) (λhm=>?_)))
  subst h1
  have hl:=p1 (by simpa using hm)
  have hpa:=hp z hz t1
  rw [←t0] at hpa
  refine qu6 (qu8 hpa) λr2 h2=>qu7 (λhf=>?_) (λ_=>?_)
  ·rw [h2] at hf
   cases hf
  subst h2
  refine qu9 rfl (qu9 rfl (qu9 rfl (qu6 (q17g fs bd d key names h8 h.bl) λr3 h3=>qu9 rfl (qu9 rfl (qu9 rfl (qu9 rfl ?_))))))
  have hr1:=q14m s f rc e fs bd h hs ⟨_,hz⟩
  rw [←runS] at hr1
  refine qu6 hr1 λr4 h4=>qu7 (λhsg=>qu7 (λhrn=>?_) (λ_=>qua rfl)) (λ_=>qua rfl)
  obtain ⟨⟨i,he⟩,hact⟩:=h4 (by simpa using hrn)
  obtain ⟨v,c,g1,g2,g3,g4⟩:=h3 (by simpa using hsg)
  refine qu9 rfl (qu9 rfl (qu6 (qu8 (vals_s hl bd sigL)) λr5 h5=>qu7 (λ_=>qua rfl) (λhn=>?_)))
  have hnil:valsL fs sigL=[]:=by
   rw [h5] at hn
   have:=of_decide_eq_false hn
   exact List.length_eq_zero_iff.1 (by simp only at this;omega)
  obtain ⟨k1,x,k2⟩:=hact hnil
  rw [g2]
  have hne:valsL (⟨sigN,v⟩::fs) sigL≠[]:=by
   rw [q1e9,if_pos (show sm sigL ⟨sigN,v⟩=true from rfl)]
   exact List.cons_ne_nil _ _
  have hr2:=q150 s f rc e (⟨sigN,v⟩::fs) bd h hs hz he g3 hne
  rw [←runS] at hr2
  refine qu9 rfl (qu9 rfl (qu9 rfl (qu9 rfl (qu6 hr2 λr6 h6=>?_))))
  subst h6
  rw [k1,k2]
  refine qu7 (λ_=>qu7 (λ_=>qu9 rfl (qu9 rfl (qu9 rfl (qu7 (λ_=>qu9 ?_ (qu6 (qu8 keep1) λr7 h7=>qu7 (λ_=>qua rfl) (λhf=>?_))) (λhf=>?_))))) (λhf=>?_)) (λhf=>?_)
  ·exact rfl
  ·rw [h7] at hf;cases hf
  ·cases hf
  ·cases hf
  ·cases hf)
 obtain ⟨r,e,rfl⟩:=main
 exact e
end Go.Proofs.YtmlcmoaonaomfaaGreatDoor
