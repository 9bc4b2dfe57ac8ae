/- A message written: it answers. -/
import Derived.Test.YtmlcmoaonaomfaaGreatDoorZ28
import Derived.Test.YtmlcmoaonaomfaaGreatDoorH4
namespace Go.Proofs.YtmlcmoaonaomfaaGreatDoor
set_option linter.unusedSimpArgs false
open Go.RowKit
theorem bmap (s:BA):List.map (λ(b:UInt8)=>[byteC b]) (Array.toList (ByteArray.data s))=qcy.encL (ints s):=q8o s
theorem qdf {τ:Type} (e:EC τ) (a b:List τ):e.encL a++e.encL b=e.encL (a++b):=by simp [EC.encL]
theorem qbo:([[(C.int Go.IntKind.u8 (13:Int))],[(C.int Go.IntKind.u8 (10:Int))]]:List (List C))=qcy.encL [13,10]:=rfl
theorem qql (l:List S71) (t12 t13:Int) (b0:List S71) (b01:List Int) (b2:List BA) (hb:b2.length<=100001) (hz:szB b2):∀ (m k:Nat) (b1:List Int),k+m=b2.length->b1.length+m*100002<=1000000000000 ->
  Ok (qsl b1.length l t12 t13 b2.length b2.length k b0 b01 b1 b2) λx=>x.1.2.2.1=l/\x.1.2.2.2.1=t12/\x.1.2.2.2.2.1=t13/\x.2.1=(b0,b01)/\x.1.2.1=x.2.2.1.length/\x.1.2.1<=b1.length+m*100002:=by
 intro m
 induction m with
 |zero =>
  intro k b1 hk hs
  refine .via qsn ?_
  unfold qsr
  try simp only [gL,dL,lN,wI,p0,aL,dQ]
  simp only [x25q,x26q,x27q,qol,q4x,q3k,q43,q164,qoo,q52,q3n,q46,q16b,qom,q4y,q4z,q3l,q44,q166,q165,q167,qon,q50,q51,q3m,q45,q169,q168,q16a,qoh,q4c,q4d,q4e,q4f,q4g,q4h,q3g,q3z,q15h,q15g,q15i,q15j,q15k,q15l,q15m,qoj,q4j,q4k,q4o,q4p,q4q,q4r,q4s,q4t,q4u,q4v,q4l,q4m,q4n,q3i,q41,q15p,q15o,q15u,q15t,q15v,q15w,q15x,q15y,q15z,q160,q161,q162,q15q,q15r,q15s,qoi,q4i,q3h,q40,q15n]
  refine qu7 (λh=>?_) (λ_=>qu9 rfl (qu9 rfl (qu9 rfl (qu9 rfl (qu9 rfl (qua ⟨rfl,rfl,rfl,rfl,rfl,by show b1.length<=_;omega⟩))))))
  have:=of_decide_eq_true h
  omega
 |succ m ih =>
  intro k b1 hk hs
  have hlt:k<b2.length:=by omega
  have e2:IntKind.i64.wrap ((k:Int)+1)=((k+1:Nat):Int):=by rw [q1es (by omega)];rfl
  refine .via qsn ?_
  unfold qsr
  try simp only [gL,dL,lN,wI,p0,aL,dQ]
  simp only [x25q,x26q,x27q,qol,q4x,q3k,q43,q164,qoo,q52,q3n,q46,q16b,qom,q4y,q4z,q3l,q44,q166,q165,q167,qon,q50,q51,q3m,q45,q169,q168,q16a,qoh,q4c,q4d,q4e,q4f,q4g,q4h,q3g,q3z,q15h,q15g,q15i,q15j,q15k,q15l,q15m,qoj,q4j,q4k,q4o,q4p,q4q,q4r,q4s,q4t,q4u,q4v,q4l,q4m,q4n,q3i,q41,q15p,q15o,q15u,q15t,q15v,q15w,q15x,q15y,q15z,q160,q161,q162,q15q,q15r,q15s,qoi,q4i,q3h,q40,q15n,x3q,e2]
  refine qu7 (λh=>?_) (λh=>?_)
  ·refine qu9 (by simp;omega) (qu9 (by rw [len_9 b2 k hlt];simp [hlt]) (qu9 (qos b2 k hlt) ?_))
   rw [qk6 hlt]
   have hsz:=hz _ (List.getElem_mem hlt)
   have hil:=qo9 b2[k]
   simp only [bmap,qbo,qdf,x25q,x26q,x27q,q3k,hil]
   refine qu9 (by simp;omega) (qu9 (by simp;omega) (qu9 rfl (qu9 rfl (qu9 rfl (qu9 rfl (qu9 rfl ?_))))))
   have hl2:((b1++ints b2[k])++[13,10]).length=b1.length+b2[k].size+2:=by simp [hil];omega
   have:=ih (k+1) ((b1++ints b2[k])++[13,10]) (by omega) (by rw [hl2];omega)
   rw [hl2] at this
   refine this.mono λx hx=>⟨hx.1,hx.2.1,hx.2.2.1,hx.2.2.2.1,hx.2.2.2.2.1,by have:=hx.2.2.2.2.2;omega⟩
  ·have:=of_decide_eq_false h
   omega
set_option maxRecDepth 100000 in
theorem qgf (l:List S71) (hl:l.length<=60) (b0:List S71) (b01:List Int):∀ (m k:Nat) (b1:List Int),k+m=l.length->b1.length+m*10001000000<=900000000000 ->
  Ok (qse b1.length l l.length k b0 b01 b1) λx=>x.2.1=(b0,b01)/\x.1.2.1=x.2.2.length/\x.1.2.1<=900000000000:=by
 intro m
 induction m with
 |zero =>
  intro k b1 hk hs
  refine .via qsg ?_
  unfold qsk
  try simp only [gL,dL,eC,wI,p0]
  simp only [x25q,x26q,x27q,qol,q4x,q3k,q43,q164,qoo,q52,q3n,q46,q16b,qom,q4y,q4z,q3l,q44,q166,q165,q167,qon,q50,q51,q3m,q45,q169,q168,q16a,qoh,q4c,q4d,q4e,q4f,q4g,q4h,q3g,q3z,q15h,q15g,q15i,q15j,q15k,q15l,q15m,qoj,q4j,q4k,q4o,q4p,q4q,q4r,q4s,q4t,q4u,q4v,q4l,q4m,q4n,q3i,q41,q15p,q15o,q15u,q15t,q15v,q15w,q15x,q15y,q15z,q160,q161,q162,q15q,q15r,q15s,qoi,q4i,q3h,q40,q15n]
  refine qu7 (λh=>?_) (λ_=>qu9 rfl (qu9 rfl (qu9 rfl (qu9 rfl (qua ⟨rfl,rfl,by show b1.length<=_;omega⟩)))))
  have:=of_decide_eq_true h
  omega
 |succ m ih =>
  intro k b1 hk hs
  have hlt:k<l.length:=by omega
  have e2:IntKind.i64.wrap ((k:Int)+1)=((k+1:Nat):Int):=by rw [q1es (by omega)];rfl
  refine .via qsg ?_
  unfold qsk
  try simp only [gL,dL,eC,wI,p0]
  simp only [x25q,x26q,x27q,qol,q4x,q3k,q43,q164,qoo,q52,q3n,q46,q16b,qom,q4y,q4z,q3l,q44,q166,q165,q167,qon,q50,q51,q3m,q45,q169,q168,q16a,qoh,q4c,q4d,q4e,q4f,q4g,q4h,q3g,q3z,q15h,q15g,q15i,q15j,q15k,q15l,q15m,qoj,q4j,q4k,q4o,q4p,q4q,q4r,q4s,q4t,q4u,q4v,q4l,q4m,q4n,q3i,q41,q15p,q15o,q15u,q15t,q15v,q15w,q15x,q15y,q15z,q160,q161,q162,q15q,q15r,q15s,qoi,q4i,q3h,q40,q15n,x3q]
  refine qu7 (λh=>?_) (λh=>?_)
  ·refine qu9 (by simp) (qu9 (by simp [hlt]) ?_)
   rw [qk6 hlt]
   refine qu6 (qin _ _) λr hr=>?_
   obtain ⟨h1,h2,h3,_⟩:=hr
   rw [h1]
   rw [h1] at h2
   refine qu9 rfl (qu9 rfl (qu9 rfl (qu9 rfl (qu9 rfl ?_))))
   have hz0:0+r.2.length=r.2.length:=Nat.zero_add _
   have hbig:b1.length+r.2.length*100002<=1000000000000:=by
    have g1:r.2.length*100002<=10001000000:=Nat.le_trans (Nat.mul_le_mul_right 100002 h2) (by decide)
    have g2:10001000000<=(m+1)*10001000000:=Nat.le_mul_of_pos_left _ (Nat.succ_pos m)
    exact Nat.le_trans (Nat.add_le_add_left (Nat.le_trans g1 g2) _) (Nat.le_trans hs (by decide))
   refine qu6 (qql l l.length k b0 b01 r.2 h2 h3 r.2.length 0 b1 hz0 hbig) λr1 hr1=>?_
   obtain ⟨q1,q2,q3,q4,q5,q6⟩:=hr1
   rw [q1,q2,q3,q4,q5,e2]
   refine qu9 rfl (qu9 rfl (qu9 rfl (qu9 rfl ?_)))
   exact ih (k+1) r1.2.2.1 (by omega) (by rw [←q5];omega)
  ·have:=of_decide_eq_false h
   omega
theorem q1ev (l:List S71) (hl:l.length<=60) (b:List Int) (hb:b.length<=2000000):Ok (qss l b) λr=>r.1=r.2.length:=.via qsd (by
 unfold qst
 try simp only [gL,dL,lN,aL,dQ]
 simp only [x25q,x26q,x27q,qol,q4x,q3k,q43,q164,qoo,q52,q3n,q46,q16b,qom,q4y,q4z,q3l,q44,q166,q165,q167,qon,q50,q51,q3m,q45,q169,q168,q16a,qoh,q4c,q4d,q4e,q4f,q4g,q4h,q3g,q3z,q15h,q15g,q15i,q15j,q15k,q15l,q15m,qoj,q4j,q4k,q4o,q4p,q4q,q4r,q4s,q4t,q4u,q4v,q4l,q4m,q4n,q3i,q41,q15p,q15o,q15u,q15t,q15v,q15w,q15x,q15y,q15z,q160,q161,q162,q15q,q15r,q15s,qoi,q4i,q3h,q40,q15n,qj]
 refine qu9 rfl (qu9 rfl (qu9 rfl ?_))
 refine qu6 (qgf l hl l b l.length 0 [] (by omega) (by simp;omega)) λr hr=>?_
 obtain ⟨h1,h2,h3⟩:=hr
 rw [h1]
 simp only [qbo,qdf,x25q,x26q,x27q,q3k]
 refine qu9 (by simp;omega) (qu9 (by simp;omega) (qu9 rfl (qua ?_)))
 simp only [x12q,h2])
theorem q83 (b:List Int) (hb:b.length<=2000000):∀ (m k:Nat) (c:Int),b.length - k<=m->k<=b.length+2->0<=c->c<=998->Ok (q5i b c k) λ_=>True:=by
  intro m
  induction m with
  | zero =>
    intro k c hk hk2 h0 h1
    refine .via q5k ?_
    unfold q5p
    try simp only [gL,dL,lN,eC,wI,p0]
    simp only [x25q,x26q,x27q,qol,q4x,q3k,q43,q164,qoo,q52,q3n,q46,q16b,qom,q4y,q4z,q3l,q44,q166,q165,q167,qon,q50,q51,q3m,q45,q169,q168,q16a,qoh,q4c,q4d,q4e,q4f,q4g,q4h,q3g,q3z,q15h,q15g,q15i,q15j,q15k,q15l,q15m,qoj,q4j,q4k,q4o,q4p,q4q,q4r,q4s,q4t,q4u,q4v,q4l,q4m,q4n,q3i,q41,q15p,q15o,q15u,q15t,q15v,q15w,q15x,q15y,q15z,q160,q161,q162,q15q,q15r,q15s,qoi,q4i,q3h,q40,q15n]
    refine qu7 (λh=>?_) (λ_=>qu9 rfl (qua trivial))
    have:=of_decide_eq_true h
    omega
  | succ m ih =>
    intro k c hk hk2 h0 h1
    refine .via q5k ?_
    unfold q5p
    try simp only [gL,dL,lN,eC,wI,p0]
    have e2:IntKind.i64.wrap ((k:Int)+1)=((k+1:Nat):Int):=by rw [q1es (by omega)];rfl
    have e3:IntKind.i64.wrap (((k+1:Nat):Int)+1)=((k+2:Nat):Int):=by rw [q1es (by omega)];omega
    have ec:IntKind.i64.wrap (c+1)=c+1:=q1es (by omega)
    simp only [x25q,x26q,x27q,qol,q4x,q3k,q43,q164,qoo,q52,q3n,q46,q16b,qom,q4y,q4z,q3l,q44,q166,q165,q167,qon,q50,q51,q3m,q45,q169,q168,q16a,qoh,q4c,q4d,q4e,q4f,q4g,q4h,q3g,q3z,q15h,q15g,q15i,q15j,q15k,q15l,q15m,qoj,q4j,q4k,q4o,q4p,q4q,q4r,q4s,q4t,q4u,q4v,q4l,q4m,q4n,q3i,q41,q15p,q15o,q15u,q15t,q15v,q15w,q15x,q15y,q15z,q160,q161,q162,q15q,q15r,q15s,qoi,q4i,q3h,q40,q15n,x3q,e2,e3,ec]
    refine qu7 (λh=>?_) (λ_=>qu9 rfl (qua trivial))
    have hlt:k<b.length:=by have:=of_decide_eq_true h;omega
    have step:Ok (brE (decide (c+1>998)) (some (.inl ((1:Int),()))) (gdE true<| q5i b (c+1) ((k+1:Nat):Int))) λ_=>True:=qu7 (λ_=>qua trivial) (λh=>qu9 rfl (ih (k+1) (c+1) (by omega) (by omega) (by omega) (by have:=of_decide_eq_false h;omega)))
    refine qu9 (by simp) (qu9 (by simp [hlt]) ?_)
    repeat' (first
      | exact qua trivial
      | exact step
      | exact qu9 rfl (ih (k+2) 0 (by omega) (by omega) (by omega) (by omega))
      | (refine qu9 ?_ ?_
         · first
             | (simp;done)
             | (simp;omega)
             | (simp_all;done)
             | (simp_all;omega))
      | (refine qu7 (λ_=>?_) (λ_=>?_)))
theorem q81 (b:List Int) (hb:b.length<=2000000):Ok (qs8 b) λ_=>True:=.via qs7 (by
 unfold qs9
 try simp only [gL,dL]
 simp only [x25q,x26q,x27q,qol,q4x,q3k,q43,q164,qoo,q52,q3n,q46,q16b,qom,q4y,q4z,q3l,q44,q166,q165,q167,qon,q50,q51,q3m,q45,q169,q168,q16a,qoh,q4c,q4d,q4e,q4f,q4g,q4h,q3g,q3z,q15h,q15g,q15i,q15j,q15k,q15l,q15m,qoj,q4j,q4k,q4o,q4p,q4q,q4r,q4s,q4t,q4u,q4v,q4l,q4m,q4n,q3i,q41,q15p,q15o,q15u,q15t,q15v,q15w,q15x,q15y,q15z,q160,q161,q162,q15q,q15r,q15s,qoi,q4i,q3h,q40,q15n]
 have hbd:Ok (q5q b) λ_=>True:=.via q5h (by
  unfold q5r
  try simp only [gL,dL]
  simp only [x25q,x26q,x27q,qol,q4x,q3k,q43,q164,qoo,q52,q3n,q46,q16b,qom,q4y,q4z,q3l,q44,q166,q165,q167,qon,q50,q51,q3m,q45,q169,q168,q16a,qoh,q4c,q4d,q4e,q4f,q4g,q4h,q3g,q3z,q15h,q15g,q15i,q15j,q15k,q15l,q15m,qoj,q4j,q4k,q4o,q4p,q4q,q4r,q4s,q4t,q4u,q4v,q4l,q4m,q4n,q3i,q41,q15p,q15o,q15u,q15t,q15v,q15w,q15x,q15y,q15z,q160,q161,q162,q15q,q15r,q15s,qoi,q4i,q3h,q40,q15n]
  refine qu9 rfl (qu6 (q83 b hb b.length 0 0 (by omega) (by omega) (by omega) (by omega)) ?_)
  rintro (r|r) _
  ·exact qua trivial
  ·exact qua trivial)
 refine qu9 rfl (qu6 hbd λr _=>qu7 (λ_=>qu6 (qgc _ _) λ_ _=>qua trivial) (λ_=>qu7 (λ_=>qu6 (qgc _ _) λ_ _=>qua trivial) (λ_=>qu6 qtj λ_ _=>qua trivial))))
theorem qsx (l:List S71) (b:List Int) (hb:b.length<=2000000):Ok (qrw l b) λr=>r.1=0->HdrOk l:=.via qrv (by
 unfold qrx
 try simp only [gL,dL]
 simp only [x25q,x26q,x27q,qol,q4x,q3k,q43,q164,qoo,q52,q3n,q46,q16b,qom,q4y,q4z,q3l,q44,q166,q165,q167,qon,q50,q51,q3m,q45,q169,q168,q16a,qoh,q4c,q4d,q4e,q4f,q4g,q4h,q3g,q3z,q15h,q15g,q15i,q15j,q15k,q15l,q15m,qoj,q4j,q4k,q4o,q4p,q4q,q4r,q4s,q4t,q4u,q4v,q4l,q4m,q4n,q3i,q41,q15p,q15o,q15u,q15t,q15v,q15w,q15x,q15y,q15z,q160,q161,q162,q15q,q15r,q15s,qoi,q4i,q3h,q40,q15n]
 obtain ⟨r0,e0,p0⟩:=qn3 l
 refine qu9 rfl (qu6 (qu8 e0) λr hr=>?_)
 subst hr
 refine qu6 (qu8 (qgb _ _)) λr1 hr1=>?_
 subst hr1
 refine qu7 (λhb=>qua λh=>?_) (λhb0=>?_)
 ·rw [h] at hb;cases hb
 ·have h0:r.1=0:=by simpa using hb0
  obtain ⟨hl,ha⟩:=p0 h0
  have hok:HdrOk l:=⟨⟨r.2,by rw [e0,←h0]⟩,hl,ha⟩
  refine qu9 rfl (qu9 rfl (qu6 (q1ev l hl b hb) λr2 _=>qu7 (λ_=>qu6 (qgc _ _) λ_ _=>qua λ_=>hok) (λ_=>qu9 rfl (qu6 (q81 b hb) λ_ _=>qua λ_=>hok)))))
end Go.Proofs.YtmlcmoaonaomfaaGreatDoor
namespace Go.Proofs.YtmlcmoaonaomfaaGreatDoor
set_option linter.unusedSimpArgs false
open Go.RowKit
theorem q1do (s p:BA) (hs:s.size<=2000000):Ok (q19b s p) λr=>r.size<=s.size:=.via q19a (by
 unfold q19c
 refine qu6 (P:=λr:BA=>r.size<=s.size) (.via q19s ?_) λr h=>qua h
 unfold q19u
 try simp only [p0]
 refine qu6 (P:=λb:Bool=>b=true->p.size<=s.size) (.via q19m ?_) λr hr=>?_
 ·unfold q19o
  refine qu7 (λh=>?_) (λ_=>qua (λh=>by cases h))
  have h:(s.size:Int)≥(p.size:Int):=by simpa using h
  refine qu9 ?_ (qua λ_=>by omega)
  rw [q1es (by omega)]
  simp
  omega
 ·refine qu7 (λh=>?_) (λ_=>qua (Nat.le_refl _))
  have h:=hr h
  rw [q1es (by omega)]
  refine qu9 (by simp;omega) (qua ?_)
  rw [ByteArray.size_extract]
  omega)
theorem qub (x:Int):([[(C.int Go.IntKind.u8 x)]]:List (List C))=qcy.encL [x]:=rfl
theorem gd1_5 (b:List Int) (k:Nat) (h:k<b.length):(decide (k<(qcy.encL b).length)&&(((qcy.encL b).getD k []).length==(1:Nat)))=true:=by
 rw [EC.getD_lt _ _ h,x27q]
 simp [h]
 rfl
set_option maxRecDepth 100000 in
theorem q183 (s:BA) (hs:s.size<=2000000):∀ (m k:Nat) (b:List Int),k+m=s.size->b.length<=k->Ok (qa1 s b.length s.size k b) λx=>x.2.length<=s.size:=by
 intro m
 induction m with
 |zero =>
  intro k b hk hb
  refine .via qa3 ?_
  unfold qa7
  try simp only [gL,dL,lN,wI,p0,aL,dQ]
  simp only [x25q,x26q,x27q,qol,q4x,q3k,q43,q164,qoo,q52,q3n,q46,q16b,qom,q4y,q4z,q3l,q44,q166,q165,q167,qon,q50,q51,q3m,q45,q169,q168,q16a,qoh,q4c,q4d,q4e,q4f,q4g,q4h,q3g,q3z,q15h,q15g,q15i,q15j,q15k,q15l,q15m,qoj,q4j,q4k,q4o,q4p,q4q,q4r,q4s,q4t,q4u,q4v,q4l,q4m,q4n,q3i,q41,q15p,q15o,q15u,q15t,q15v,q15w,q15x,q15y,q15z,q160,q161,q162,q15q,q15r,q15s,qoi,q4i,q3h,q40,q15n,qog,q4b,q3f,q3y,q15f,qok,q4w,q3j,q42,q163]
  refine qu7 (λh=>?_) (λ_=>qu9 rfl (qua (by show b.length<=_;omega)))
  have:=of_decide_eq_true h
  omega
 |succ m ih =>
  intro k b hk hb
  have hlt:k<s.size:=by omega
  have e2:IntKind.i64.wrap ((k:Int)+1)=((k+1:Nat):Int):=by rw [q1es (by omega)];rfl
  have step:∀ x:Int,Ok (qa1 s (b.length+1) s.size ((k+1:Nat):Int) (b++[x])) λx=>x.2.length<=s.size:=λx=>by
   have:=ih (k+1) (b++[x]) (by omega) (by simp;omega)
   rwa [List.length_append,List.length_singleton] at this
  refine .via qa3 ?_
  unfold qa7
  try simp only [gL,dL,lN,wI,p0,aL,dQ]
  simp only [x25q,x26q,x27q,qol,q4x,q3k,q43,q164,qoo,q52,q3n,q46,q16b,qom,q4y,q4z,q3l,q44,q166,q165,q167,qon,q50,q51,q3m,q45,q169,q168,q16a,qoh,q4c,q4d,q4e,q4f,q4g,q4h,q3g,q3z,q15h,q15g,q15i,q15j,q15k,q15l,q15m,qoj,q4j,q4k,q4o,q4p,q4q,q4r,q4s,q4t,q4u,q4v,q4l,q4m,q4n,q3i,q41,q15p,q15o,q15u,q15t,q15v,q15w,q15x,q15y,q15z,q160,q161,q162,q15q,q15r,q15s,qoi,q4i,q3h,q40,q15n,qog,q4b,q3f,q3y,q15f,qok,q4w,q3j,q42,q163,x3q,e2,qub,qdf,x25q,x26q,x27q,q3k,List.length_singleton]
  refine qu7 (λ_=>qu9 (by simp [hlt]) (qu6 (q7r _) λr _=>qu7 (λ_=>qu7 (λh=>?_) (λ_=>?_)) (λ_=>?_))) (λh=>?_)
  ·have hp:0<b.length:=by simpa using h
   have e3:IntKind.i64.wrap ((b.length:Int) - 1)=((b.length - 1:Nat):Int):=by rw [q1es (by omega)];omega
   simp only [e3,x3q]
   refine qu9 (by simp;omega) (qu9 ?_ (qu9 ?_ (qu7 (λ_=>qu9 rfl (ih (k+1) b (by omega) (by omega))) (λ_=>qu9 (by simp;omega) (qu9 rfl (step 32))))))
   ·have:=gd1_5 b (b.length - 1) (by omega)
    rwa [EC.encL_length] at this
   ·exact isP_5 b _ (by omega)
  ·exact qu9 (by simp;omega) (qu9 rfl (step 32))
  ·exact qu9 (by simp;omega) (qu9 rfl (step _))
  ·have:=of_decide_eq_false h
   omega
theorem sqz_ok (s:BA) (hs:s.size<=2000000):Ok (qa8 s) λr=>r.size<=s.size:=.via qa0 (by
 unfold qa9
 rw [qj]
 refine qu6 (q183 s hs s.size 0 [] (by omega) (by simp)) λr0 h0=>?_
 rw [q8l]
 refine qu6 (qu8 rfl) λr1 h1=>?_
 subst h1
 have hz:(ByteArray.mk (r0.2.map ub).toArray).size=r0.2.length:=by show (List.toArray _).size=_;simp
 refine qu6 (q1do _ _ (by omega)) λr2 h2=>qua (by omega))
theorem qh4 (n v:BA) (hn:n.size<=2000000) (hv:v.size<=2000000):Ok (q9v n v) λr=>r.size<=n.size+v.size+3:=.via q9u (by
 unfold q9w
 rw [maxI]
 refine qu6 (qu8 (qr8 n (by omega))) λr0 h0=>?_
 have h0:r0.size=n.size:=by rw [h0,qr6]
 have e1:(ByteArray.mk (List.toArray [58])).size=1:=rfl
 have e2:(ByteArray.mk (List.toArray [13,10])).size=2:=rfl
 refine qu7 (λh=>?_) (λ_=>qu6 (sqz_ok v hv) λr1 h1=>qu7 (λh=>?_) (λ_=>qu7 (λh=>?_) (λ_=>qua ?_)))
 ·have:=of_decide_eq_true h
  omega
 ·have:=of_decide_eq_true h
  simp only [ByteArray.size_append] at this
  omega
 ·have:=of_decide_eq_true h
  simp only [ByteArray.size_append] at this
  omega
 ·simp only [ByteArray.size_append]
  omega)
theorem gde_5 (b:List Int) (k:Nat) (h:k<b.length):(decide (k<(qcy.encL b).length)&&isE [(K1.int Go.IntKind.u8)] (0:Nat) ((qcy.encL b).getD k []))=true:=by
 rw [EC.getD_lt _ _ h,x27q]
 simp [h]
 rfl
theorem q1a3 (b c:List Int):∀ (m k:Nat) (x:Int),k+m=b.length->b.length<=9000000000000000000->Ok (q171 c x b b.length k) λ_=>True:=by
 intro m
 induction m with
 |zero =>
  intro k x hk hb
  refine .via q173 ?_
  unfold q177
  try simp only [gL,dL,eC,wI,p0]
  simp only [x25q,x26q,x27q,qol,q4x,q3k,q43,q164,qoo,q52,q3n,q46,q16b,qom,q4y,q4z,q3l,q44,q166,q165,q167,qon,q50,q51,q3m,q45,q169,q168,q16a,qoh,q4c,q4d,q4e,q4f,q4g,q4h,q3g,q3z,q15h,q15g,q15i,q15j,q15k,q15l,q15m,qoj,q4j,q4k,q4o,q4p,q4q,q4r,q4s,q4t,q4u,q4v,q4l,q4m,q4n,q3i,q41,q15p,q15o,q15u,q15t,q15v,q15w,q15x,q15y,q15z,q160,q161,q162,q15q,q15r,q15s,qoi,q4i,q3h,q40,q15n,qog,q4b,q3f,q3y,q15f,qok,q4w,q3j,q42,q163]
  refine qu7 (λh=>?_) (λ_=>qu9 rfl (qu9 rfl (qua trivial)))
  have:=of_decide_eq_true h
  omega
 |succ m ih =>
  intro k x hk hb
  have hlt:k<b.length:=by omega
  have e2:IntKind.i64.wrap ((k:Int)+1)=((k+1:Nat):Int):=by rw [q1es (by omega)];rfl
  refine .via q173 ?_
  unfold q177
  try simp only [gL,dL,eC,wI,p0]
  simp only [x25q,x26q,x3q,e2]
  refine qu7 (λ_=>qu9 (by simp) (qu9 (gde_5 b k hlt) (qu9 rfl (qu9 rfl (ih (k+1) _ (by omega) hb))))) (λh=>?_)
  have:=of_decide_eq_false h
  omega
theorem sum_ok (key:Int) (b:List Int) (hb:b.length<=9000000000000000000):Ok (q178 key b) λ_=>True:=.via q170 (by
 unfold q179
 try simp only [gL,dL,lN]
 simp only [x25q,x26q,x27q]
 exact qu9 rfl (qu9 rfl (qu6 (q1a3 b b b.length 0 _ (by omega) hb) λ_ _=>qua trivial)))
theorem name60 (s:BA):Ok (q6x s) λr=>r=true->s.size<=60:=.via q6w (by
 unfold q6y
 refine qu7 (λ_=>qu7 (λh=>?_) (λ_=>qua (λh=>by cases h))) (λ_=>qua (λh=>by cases h))
 have h:(s.size:Int)<=60:=by simpa using h
 exact qu6 (qu8 (q3d s (by omega))) λr _=>qua (λ_=>by omega))
theorem q17s (s:BA):Ok (q7f s) λr=>r=true->s.size<=60:=.via q7e (by
 unfold q7g
 refine qu6 (name60 s) λr hr=>qu7 (λh=>?_) (λ_=>qua (λh=>by cases h))
 have:=hr (by simpa using h)
 exact qu6 (qu8 (qr8 s (by omega))) λ_ _=>qua (λ_=>this))
theorem qu1 (s:BA):Ok (qu2 s) λr=>r=false->s.size<=60:=.via qu0 (by
 unfold qu3
 refine qu6 (q17s s) λr hr=>qu7 (λh=>?_) (λ_=>qua (λh=>by cases h))
 have h:=hr (by simpa using h)
 exact qu6 (qu8 (same_s s _ (by omega) (by decide))) λ_ _=>qua (λ_=>h))
theorem qnl (l:List BA) (hl:l.length<=2000000):∀ (m k:Nat),k+m=l.length->Ok (qnq l l.length k) λx=>Sum.elim (λr=>0<=r.1) (λ_=>∀ s∈l.drop k,s.size<=60) x:=by
 intro m
 induction m with
 |zero =>
  intro k hk
  refine .via qns ?_
  unfold qnx
  try simp only [gL,dL,eC,wI,p0]
  simp only [x25q,x26q,x27q,qol,q4x,q3k,q43,q164,qoo,q52,q3n,q46,q16b,qom,q4y,q4z,q3l,q44,q166,q165,q167,qon,q50,q51,q3m,q45,q169,q168,q16a,qoh,q4c,q4d,q4e,q4f,q4g,q4h,q3g,q3z,q15h,q15g,q15i,q15j,q15k,q15l,q15m,qoj,q4j,q4k,q4o,q4p,q4q,q4r,q4s,q4t,q4u,q4v,q4l,q4m,q4n,q3i,q41,q15p,q15o,q15u,q15t,q15v,q15w,q15x,q15y,q15z,q160,q161,q162,q15q,q15r,q15s,qoi,q4i,q3h,q40,q15n,qog,q4b,q3f,q3y,q15f,qok,q4w,q3j,q42,q163]
  refine qu7 (λh=>?_) (λ_=>qu9 rfl (qua ?_))
  ·have:=of_decide_eq_true h
   omega
  ·show ∀ s∈l.drop k,s.size<=60
   rw [List.drop_eq_nil_of_le (by omega)]
   intro s h
   cases h
 |succ m ih =>
  intro k hk
  have hlt:k<l.length:=by omega
  have e2:IntKind.i64.wrap ((k:Int)+1)=((k+1:Nat):Int):=by rw [q1es (by omega)];rfl
  refine .via qns ?_
  unfold qnx
  try simp only [gL,dL,eC,wI,p0]
  simp only [x25q,x26q,x27q,qol,q4x,q3k,q43,q164,qoo,q52,q3n,q46,q16b,qom,q4y,q4z,q3l,q44,q166,q165,q167,qon,q50,q51,q3m,q45,q169,q168,q16a,qoh,q4c,q4d,q4e,q4f,q4g,q4h,q3g,q3z,q15h,q15g,q15i,q15j,q15k,q15l,q15m,qoj,q4j,q4k,q4o,q4p,q4q,q4r,q4s,q4t,q4u,q4v,q4l,q4m,q4n,q3i,q41,q15p,q15o,q15u,q15t,q15v,q15w,q15x,q15y,q15z,q160,q161,q162,q15q,q15r,q15s,qoi,q4i,q3h,q40,q15n,qog,q4b,q3f,q3y,q15f,qok,q4w,q3j,q42,q163,x3q,e2]
  refine qu7 (λh=>?_) (λh=>?_)
  ·refine qu9 (by simp) (qu9 (by simp [hlt]) ?_)
   rw [qk6 hlt]
   refine qu6 (qu1 _) λr hr=>qu7 (λ_=>qua (show (0:Int)<=(k:Int) by omega)) (λh=>qu9 rfl ?_)
   have h1:=hr h
   refine (ih (k+1) (by omega)).mono ?_
   rintro (x|x) hx
   ·exact hx
   ·show ∀ s∈l.drop k,s.size<=60
    have hx:∀ s∈l.drop (k+1),s.size<=60:=hx
    rw [qcs hlt]
    intro s hs
    rcases List.mem_cons.1 hs with rfl|hs
    ·exact h1
    ·exact hx s hs
  ·have:=of_decide_eq_false h
   omega
theorem qt2 (l : List BA) : Ok (q17e l) λr => r = true -> l.length <= 20 /\ ∀ s ∈ l, s.size <= 60 := .via q17d (by
  unfold q17f
  try simp only [gL, dL, lN]
  simp only [x25q, x26q, x27q]
  refine qu7 (λ_ => qu7 (λh => ?_) (λ_ => qua (λh => by cases h))) (λ_ => qua (λh => by cases h))
  have hl' : (l.length : Int) <= 20 := by simpa using h
  have hl : l.length <= 20 := by omega
  refine qu9 rfl (qu6 (P := λr => r = false -> ∀ s ∈ l, s.size <= 60) (.via qkw ?_) λr hr => qua (λh => ⟨hl, hr (by simpa using h)⟩))
  unfold qky
  try simp only [gL, dL]
  simp only [x25q, x26q, x27q]
  refine qu9 rfl (qu6 (P := λr => r < 0 -> ∀ s ∈ l, s.size <= 60) (.via qnp ?_) λr hr => qua (λh => hr (by have := of_decide_eq_false h; omega)))
  unfold qnz
  try simp only [gL, dL, lN]
  simp only [x25q, x26q, x27q]
  refine qu9 rfl (qu6 (qnl l (by omega) l.length 0 (by omega)) ?_)
  rintro (x | x) hx
  · exact qua (λh => by have : (0 : Int) <= x.1 := hx; omega)
  · exact qua (λ_ => hx))
theorem and15 (a:BitVec (IntKind.bits IntKind.u64)):((a &&& BitVec.ofInt (IntKind.bits IntKind.u64) 15).toNat:Int)<=15:=by
 have:(a &&& BitVec.ofInt (IntKind.bits IntKind.u64) 15).toNat<=15:=by
  rw [BitVec.toNat_and]
  exact Nat.and_le_right
 omega
theorem and15w (a:BitVec (IntKind.bits IntKind.u64)):IntKind.u64.wrap ((a &&& BitVec.ofInt (IntKind.bits IntKind.u64) 15).toNat:Int)=((a &&& BitVec.ofInt (IntKind.bits IntKind.u64) 15).toNat:Int):=IntWalk.u64_in _ (by have:=and15 a;omega)
set_option maxRecDepth 100000 in
theorem qmb (n:Int):∀ (m k:Nat) (b:List Int),k+m=16->b.length=16->Ok (q16i n 16 16 k b) λx=>x.2.length=16:=by
 intro m
 induction m with
 |zero =>
  intro k b hk hb
  refine .via q16k ?_
  unfold q16o
  try simp only [gL,dL,lN,wI,p0]
  simp only [x25q,x26q,x27q,qol,q4x,q3k,q43,q164,qoo,q52,q3n,q46,q16b,qom,q4y,q4z,q3l,q44,q166,q165,q167,qon,q50,q51,q3m,q45,q169,q168,q16a,qoh,q4c,q4d,q4e,q4f,q4g,q4h,q3g,q3z,q15h,q15g,q15i,q15j,q15k,q15l,q15m,qoj,q4j,q4k,q4o,q4p,q4q,q4r,q4s,q4t,q4u,q4v,q4l,q4m,q4n,q3i,q41,q15p,q15o,q15u,q15t,q15v,q15w,q15x,q15y,q15z,q160,q161,q162,q15q,q15r,q15s,qoi,q4i,q3h,q40,q15n,qog,q4b,q3f,q3y,q15f,qok,q4w,q3j,q42,q163]
  refine qu7 (λh=>?_) (λ_=>qu9 rfl (qua hb))
  have:=of_decide_eq_true h
  omega
 |succ m ih =>
  intro k b hk hb
  have hlt:k<b.length:=by omega
  have e2:IntKind.i64.wrap ((k:Int)+1)=((k+1:Nat):Int):=by rw [q1es (by omega)];rfl
  have e3:IntKind.i64.wrap (4*(k:Int))=4*(k:Int):=q1es (by omega)
  have e4:IntKind.i64.wrap (60 - 4*(k:Int))=60 - 4*(k:Int):=q1es (by omega)
  refine .via q16k ?_
  unfold q16o
  try simp only [gL,dL,lN,wI,p0]
  simp only [x25q,x26q,x27q,qol,q4x,q3k,q43,q164,qoo,q52,q3n,q46,q16b,qom,q4y,q4z,q3l,q44,q166,q165,q167,qon,q50,q51,q3m,q45,q169,q168,q16a,qoh,q4c,q4d,q4e,q4f,q4g,q4h,q3g,q3z,q15h,q15g,q15i,q15j,q15k,q15l,q15m,qoj,q4j,q4k,q4o,q4p,q4q,q4r,q4s,q4t,q4u,q4v,q4l,q4m,q4n,q3i,q41,q15p,q15o,q15u,q15t,q15v,q15w,q15x,q15y,q15z,q160,q161,q162,q15q,q15r,q15s,qoi,q4i,q3h,q40,q15n,qog,q4b,q3f,q3y,q15f,qok,q4w,q3j,q42,q163,x3q,e2,e3,e4,and15w]
  refine qu7 (λ_=>qu7 (λh=>?_) (λ_=>qu9 ?_ (qu9 (by simp;omega) (qu9 (by have h:=gd1_5 b k hlt;rwa [EC.encL_length] at h) (qu9 rfl (ih (k+1) _ (by omega) (by rw [List.length_set];exact hb))))))) (λh=>?_)
  ·have:=of_decide_eq_true h
   omega
  ·have h1:=and15 (BitVec.ofInt (IntKind.bits IntKind.u64) (Int.fdiv n ((2:Int) ^ (Min.min (Int.toNat (60 - 4*(k:Int))) (IntKind.bits IntKind.u64)))))
   rw [x6q]
   refine ⟨decide_eq_true (by omega),decide_eq_true ?_⟩
   show _<16
   omega
  ·have:=of_decide_eq_false h
   omega
theorem hex_ok (n:Int):Ok (q16p n) λr=>r.size=16:=.via q16h (by
 unfold q16q
 have e1:(List.replicate (Int.toNat (16:Int)) [(C.int Go.IntKind.u8 (0:Int))])=qcy.encL (List.replicate 16 0):=rfl
 rw [e1,x25q]
 refine qu6 (qmb n 16 0 (List.replicate 16 0) rfl rfl) λr0 h0=>?_
 rw [q8l]
 refine qu6 (qu8 rfl) λr1 h1=>qua ?_
 subst h1
 show (List.toArray _).size=_
 simpa using h0)
end Go.Proofs.YtmlcmoaonaomfaaGreatDoor
