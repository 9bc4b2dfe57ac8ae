/- The base of the second lot: freebusy.Union, recur.Between, zones.Validate, slices.Concat at periods and the closed test are answered by rules. -/
import Derived.Test.YtfakibajjibjjaaGreatDoorZ29
import Derived.Test.YtfakibajjibjjaaGreatDoorZD
namespace Go.Proofs.YtfakibajjibjjaaGreatDoor
open Go.RowKit
set_option maxRecDepth 100000
def unionS (l:List Pd):Option (Nat×List Pd):=if l.length≤1000000 then some ((unionU l).length,unionU l) else none
noncomputable def betS (z:ZT) (s:DT) (r:RT) (a b:Int):Option (List Int×(Int×Int)):=betF z s r a b (finB z s r a b)
def zDec:V→Option ZT
 |.agg [.c (.str x0),.c (.int .i64 x1),.c (.int .i64 x2),.c (.int .i64 x3),.c (.int .i64 x4),.c (.int .i64 x5),.c (.int .i64 x6),.c (.int .i64 x7),.c (.int .i64 x8),.c (.int .i64 x9),.c (.int .i64 x10)]=>some (x0,x1,x2,x3,x4,x5,x6,x7,x8,x9,x10)
 |_=>none
def dDec:V→Option DT
 |.agg [.c (.int .i64 x0),.c (.int .i64 x1),.c (.int .i64 x2),.c (.int .i64 x3),.c (.int .i64 x4),.c (.int .i64 x5),.c (.int .i64 x6)]=>some (x0,x1,x2,x3,x4,x5,x6)
 |_=>none
def rDec:V→Option RT
 |.agg [.c (.int .i64 x0),.c (.int .i64 x1),.c (.int .i64 x2),.c (.int .i64 x3),.c (.bool x4),.c (.sl e5),.c (.sl e6),.c (.sl e7)]=>if qdf.isL e5=true∧qdf.isL e6=true∧qdf.isL e7=true then some (x0,x1,x2,x3,x4,qdf.decL e5,qdf.decL e6,qdf.decL e7) else none
 |_=>none
theorem q15j {v:V} {z:ZT} (h:zDec v=some z):v=zV z:=by
 unfold zDec at h
 split at h
 ·injection h with h;subst h;rfl
 ·cases h
theorem qb6 {v:V} {d:DT} (h:dDec v=some d):v=dV d:=by
 unfold dDec at h
 split at h
 ·injection h with h;subst h;rfl
 ·cases h
theorem qui {v:V} {r:RT} (h:rDec v=some r):v=rV r:=by
 unfold rDec at h
 split at h
 ·split at h
  ·rename_i h1
   injection h with h
   subst h
   unfold rV
   simp only [EC.encL_decL _ h1.1,EC.encL_decL _ h1.2.1,EC.encL_decL _ h1.2.2]
  ·cases h
 ·cases h
theorem quh (r:RT):rDec (rV r)=some r:=by
 obtain ⟨x0,x1,x2,x3,x4,x5,x6,x7⟩:=r
 unfold rV rDec
 simp only [EC.isL_encL,EC.decL_encL]
 rfl
def catS (ls:List (List Pd)):Option (Nat×List Pd):=if ls.flatten.length≤1000000 then some (ls.flatten.length,ls.flatten) else none
def scrS:Option Bool:=some true
noncomputable def X1c:FuncId→List V→Option (V×List B):=fun f a =>
 bif f==4 then (match a with|[]=>some (.c (.bool true),[])|_=>none)
 else bif f==22 then (match a with|[.c (.sl es)]=>if qdg.isL es=true then (catS (qdg.decL es)).map fun r=>(.row 0 r.1,[.row (qde.encL r.2)]) else none|_=>none)
 else bif f==18 then (match a with|[.c (.sl es)]=>if qde.isL es=true then (unionS (qde.decL es)).map fun r=>(.row 0 r.1,[.row (qde.encL r.2)]) else none|_=>none)
 else bif f==16 then (match a with|[z]=>(zDec z).bind fun z=>(pZval z).map fun r=>(.agg [.c (.int .i64 r.1),.c (.int .i64 r.2)],[])|_=>none)
 else bif f==49 then (match a with|[z,s,r,.c (.int .i64 p),.c (.int .i64 q)]=>(zDec z).bind fun z=>(dDec s).bind fun s=>(rDec r).bind fun r=>(betS z s r p q).map fun x=>(.tup [.c (.sl (qdf.encL x.1)),.agg [.c (.int .i64 x.2.1),.c (.int .i64 x.2.2)]],[])|_=>none)
 else X0c f a
noncomputable def X1:XT:=⟨X1c,X0h⟩
def q147:=qnk (vC (cSl qde))
def q14a:Cod (V×List B) (Nat×List Pd):=cPair (vRow 0) (qnk (bRow qde))
theorem q148 (x:List Pd) (r:Nat×List Pd) (h:unionS x=some r):Call Tryz.prog lv X1 18 (q147.enc x)=some (q14a.enc r):=by
 have:X1.c 18 (q147.enc x)=some (q14a.enc r):=by
  show (if qde.isL (qde.encL x)=true then (unionS (qde.decL (qde.encL x))).map fun r=>((.row 0 r.1,[.row (qde.encL r.2)]):V×List B) else none)=_
  rw [EC.isL_encL,EC.decL_encL,h]
  rfl
 unfold Call callD
 rw [this]
noncomputable def q14b:=entS Tryz.prog lv X1 18 [] q147 q14a unionS q148
theorem q17d (z:ZT) (r:Int×Int) (h:pZval z=some r):Call Tryz.prog lv X1 16 (q17f.enc z)=some (q17g.enc r):=by
 have:X1.c 16 (q17f.enc z)=some (q17g.enc r):=by
  show (pZval z).map (fun r=>((.agg [.c (.int .i64 r.1),.c (.int .i64 r.2)],[]):V×List B))=_
  rw [h]
  rfl
 unfold Call callD
 rw [this]
noncomputable def q17e:=entS Tryz.prog lv X1 16 [] q17f q17g pZval q17d
abbrev BT:=ZT×DT×RT×Int×Int
def bet_ca:=qni (vAgg (qni (vC cStr) (qni (vC (cInt .i64)) (qni (vC (cInt .i64)) (qni (vC (cInt .i64)) (qni (vC (cInt .i64)) (qni (vC (cInt .i64)) (qni (vC (cInt .i64)) (qni (vC (cInt .i64)) (qni (vC (cInt .i64)) (qni (vC (cInt .i64)) (qnk (vC (cInt .i64))))))))))))))
 (qni (vAgg (qni (vC (cInt .i64)) (qni (vC (cInt .i64)) (qni (vC (cInt .i64)) (qni (vC (cInt .i64)) (qni (vC (cInt .i64)) (qni (vC (cInt .i64)) (qnk (vC (cInt .i64))))))))))
 (qni (vAgg (qni (vC (cInt .i64)) (qni (vC (cInt .i64)) (qni (vC (cInt .i64)) (qni (vC (cInt .i64)) (qni (vC cBool) (qni (vC (cSl qdf)) (qni (vC (cSl qdf)) (qnk (vC (cSl qdf))))))))))) (qni (vC (cInt .i64)) (qnk (vC (cInt .i64))))))
def bet_cr:Cod (V×List B) (List Int×(Int×Int)):=cFstU (cPair (vTup (qni (vC (cSl qdf)) (qnk (vAgg (qni (vC (cInt .i64)) (qnk (vC (cInt .i64)))))))) qnj)
theorem q6u (x:BT) (r:List Int×(Int×Int)) (h:betS x.1 x.2.1 x.2.2.1 x.2.2.2.1 x.2.2.2.2=some r):Call Tryz.prog lv X1 49 (bet_ca.enc x)=some (bet_cr.enc r):=by
 have:X1.c 49 (bet_ca.enc x)=some (bet_cr.enc r):=by
  show (rDec (rV x.2.2.1)).bind (fun r=>(betS x.1 x.2.1 r x.2.2.2.1 x.2.2.2.2).map fun x=>((.tup [.c (.sl (qdf.encL x.1)),.agg [.c (.int .i64 x.2.1),.c (.int .i64 x.2.2)]],[]):V×List B))=_
  rw [quh,Option.bind_some,h]
  rfl
 unfold Call callD
 rw [this]
noncomputable def bet_e:=entS Tryz.prog lv X1 49 [] bet_ca bet_cr (fun x=>betS x.1 x.2.1 x.2.2.1 x.2.2.2.1 x.2.2.2.2) q6u
def cat_ca:=qnk (vC (cSl qdg))
theorem q8l (x:List (List Pd)) (r:Nat×List Pd) (h:catS x=some r):Call Tryz.prog lv X1 22 (cat_ca.enc x)=some (q14a.enc r):=by
 have:X1.c 22 (cat_ca.enc x)=some (q14a.enc r):=by
  show (if qdg.isL (qdg.encL x)=true then (catS (qdg.decL (qdg.encL x))).map fun r=>((.row 0 r.1,[.row (qde.encL r.2)]):V×List B) else none)=_
  rw [EC.isL_encL,EC.decL_encL,h]
  rfl
 unfold Call callD
 rw [this]
noncomputable def cat_e:=entS Tryz.prog lv X1 22 [] cat_ca q14a catS q8l
def scr_ca:Cod (List V) Unit:=qnj
def scr_cr:Cod (V×List B) Bool:=cFstU (cPair (vC cBool) qnj)
theorem qx7 (x:Unit) (r:Bool) (h:scrS=some r):Call Tryz.prog lv X1 4 (scr_ca.enc x)=some (scr_cr.enc r):=by
 have:X1.c 4 (scr_ca.enc x)=some (scr_cr.enc r):=by
  unfold scrS at h
  injection h with h
  subst h
  rfl
 unfold Call callD
 rw [this]
noncomputable def scr_e:=entS Tryz.prog lv X1 4 [] scr_ca scr_cr (fun _=>scrS) qx7
noncomputable def tab1:=[scr_e,cat_e,q14b,q17e,bet_e]
theorem quu {Z Y Y':ZMap} {m m':Nat→Option Value} {u:Value} {r:RT} (h:Rep Z Y m u (rV r)):Rep Z Y' m' u (rV r):=by
 cases h with
 |agg cs _ hl h1 hr =>
  refine .agg cs _ hl h1 fun i u x hu hx=>?_
  have h2:=hr i u x hu hx
  have hc:∃ y,x=.c y:=by
   match i,hx with
   |0,hx=>simp at hx;exact ⟨_,hx.symm⟩
   |1,hx=>simp at hx;exact ⟨_,hx.symm⟩
   |2,hx=>simp at hx;exact ⟨_,hx.symm⟩
   |3,hx=>simp at hx;exact ⟨_,hx.symm⟩
   |4,hx=>simp at hx;exact ⟨_,hx.symm⟩
   |5,hx=>simp at hx;exact ⟨_,hx.symm⟩
   |6,hx=>simp at hx;exact ⟨_,hx.symm⟩
   |7,hx=>simp at hx;exact ⟨_,hx.symm⟩
   |i+8,hx=>simp at hx
  obtain ⟨y,rfl⟩:=hc
  cases h2 with
  |c h2=>exact .c h2
theorem rep_rC {Z Y:ZMap} {m:Nat→Option Value} {u:Value} {r:RT} (h:Rep Z Y m u (rV r)):∃ s1 s2 s3,u=.agg (rC r s1 s2 s3):=by
 cases h with
 |agg cs _ hl h1 hr =>
  have h8:cs.size=8:=by simpa using hl
  refine ⟨cs[5],cs[6],cs[7],?_⟩
  have g:∀ (i:Nat) (hi:i<8) (x:V),[V.c (.int .i64 r.1),.c (.int .i64 r.2.1),.c (.int .i64 r.2.2.1),.c (.int .i64 r.2.2.2.1),.c (.bool r.2.2.2.2.1),.c (.sl (qdf.encL r.2.2.2.2.2.1)),.c (.sl (qdf.encL r.2.2.2.2.2.2.1)),.c (.sl (qdf.encL r.2.2.2.2.2.2.2))][i]?=some x→Rep Z Y m (cs[i]'(by omega)) x:=fun i hi x hx=>hr i _ x (Array.getElem?_eq_getElem (by omega)) hx
  have e0:=qux (g 0 (by omega) _ rfl)
  have e1:=qux (g 1 (by omega) _ rfl)
  have e2:=qux (g 2 (by omega) _ rfl)
  have e3:=qux (g 3 (by omega) _ rfl)
  have e4:=quv (g 4 (by omega) _ rfl)
  congr 1
  apply Array.ext (by simp [rC,h8])
  intro i hi1 hi2
  have:i<8:=by omega
  match i,this with
  |0,_=>exact e0
  |1,_=>exact e1
  |2,_=>exact e2
  |3,_=>exact e3
  |4,_=>exact e4
  |5,_=>rfl
  |6,_=>rfl
  |7,_=>rfl
theorem HoldI.repc {W w:World} {Z:ZMap} {v:Value} {l:List Int} (h:HoldI W w v l) (hb:Bel W w) (hZ:∀ b o u,Z b o=some u→W.cell? ⟨b,o,none⟩=some u):RepC (Z1 W w Z) v (.sl (qdf.encL l)):=by
 rcases h with ⟨rfl,A,c,rfl,hc,hA⟩|⟨g,c,rfl,hg,h⟩
 ·exact .sl A 0 c 1 0 0 (fun _=>.nilFunc) [] rfl (by simp) hc (by simp) (by simp) (by simp) (by simp) hA
 ·obtain ⟨⟨t,fz,cur,hv,hs,hf,hfz,hcell⟩,hl,hle,hm⟩:=h
  have get:∀ {i j:Nat} {e:List C} {x:C},(qdf.encL l)[i]?=some e→e[j]?=some x→∃ y,x=.int .i64 y∧w.cell? ⟨g,i*1+j,none⟩=some (.int .i64 y):=by
   intro i j e x h1 h2
   rw [EC.encL,List.getElem?_map] at h1
   cases hx:l[i]? with
   |none=>rw [hx] at h1;cases h1
   |some y =>
    rw [hx] at h1
    injection h1 with h1
    subst h1
    match j,h2 with
    |0,h2=>simp [qdf] at h2;subst h2;exact ⟨y,rfl,by simp only [World.cell?,hv,Nat.mul_one,Nat.add_zero];exact hcell i y hx⟩
    |j+1,h2=>simp [qdf] at h2
  refine .sl _ l.length c 1 g 0 (fun j=>(w.cell? ⟨g,j,none⟩).getD undef) _ (by simp) hle hm (fun e he=>?_) (fun _=>rfl) ?_ ?_ (by simp)
  ·rw [EC.encL,List.mem_map] at he
   obtain ⟨x,_,rfl⟩:=he
   rfl
  ·intro i e j x h1 h2
   obtain ⟨y,rfl,hu⟩:=get h1 h2
   have hk:=Z1_ok (Z:=Z) hb hZ g (i*1+j)
   simp only [Nat.zero_add,hu,Option.getD_some]
   unfold Z1 at hk ⊢
   split
   ·rename_i hs
    obtain ⟨u',hu'⟩:=Option.isSome_iff_exists.1 hs
    rw [hu']
    rw [hs,if_pos rfl] at hk
    have:=hk u' hu'
    rw [hu] at this
    exact this.symm
   ·first|(rw [if_pos hg,hu];done)|exact hu|simpa [hg] using hu
  ·intro i e j x h1 h2
   obtain ⟨y,rfl,hu⟩:=get h1 h2
   simp only [hu,Option.getD_some]
   exact .int _ _
theorem bet_ok (z:ZT) (s:DT) (r:RT) (a b:Int) (l:List Int) (f:Int×Int) (h:betS z s r a b=some (l,f)) :
  CallOk Tryz.prog 49 [zV z,dV s,rV r,.c (.int .i64 a),.c (.int .i64 b)] (.tup [.c (.sl (qdf.encL l)),.agg [.c (.int .i64 f.1),.c (.int .i64 f.2)]],[]):=by
 refine ⟨rfl,(fun b hb=>by cases hb),fun w Z Y cargs hG hZ hY hs hr=>?_⟩
 have h5:cargs.size=5:=hs
 have g:∀ (i:Nat) (hi:i<5) (x:V),[zV z,dV s,rV r,V.c (.int .i64 a),.c (.int .i64 b)][i]?=some x→Rep Z Y noM (cargs[i]'(by omega)) x:=fun i hi x hx=>hr i _ x (Array.getElem?_eq_getElem (by omega)) hx
 have e0:=q1f (u:=.agg (zC z)) (g 0 (by omega) _ rfl) rfl
 have e1:=q1f (u:=.agg (dC s)) (g 1 (by omega) _ rfl) rfl
 have r2:=g 2 (by omega) _ rfl
 obtain ⟨s1,s2,s3,e2⟩:=rep_rC r2
 have e3:=qux (g 3 (by omega) _ rfl)
 have e4:=qux (g 4 (by omega) _ rfl)
 have ec:cargs=#[.agg (zC z),.agg (dC s),.agg (rC r s1 s2 s3),.int .i64 a,.int .i64 b]:=by
  apply Array.ext (by simpa using h5)
  intro i hi1 hi2
  have:i<5:=by omega
  match i,this with
  |0,_=>exact e0
  |1,_=>exact e1
  |2,_=>exact e2
  |3,_=>exact e3
  |4,_=>exact e4
 rw [e2] at r2
 rw [ec]
 refine (callsIn_wide.1 (bet_in z s r a b Z s1 s2 s3 w hG hZ (quu r2) l f h)).mono fun e w'=>?_
 rintro ⟨v,rfl,hb,hv⟩
 refine ⟨_,Z1 w w' Z,fun _=>none,rfl,Z1_up w w' Z,⟨q153.2 hb,⟨hG,GB.no⟩,Z1_ok hb hZ,(fun _ _ _ h=>by cases h),by simp,by simp,by simp,by simp,by simp⟩,.tup _ _ rfl (fun i u x hu hx=>?_),fun i h=>absurd rfl h⟩
 match i with
 |0=>simp at hu hx;subst hu hx;exact .c (hv.repc hb hZ)
 |1=>simp at hu hx;subst hu hx;exact q1g rfl
 |i+2=>simp at hu
theorem X1c_ok:∀ f args r,X1c f args=some r→CallOk Tryz.prog f args r:=by
 intro f args r h
 unfold X1c at h
 cases hf:(f==4) with
 |true =>
  rw [hf,cond_true] at h
  have hf':f=4:=by simpa using hf
  subst hf'
  split at h
  case h_2=>cases h
  injection h with h
  subst h
  exact q84 (qh qx8)
 |false =>
 rw [hf,cond_false] at h
 cases hf:(f==22) with
 |true =>
  rw [hf,cond_true] at h
  have hf':f=22:=by simpa using hf
  subst hf'
  split at h
  case h_2=>cases h
  rename_i es
  split at h
  case isFalse=>cases h
  rename_i hes
  unfold catS at h
  split at h
  case isFalse=>cases h
  rename_i hl
  injection h with h
  subst h
  have:=q8k (qdg.decL es) hl
  rw [EC.encL_decL _ hes] at this
  exact this
 |false =>
 rw [hf,cond_false] at h
 cases hf:(f==18) with
 |true =>
  rw [hf,cond_true] at h
  have hf':f=18:=by simpa using hf
  subst hf'
  split at h
  case h_2=>cases h
  rename_i es
  split at h
  case isFalse=>cases h
  rename_i hes
  unfold unionS at h
  split at h
  case isFalse=>cases h
  rename_i hl
  injection h with h
  subst h
  have:=q14j (qde.decL es) hl
  rw [EC.encL_decL _ hes] at this
  exact this
 |false =>
 rw [hf,cond_false] at h
 cases hf:(f==16) with
 |true =>
  rw [hf,cond_true] at h
  have hf':f=16:=by simpa using hf
  subst hf'
  split at h
  case h_2=>cases h
  rename_i v
  obtain ⟨z,hz,h⟩:=bindE h
  cases hp:pZval z with
  |none=>rw [hp] at h;cases h
  |some q =>
   rw [hp] at h
   injection h with h
   subst h
   rw [q15j hz]
   exact q84 (qf3 hp)
 |false =>
 rw [hf,cond_false] at h
 cases hf:(f==49) with
 |true =>
  rw [hf,cond_true] at h
  have hf':f=49:=by simpa using hf
  subst hf'
  split at h
  case h_2=>cases h
  rename_i v1 v2 v3 p q
  obtain ⟨z,hz,h⟩:=bindE h
  obtain ⟨s,hs,h⟩:=bindE h
  obtain ⟨r',hr',h⟩:=bindE h
  cases hp:betS z s r' p q with
  |none=>rw [hp] at h;cases h
  |some x =>
   rw [hp] at h
   injection h with h
   subst h
   rw [q15j hz,qb6 hs,qui hr']
   exact bet_ok z s r' p q x.1 x.2 hp
 |false =>
 rw [hf,cond_false] at h
 exact X0c_ok f args r h
theorem X1_ok:XOk Tryz.prog X1:=⟨X1c_ok,X0_ok.h⟩
end Go.Proofs.YtfakibajjibjjaaGreatDoor
