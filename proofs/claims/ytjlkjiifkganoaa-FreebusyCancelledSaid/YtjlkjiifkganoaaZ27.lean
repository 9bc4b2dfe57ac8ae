/- The base of the second lot: freebusy.Union, recur.Between, zones.Validate are answered by rules. -/
import Derived.Test.YtjlkjiifkganoaaZ23
import Derived.Test.YtjlkjiifkganoaaZD
import Derived.Test.YtjlkjiifkganoaaZ20
namespace Go.Proofs.Ytjlkjiifkganoaa
set_option linter.unusedSimpArgs false
open Go.RowKit
set_option maxRecDepth 100000
def unionS (l:List Pd):Option (Nat×List Pd):=if l.length≤1000000 then some ((unionU l).length,unionU l) else none
noncomputable def betS (z:ZT) (s:DT) (r:RT) (a b:Int):Option (List Int×(Int×Int)):=betF z s r a b (finB z s r a b)
def zDec:V→Option ZT
 |.agg [.c (.str x0),.c (.int .i64 x1),.c (.int .i64 x2),.c (.int .i64 x3),.c (.int .i64 x4),.c (.int .i64 x5),.c (.int .i64 x6),.c (.int .i64 x7),.c (.int .i64 x8),.c (.int .i64 x9),.c (.int .i64 x10)]=>some (x0,x1,x2,x3,x4,x5,x6,x7,x8,x9,x10)
 |_=>none
def dDec:V→Option DT
 |.agg [.c (.int .i64 x0),.c (.int .i64 x1),.c (.int .i64 x2),.c (.int .i64 x3),.c (.int .i64 x4),.c (.int .i64 x5),.c (.int .i64 x6)]=>some (x0,x1,x2,x3,x4,x5,x6)
 |_=>none
def rDec:V→Option RT
 |.agg [.c (.int .i64 x0),.c (.int .i64 x1),.c (.int .i64 x2),.c (.int .i64 x3),.c (.bool x4),.c (.sl e5),.c (.sl e6),.c (.sl e7)]=>if qak.isL e5=true∧qak.isL e6=true∧qak.isL e7=true then some (x0,x1,x2,x3,x4,qak.decL e5,qak.decL e6,qak.decL e7) else none
 |_=>none
theorem qy8 {v:V} {z:ZT} (h:zDec v=some z):v=zV z:=by
 unfold zDec at h
 split at h
 ·injection h with h;subst h;rfl
 ·cases h
theorem q8h {v:V} {d:DT} (h:dDec v=some d):v=dV d:=by
 unfold dDec at h
 split at h
 ·injection h with h;subst h;rfl
 ·cases h
theorem qo6 {v:V} {r:RT} (h:rDec v=some r):v=rV r:=by
 unfold rDec at h
 split at h
 ·split at h
  ·rename_i h1
   injection h with h
   subst h
   unfold rV
   simp only [EC.encL_decL _ h1.1,EC.encL_decL _ h1.2.1,EC.encL_decL _ h1.2.2]
  ·cases h
 ·cases h
theorem qo5 (r:RT):rDec (rV r)=some r:=by
 obtain ⟨x0,x1,x2,x3,x4,x5,x6,x7⟩:=r
 unfold rV rDec
 simp only [EC.isL_encL,EC.decL_encL]
 rfl
noncomputable def X1c:FuncId→List V→Option (V×List B):=fun f a =>
 bif f==12 then (match a with|[.c (.sl es)]=>if q11q.isL es=true then (unionS (q11q.decL es)).map fun r=>(.row 0 r.1,[.row (q11q.encL r.2)]) else none|_=>none)
 else bif f==10 then (match a with|[z]=>(zDec z).bind fun z=>(pZval z).map fun r=>(.agg [.c (.int .i64 r.1),.c (.int .i64 r.2)],[])|_=>none)
 else bif f==24 then (match a with|[z,s,r,.c (.int .i64 p),.c (.int .i64 q)]=>(zDec z).bind fun z=>(dDec s).bind fun s=>(rDec r).bind fun r=>(betS z s r p q).map fun x=>(.tup [.c (.sl (qak.encL x.1)),.agg [.c (.int .i64 x.2.1),.c (.int .i64 x.2.2)]],[])|_=>none)
 else X0c f a
noncomputable def X1:XT:=⟨X1c,X0h⟩
def qx0:=qhn (vC (cSl q11q))
def qx3:Cod (V×List B) (Nat×List Pd):=cPair (vRow 0) (qhn (bRow q11q))
theorem qx1 (x:List Pd) (r:Nat×List Pd) (h:unionS x=some r):Call Try.prog lv X1 12 (qx0.enc x)=some (qx3.enc r):=by
 have:X1.c 12 (qx0.enc x)=some (qx3.enc r):=by
  show (if q11q.isL (q11q.encL x)=true then (unionS (q11q.decL (q11q.encL x))).map fun r=>((.row 0 r.1,[.row (q11q.encL r.2)]):V×List B) else none)=_
  rw [EC.isL_encL,EC.decL_encL,h]
  rfl
 unfold Call callD
 rw [this]
noncomputable def qx4:=entS Try.prog lv X1 12 [] qx0 qx3 unionS qx1
theorem q103 (z:ZT) (r:Int×Int) (h:pZval z=some r):Call Try.prog lv X1 10 (q105.enc z)=some (q106.enc r):=by
 have:X1.c 10 (q105.enc z)=some (q106.enc r):=by
  show (pZval z).map (fun r=>((.agg [.c (.int .i64 r.1),.c (.int .i64 r.2)],[]):V×List B))=_
  rw [h]
  rfl
 unfold Call callD
 rw [this]
noncomputable def q104:=entS Try.prog lv X1 10 [] q105 q106 pZval q103
abbrev BT:=ZT×DT×RT×Int×Int
def bet_ca:=qhl (vAgg (qhl (vC cStr) (qhl (vC (cInt .i64)) (qhl (vC (cInt .i64)) (qhl (vC (cInt .i64)) (qhl (vC (cInt .i64)) (qhl (vC (cInt .i64)) (qhl (vC (cInt .i64)) (qhl (vC (cInt .i64)) (qhl (vC (cInt .i64)) (qhl (vC (cInt .i64)) (qhn (vC (cInt .i64))))))))))))))
 (qhl (vAgg (qhl (vC (cInt .i64)) (qhl (vC (cInt .i64)) (qhl (vC (cInt .i64)) (qhl (vC (cInt .i64)) (qhl (vC (cInt .i64)) (qhl (vC (cInt .i64)) (qhn (vC (cInt .i64))))))))))
 (qhl (vAgg (qhl (vC (cInt .i64)) (qhl (vC (cInt .i64)) (qhl (vC (cInt .i64)) (qhl (vC (cInt .i64)) (qhl (vC cBool) (qhl (vC (cSl qak)) (qhl (vC (cSl qak)) (qhn (vC (cSl qak))))))))))) (qhl (vC (cInt .i64)) (qhn (vC (cInt .i64))))))
def bet_cr:Cod (V×List B) (List Int×(Int×Int)):=cFstU (cPair (vTup (qhl (vC (cSl qak)) (qhn (vAgg (qhl (vC (cInt .i64)) (qhn (vC (cInt .i64)))))))) qhm)
theorem q5a (x:BT) (r:List Int×(Int×Int)) (h:betS x.1 x.2.1 x.2.2.1 x.2.2.2.1 x.2.2.2.2=some r):Call Try.prog lv X1 24 (bet_ca.enc x)=some (bet_cr.enc r):=by
 have:X1.c 24 (bet_ca.enc x)=some (bet_cr.enc r):=by
  show (rDec (rV x.2.2.1)).bind (fun r=>(betS x.1 x.2.1 r x.2.2.2.1 x.2.2.2.2).map fun x=>((.tup [.c (.sl (qak.encL x.1)),.agg [.c (.int .i64 x.2.1),.c (.int .i64 x.2.2)]],[]):V×List B))=_
  rw [qo5,Option.bind_some,h]
  rfl
 unfold Call callD
 rw [this]
noncomputable def bet_e:=entS Try.prog lv X1 24 [] bet_ca bet_cr (fun x=>betS x.1 x.2.1 x.2.2.1 x.2.2.2.1 x.2.2.2.2) q5a
noncomputable def tab1:=[qx4,q104,bet_e]
theorem qog {Z Y Y':ZMap} {m m':Nat→Option Value} {u:Value} {r:RT} (h:Rep Z Y m u (rV r)):Rep Z Y' m' u (rV r):=by
 cases h with
 |agg cs _ hl h1 hr =>
  refine .agg cs _ hl h1 fun i u x hu hx=>?_
  have h2:=hr i u x hu hx
  have hc:∃ y,x=.c y:=by
   match i,hx with
   |0,hx=>simp at hx;exact ⟨_,hx.symm⟩
   |1,hx=>simp at hx;exact ⟨_,hx.symm⟩
   |2,hx=>simp at hx;exact ⟨_,hx.symm⟩
   |3,hx=>simp at hx;exact ⟨_,hx.symm⟩
   |4,hx=>simp at hx;exact ⟨_,hx.symm⟩
   |5,hx=>simp at hx;exact ⟨_,hx.symm⟩
   |6,hx=>simp at hx;exact ⟨_,hx.symm⟩
   |7,hx=>simp at hx;exact ⟨_,hx.symm⟩
   |i+8,hx=>simp at hx
  obtain ⟨y,rfl⟩:=hc
  cases h2 with
  |c h2=>exact .c h2
theorem rep_rC {Z Y:ZMap} {m:Nat→Option Value} {u:Value} {r:RT} (h:Rep Z Y m u (rV r)):∃ s1 s2 s3,u=.agg (rC r s1 s2 s3):=by
 cases h with
 |agg cs _ hl h1 hr =>
  have h8:cs.size=8:=by simpa using hl
  refine ⟨cs[5],cs[6],cs[7],?_⟩
  have g:∀ (i:Nat) (hi:i<8) (x:V),[V.c (.int .i64 r.1),.c (.int .i64 r.2.1),.c (.int .i64 r.2.2.1),.c (.int .i64 r.2.2.2.1),.c (.bool r.2.2.2.2.1),.c (.sl (qak.encL r.2.2.2.2.2.1)),.c (.sl (qak.encL r.2.2.2.2.2.2.1)),.c (.sl (qak.encL r.2.2.2.2.2.2.2))][i]?=some x→Rep Z Y m (cs[i]'(by omega)) x:=fun i hi x hx=>hr i _ x (Array.getElem?_eq_getElem (by omega)) hx
  have e0:=qoi (g 0 (by omega) _ rfl)
  have e1:=qoi (g 1 (by omega) _ rfl)
  have e2:=qoi (g 2 (by omega) _ rfl)
  have e3:=qoi (g 3 (by omega) _ rfl)
  have e4:=qoh (g 4 (by omega) _ rfl)
  congr 1
  apply Array.ext (by simp [rC,h8])
  intro i hi1 hi2
  have:i<8:=by omega
  match i,this with
  |0,_=>exact e0
  |1,_=>exact e1
  |2,_=>exact e2
  |3,_=>exact e3
  |4,_=>exact e4
  |5,_=>rfl
  |6,_=>rfl
  |7,_=>rfl
theorem HoldI.repc {W w:World} {Z:ZMap} {v:Value} {l:List Int} (h:HoldI W w v l) (hb:Bel W w) (hZ:∀ b o u,Z b o=some u→W.cell? ⟨b,o,none⟩=some u):RepC (Z1 W w Z) v (.sl (qak.encL l)):=by
 rcases h with ⟨rfl,A,c,rfl,hc,hA⟩|⟨g,c,rfl,hg,h⟩
 ·exact .sl A 0 c 1 0 0 (fun _=>.nilFunc) [] rfl (by simp) hc (by simp) (by simp) (by simp) (by simp) hA
 ·obtain ⟨⟨t,fz,cur,hv,hs,hf,hfz,hcell⟩,hl,hle,hm⟩:=h
  have get:∀ {i j:Nat} {e:List C} {x:C},(qak.encL l)[i]?=some e→e[j]?=some x→∃ y,x=.int .i64 y∧w.cell? ⟨g,i*1+j,none⟩=some (.int .i64 y):=by
   intro i j e x h1 h2
   rw [EC.encL,List.getElem?_map] at h1
   cases hx:l[i]? with
   |none=>rw [hx] at h1;cases h1
   |some y =>
    rw [hx] at h1
    injection h1 with h1
    subst h1
    match j,h2 with
    |0,h2=>simp [qak] at h2;subst h2;exact ⟨y,rfl,by simp only [World.cell?,hv,Nat.mul_one,Nat.add_zero];exact hcell i y hx⟩
    |j+1,h2=>simp [qak] at h2
  refine .sl _ l.length c 1 g 0 (fun j=>(w.cell? ⟨g,j,none⟩).getD undef) _ (by simp) hle hm (fun e he=>?_) (fun _=>rfl) ?_ ?_ (by simp)
  ·rw [EC.encL,List.mem_map] at he
   obtain ⟨x,_,rfl⟩:=he
   rfl
  ·intro i e j x h1 h2
   obtain ⟨y,rfl,hu⟩:=get h1 h2
   have hk:=Z1_ok (Z:=Z) hb hZ g (i*1+j)
   simp only [Nat.zero_add,hu,Option.getD_some]
   unfold Z1 at hk ⊢
   split
   ·rename_i hs
    obtain ⟨u',hu'⟩:=Option.isSome_iff_exists.1 hs
    rw [hu']
    rw [hs,if_pos rfl] at hk
    have:=hk u' hu'
    rw [hu] at this
    exact this.symm
   ·first|(rw [if_pos hg,hu];done)|exact hu|simpa [hg] using hu
  ·intro i e j x h1 h2
   obtain ⟨y,rfl,hu⟩:=get h1 h2
   simp only [hu,Option.getD_some]
   exact .int _ _
theorem bet_ok (z:ZT) (s:DT) (r:RT) (a b:Int) (l:List Int) (f:Int×Int) (h:betS z s r a b=some (l,f)) :
  CallOk Try.prog 24 [zV z,dV s,rV r,.c (.int .i64 a),.c (.int .i64 b)] (.tup [.c (.sl (qak.encL l)),.agg [.c (.int .i64 f.1),.c (.int .i64 f.2)]],[]):=by
 refine ⟨rfl,(fun b hb=>by cases hb),fun w Z Y cargs hG hZ hY hs hr=>?_⟩
 have h5:cargs.size=5:=hs
 have g:∀ (i:Nat) (hi:i<5) (x:V),[zV z,dV s,rV r,V.c (.int .i64 a),.c (.int .i64 b)][i]?=some x→Rep Z Y noM (cargs[i]'(by omega)) x:=fun i hi x hx=>hr i _ x (Array.getElem?_eq_getElem (by omega)) hx
 have e0:=qz (u:=.agg (zC z)) (g 0 (by omega) _ rfl) rfl
 have e1:=qz (u:=.agg (dC s)) (g 1 (by omega) _ rfl) rfl
 have r2:=g 2 (by omega) _ rfl
 obtain ⟨s1,s2,s3,e2⟩:=rep_rC r2
 have e3:=qoi (g 3 (by omega) _ rfl)
 have e4:=qoi (g 4 (by omega) _ rfl)
 have ec:cargs=#[.agg (zC z),.agg (dC s),.agg (rC r s1 s2 s3),.int .i64 a,.int .i64 b]:=by
  apply Array.ext (by simpa using h5)
  intro i hi1 hi2
  have:i<5:=by omega
  match i,this with
  |0,_=>exact e0
  |1,_=>exact e1
  |2,_=>exact e2
  |3,_=>exact e3
  |4,_=>exact e4
 rw [e2] at r2
 rw [ec]
 refine (callsIn_wide.1 (bet_in z s r a b Z s1 s2 s3 w hG hZ (qog r2) l f h)).mono fun e w'=>?_
 rintro ⟨v,rfl,hb,hv⟩
 refine ⟨_,Z1 w w' Z,fun _=>none,rfl,Z1_up w w' Z,⟨qxr.2 hb,⟨hG,GB.no⟩,Z1_ok hb hZ,(fun _ _ _ h=>by cases h),by simp,by simp,by simp,by simp,by simp⟩,.tup _ _ rfl (fun i u x hu hx=>?_),fun i h=>absurd rfl h⟩
 match i with
 |0=>simp at hu hx;subst hu hx;exact .c (hv.repc hb hZ)
 |1=>simp at hu hx;subst hu hx;exact q10 rfl
 |i+2=>simp at hu
theorem X1c_ok:∀ f args r,X1c f args=some r→CallOk Try.prog f args r:=by
 intro f args r h
 unfold X1c at h
 cases hf:(f==12) with
 |true =>
  rw [hf,cond_true] at h
  have hf':f=12:=by simpa using hf
  subst hf'
  split at h
  case h_2=>cases h
  rename_i es
  split at h
  case isFalse=>cases h
  rename_i hes
  unfold unionS at h
  split at h
  case isFalse=>cases h
  rename_i hl
  injection h with h
  subst h
  have:=qxc (q11q.decL es) hl
  rw [EC.encL_decL _ hes] at this
  exact this
 |false =>
 rw [hf,cond_false] at h
 cases hf:(f==10) with
 |true =>
  rw [hf,cond_true] at h
  have hf':f=10:=by simpa using hf
  subst hf'
  split at h
  case h_2=>cases h
  rename_i v
  obtain ⟨z,hz,h⟩:=bindE h
  cases hp:pZval z with
  |none=>rw [hp] at h;cases h
  |some q =>
   rw [hp] at h
   injection h with h
   subst h
   rw [qy8 hz]
   exact q6i (qbw hp)
 |false =>
 rw [hf,cond_false] at h
 cases hf:(f==24) with
 |true =>
  rw [hf,cond_true] at h
  have hf':f=24:=by simpa using hf
  subst hf'
  split at h
  case h_2=>cases h
  rename_i v1 v2 v3 p q
  obtain ⟨z,hz,h⟩:=bindE h
  obtain ⟨s,hs,h⟩:=bindE h
  obtain ⟨r',hr',h⟩:=bindE h
  cases hp:betS z s r' p q with
  |none=>rw [hp] at h;cases h
  |some x =>
   rw [hp] at h
   injection h with h
   subst h
   rw [qy8 hz,q8h hs,qo6 hr']
   exact bet_ok z s r' p q x.1 x.2 hp
 |false =>
 rw [hf,cond_false] at h
 exact X0c_ok f args r h
theorem X1_ok:XOk Try.prog X1:=⟨X1c_ok,X0_ok.h⟩
end Go.Proofs.Ytjlkjiifkganoaa
namespace Go.Proofs.Ytjlkjiifkganoaa
set_option linter.unusedSimpArgs false
open Go.RowKit
set_option maxRecDepth 100000
theorem qxn (z:ZT) (s:DT) (r:RT) (b:Int) (k:Nat) (hw:r.2.2.2.2.2.1.length≤9223372036854775807) (he:1≤r.2.1):Ok (visit z s r b k) fun _=>True:=by
 unfold visit
 refine qkj (q7k _ _) fun d _=>qkj (qcw _ _ _ _ _ _ _ _ _ _ _ _ _ _ _ _ _ _ _ _ _ _ _ hw he) fun q _=>?_
 cases q with
 |true=>exact qkj (qym _ _ _ _ _ _ _ _ _ _ _ _ _ _ _ _ _ _) fun _ _=>qkm trivial
 |false=>exact qkm trivial
theorem qgf (z:ZT) (s:DT) (r:RT) (b:Int) (hw:r.2.2.2.2.2.1.length≤9223372036854775807) (he:1≤r.2.1):∀ (n k:Nat) (many:Int),Ok (insF z s r b n k many) fun l=>l.length≤n
 |0,k,many=>qkm (Nat.le_refl 0)
 |n+1,k,many=>by
  unfold insF
  refine qkj (qxn z s r b k hw he) fun v _=>?_
  cases v with
  |none=>exact (qgf z s r b hw he n (k+1) many).mono fun _ h=>Nat.le_succ_of_le h
  |some t =>
   dsimp only
   cases (r.2.2.2.2.1&&decide (r.2.2.2.1<t)) with
   |true=>exact qkm (Nat.zero_le _)
   |false =>
    cases (IntKind.i64.wrap (many+1)==r.2.2.1) with
    |true=>exact qkm (by simp)
    |false =>
     obtain ⟨l,hl,h⟩:=qgf z s r b hw he n (k+1) (IntKind.i64.wrap (many+1))
     simp only [cond_false,hl,Option.map_some]
     exact qkm (by simpa using h)
theorem qhb (ex:List Int) (hx:ex.length≤1000000):∀ l:List Int,Ok (keepF ex l) fun k=>k.length≤l.length
 |[]=>qkm (Nat.le_refl 0)
 |t::l=>by
  obtain ⟨q,hq,_⟩:=bsI_ok ex t hx
  obtain ⟨k,hk,h⟩:=qhb ex hx l
  simp only [keepF,hq,hk,Option.bind_some,Option.map_some]
  refine qkm ?_
  cases q.2 <;> simp <;> omega
theorem qjr {α:Type} [Inhabited α] [DecidableEq α] {zs:List α} {x:α} (h:x∈Lib.compact zs):x∈zs:=by
 obtain ⟨j,hj,rfl⟩:=List.mem_map.1 h
 have hj:=List.mem_range.1 (List.mem_filter.1 hj).1
 rw [getElem!_pos zs.toArray j (by simpa using hj)]
 simp
def BetP (a b:Int) (x:List Int×(Int×Int)):Prop:=(x.2.1≠0→x.1=[])∧(∀ t∈x.1,a≤t∧t≤b)∧x.1.length≤1801∧(x.2.1=0→-68719476736≤a∧b≤68719476736)
theorem q58 (z:ZT) (s:DT) (r:RT) (a b:Int) (hw:r.2.2.2.2.2.1.length≤9223372036854775807):Ok (betS z s r a b) (BetP a b):=by
 have bad:∀ (x y:Int),x≠0→Ok (some (([]:List Int),(x,y))) (BetP a b):=fun x y h=>qkm ⟨fun _=>rfl,by simp,by simp,fun h0=>absurd h0 h⟩
 unfold betS betF
 refine qkj (q108 _ _ _ _ _ _ _ _ _ _ _) fun f _=>?_
 cases h1:f.1 != 0 with
 |true=>exact bad _ _ (by simpa using h1)
 |false =>
 refine qkj (qym _ _ _ _ _ _ _ _ _ _ _ _ _ _ _ _ _ _) fun q _=>?_
 cases h2:q.1.2.1 != 0 with
 |true=>exact bad _ _ (by simpa using h2)
 |false =>
 cases decide (3980<s.1) with
 |true=>exact bad _ _ (by decide)
 |false =>
 refine qkj (qq3 _ _ _ _ _ _ _ _ hw) fun g hg=>?_
 cases h3:g.1 != 0 with
 |true=>exact bad _ _ (by simpa using h3)
 |false =>
 obtain ⟨he,hx,hy⟩:=hg (bne0 h3)
 refine qkj (qvu _) ?_
 rintro _ rfl
 refine qkj (qvu _) ?_
 rintro _ rfl
 cases h4:(!(decide (-68719476736≤a)&&decide (a≤68719476736))||(!(decide (-68719476736≤b)&&decide (b≤68719476736))||decide (b<a))) with
 |true=>exact bad _ _ (by decide)
 |false =>
 simp at h4
 refine qkj (q9q _ _ _ _ _ _ _) fun b0 _=>?_
 unfold finB
 refine qkj (qgf z s r b0.1 hw he 1501 0 0) fun ts ht=>?_
 refine qkj (qhb _ (by omega) ts) fun k hk=>?_
 have e:(decide (ts.length≤1000000)&&decide (r.2.2.2.2.2.2.2.length≤1000000))=true:=by simp;omega
 rw [e]
 refine qkm ⟨fun h=>absurd rfl h,fun t ht=>?_,?_,fun _=>⟨h4.1.1,h4.2.1.2⟩⟩
 ·have:=(List.mergeSort_perm _ _).subset (qjr ht)
  have:=(List.mem_filter.1 this).2
  simp at this
  exact this
 ·refine Nat.le_trans (Lib.compact_length_le _) ?_
  rw [(List.mergeSort_perm _ _).length_eq]
  refine Nat.le_trans (List.length_filter_le _ _) ?_
  rw [List.length_append]
  omega
end Go.Proofs.Ytjlkjiifkganoaa
