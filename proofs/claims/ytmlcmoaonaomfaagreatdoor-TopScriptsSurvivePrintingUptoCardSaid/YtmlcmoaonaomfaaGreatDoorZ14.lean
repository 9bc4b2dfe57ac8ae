/- Functions of the program as plain functions: made by program from the machine. -/
import Derived.Test.YtmlcmoaonaomfaaGreatDoorH3
namespace Go.Proofs.YtmlcmoaonaomfaaGreatDoor
open Go.RowKit
set_option maxRecDepth 100000
noncomputable section
def ec_25:EC (List S71) where
 enc x:=[.sl (qbv.encL x)]
 dec c:=qbv.decL (slOf (c.getD 0 .ne))
 is c:=isE [.sl] 0 c&&qbv.isL (slOf (c.getD 0 .ne))
 enc_dec h:=by
  simp only [x6q] at h;have h0:=qat h.1
  simp only [decE,decC] at h0;simp only [EC.encL_decL _ h.2];exact h0
 dec_enc x:=by simp [slOf]
 is_enc x:=by simp [isE,isK,slOf]
def qbs:EC Bool where
 enc x:=[.bool x]
 dec c:=q8b (c.getD 0 .ne)
 is c:=isE [.bool] 0 c
 enc_dec h:=qat h
 dec_enc x:=by rfl
 is_enc x:=by simp [isE,isK]
theorem enc_4 (x:Bool):qbs.enc x=[.bool x]:=rfl
theorem qpv (xs:List Bool) (n:Nat):isE [.bool] 0 ((qbs.encL xs).getD n [])=decide (n<xs.length):=by
 by_cases h:n<xs.length
 ·simp only [EC.getD_lt _ _ h];simp [enc_4,isE,isK,h]
 ·simp only [EC.getD_ge _ _ (y7q.1 h)];simp [isE,isK,h]
theorem q51 (xs:List Bool) (n:Nat):q8b (((qbs.encL xs).getD n []).getD 0 .ne)=(xs.getD n (qbs.dec [])):=by
 by_cases h:n<xs.length
 ·simp only [EC.getD_lt _ _ h];simp [enc_4,h,q8b]
 ·simp only [EC.getD_ge _ _ (y7q.1 h)];simp [y7q.1 h,qbs,q8b]
theorem len_4 (xs:List Bool) (n:Nat) (h:n<xs.length):((qbs.encL xs).getD n []).length=1:=by rw [EC.getD_lt _ _ h];rfl
theorem q1cu (xs:List Bool) (n:Nat) (a0:Bool):(qbs.encL xs).set n (splice ((qbs.encL xs).getD n []) 0 [.bool a0])=qbs.encL (xs.set n (a0)):=by
 by_cases h:n<xs.length
 ·rw [EC.getD_lt _ _ h];simp [EC.encL,List.map_set,enc_4,splice]
 ·simp [EC.encL,List.set_eq_of_length_le,y7q.1 h]
end
end Go.Proofs.YtmlcmoaonaomfaaGreatDoor
namespace Go.Proofs.YtmlcmoaonaomfaaGreatDoor
open Go.RowKit
set_option maxRecDepth 1000000 in
theorem q1cl:callD Tryz.prog (fzL lv) X0.c (execD Tryz.prog lv X0 200) 7 []=some (.c (.bool true),[]):=by kernel_rfl
noncomputable def bodS (x:List Int):Oq (List Int):=(bodP (qbt.encL x)).bind λr=>if qbt.isL r=true then some (qbt.decL r) else none
def bod_ca:=qqt (vC (cSl qbt))
def bod_cr:Cod (V×List B) (List Int):=cFstU (cPair (vC (cSl qbt)) qqs)
theorem q87 (x r:List Int) (h:bodS x=some r):Call Tryz.prog lv X0 82 (bod_ca.enc x)=some (bod_cr.enc r):=by
 unfold bodS at h;cases hb:bodP (qbt.encL x) with
 |none=>rw [hb] at h;cases h
 |some q =>
  rw [hb,x0q] at h;split at h
  case isFalse=>cases h
  rename_i hq;injection h with h
  have:X0.c 82 (bod_ca.enc x)=some (bod_cr.enc r):=by
   show (bodP (qbt.encL x)).map (λr=>((.c (.sl r),[]):V×List B))=_;rw [hb,←h];show some ((.c (.sl q),[]):V×List B)=some (.c (.sl (qbt.encL (qbt.decL q))),[])
   rw [EC.encL_decL _ hq]
  unfold Call callD;rw [this]
noncomputable def bod_e:=entS Tryz.prog lv X0 82 [] bod_ca bod_cr bodS q87
def catS (ls:List (List S71)):Oq (Nat×List S71):=if ls.flatten.length<=1000000 then some (ls.flatten.length,ls.flatten) else none
theorem qj4 (l:List S71):(qbv.encL l).all fldB=true:=by rw [y31q];intro e he;obtain ⟨x,_,rfl⟩:=List.mem_map.1 he;rfl
theorem q9g:∀ ls:List (List S71),catL (ec_25.encL ls)=some (qbv.encL ls.flatten)
 |[]=>rfl
 |l::ls=>by
  have e:ec_25.encL (l::ls)=[.sl (qbv.encL l)]::ec_25.encL ls:=rfl;rw [e];show (if (qbv.encL l).all fldB=true then (catL (ec_25.encL ls)).map (qbv.encL l++·) else none)=_
  rw [if_pos (qj4 l),q9g ls];simp [EC.encL]
def q9k:=qqt (vC (cSl ec_25))
def q9m:Cod (V×List B) (Nat×List S71):=cPair (vRow 0) (qqt (bRow qbv))
theorem q9l (x:List (List S71)) (r:Nat×List S71) (h:catS x=some r):Call Tryz.prog lv X0 53 (q9k.enc x)=some (q9m.enc r):=by
 unfold catS at h;split at h
 case isFalse=>cases h
 rename_i hl;injection h with h
 subst h;have:X0.c 53 (q9k.enc x)=some (q9m.enc (x.flatten.length,x.flatten)):=by
  show (catP (ec_25.encL x)).map (λr=>((.row 0 r.length,[.row r]):V×List B))=_;unfold catP;rw [q9g,x0q,x27q,if_pos hl];show some ((.row 0 (qbv.encL x.flatten).length,[.row (qbv.encL x.flatten)]):V×List B)=_
  rw [x27q];rfl
 unfold Call callD;rw [this]
noncomputable def catf_e:=entS Tryz.prog lv X0 53 [] q9k q9m catS q9l
def scr_ca:Cod (List V) Unit:=qqs
def scr_cr:Cod (V×List B) Bool:=cFstU (cPair (vC cBool) qqs)
def scrS:Oq Bool:=some true
theorem q1ck (x:Unit) (r:Bool) (h:scrS=some r):Call Tryz.prog lv X0 7 (scr_ca.enc x)=some (scr_cr.enc r):=by
 cases r with
 |true=>exact qf q1cl
 |false=>unfold scrS at h;cases h
noncomputable def scr_e:=entS Tryz.prog lv X0 7 [] scr_ca scr_cr (λ_=>scrS) q1ck
theorem q1ew (l:List BA):strsOf (qby.encL l)=some l:=by
 induction l with
 |nil=>rfl
 |cons s l ih =>have e:qby.encL (s::l)=[.str s]::qby.encL l:=rfl;rw [e];simp only [strsOf,ih,x18q]
abbrev z3s:=(qqt (vC cStr))
def qqf:=qqr (vC (cSl qby)) z3s
def qqi:Cod (V×List B) BA:=cFstU (cPair (vC cStr) qqs)
theorem qqg (x:List BA×BA) (r:BA) (h:joinP x.1 x.2=some r):Call Tryz.prog lv X0 50 (qqf.enc x)=some (qqi.enc r):=by
 have:X0.c 50 (qqf.enc x)=some (qqi.enc r):=by show ((strsOf (qby.encL x.1)).bind λl=>(joinP l x.2).map λb=>((V.c (.str b),[]):V×List B))=_;rw [q1ew];simp only [x0q,h];rfl
 unfold Call callD;rw [this]
noncomputable def join_e:=entS Tryz.prog lv X0 50 [] qqf qqi (λx=>joinP x.1 x.2) qqg
noncomputable def tabx:=join_e::bod_e::catf_e::scr_e::q1gs
set_option maxRecDepth 100000
noncomputable section
abbrev z3o:=(vC (cInt .i64))
abbrev z3q:=(qqt (vAgg (qqr z3o (qqr (vC (cSl qbp)) (qqr (vC cStr) (qqr z3o (qqr (vC cStr) (qqt z3o))))))))
def q13g:=z3q
abbrev z3r:=(cFstU (cPair (vC cStr) (qqs (ρ:=B))))
def q13h:Cod (V×List B) BA:=z3r
def q13k (q1f8:Int) (q1fb:L35) (q1f9:BA) (q1fa:Int) (q1fc:BA) (t_N:Int):=fS Tryz.prog lv X0 102 q13g q13h (q1f8,q1fb,q1f9,q1fa,q1fc,t_N)
def q13l (_q1f8:Int) (_q1fb:L35) (_q1f9:BA) (q1fa:Int) (q1fc:BA) (_t_N:Int):Oq BA :=Option.bind q13q λr0=>gdE ((p0 (IntKind.wrap .i64 (q1fa - 1))&&decide (IntKind.wrap .i64 (q1fa - 1)<((3:Nat):Int)))&&decide (Int.toNat (IntKind.wrap .i64 (q1fa - 1))<List.length [r0.1,r0.2.1,r0.2.2]))<|brE (decide ((((ByteArray.size (List.getD [r0.1,r0.2.1,r0.2.2] (Int.toNat (IntKind.wrap .i64 (q1fa - 1))) ByteArray.empty)+ByteArray.size ⟨#[32]⟩):Nat):Int)>IntKind.max IntKind.i64)) none ((quoP q1fc).bind λr1=>brE (decide ((((ByteArray.size (List.getD [r0.1,r0.2.1,r0.2.2] (Int.toNat (IntKind.wrap .i64 (q1fa - 1))) ByteArray.empty++⟨#[32]⟩)+r1.size):Nat):Int)>IntKind.max IntKind.i64)) none (some ((List.getD [r0.1,r0.2.1,r0.2.2] (Int.toNat (IntKind.wrap .i64 (q1fa - 1))) ByteArray.empty++⟨#[32]⟩)++r1)))
theorem q13j:E6 q13l q13k:=λh=>fT (es:=tabx) (hs:=qoc) [] Tryz.func102 trivial trivial h
def q13i:=entZ 102 [] q13g q13h
def q1gy:=q13i::tabx
def q152:=z3q
def q153:Cod (V×List B) BA:=z3r
def q156 (q1f8:Int) (q1fb:L35) (q1f9:BA) (q1fa:Int) (q1fc:BA) (t_N:Int):=fS Tryz.prog lv X0 63 q152 q153 (q1f8,q1fb,q1f9,q1fa,q1fc,t_N)
def q154:=entZ 63 [] q152 q153
def q1h3:=q154::q1gy
def qvi:=(qqt (vEptr (qqr (cInt .i64) (qqr (cSl qbp) (qqr cStr (qqr (cInt .i64) (qqr cStr (qqt (cInt .i64))))))) 0))
def qvr:=sLS [2,6,7,8] (qqr (vRow 0) (qqr (vC (cSl qbp)) (qqr z3o (qqt z3o)))) (qqt (qvh (bRow qby))) [false] [] (by decide) (λ_=>rfl)
def qvq:=sLS [2,6,7,8,9] (qqr (vRow 0) (qqr (vC (cSl qbp)) (qqr z3o (qqr z3o (qqt (vC cBool)))))) (qqt (qvh (bRow qby))) [false] [] (by decide) (λ_=>rfl)
def qvp:=oAt 2 qvq
def qvm (out:Nat) (t6:L35) (t7 t8:Int) (b0:LB):=lS Tryz.prog lv X0 101 22 (qm6 (cdF Tryz.f101) 3) qvr qvp ((out,t6,t7,t8),b0)
abbrev z1w (t6:L35) (t8:Int):=(List.getD (EC.encL qbp t6) (Int.toNat t8) [])
def qvs (out:Nat) (t6:L35) (t7 t8:Int) (b0:LB):Oq ((Nat×L35×Int×Int×Bool)×LB) :=brE (decide (t8<t7)) (gdE (p0 t8)<|gdE (eC qbp t6 t8 [K1.int IntKind.i64,K1.sl,K1.str,K1.int IntKind.i64,K1.str,K1.int IntKind.i64])<|gdE (EC.isL qbp (slOf (List.getD (z1w t6 t8) 1 C.ne)))<|(q156 (qph (List.getD (z1w t6 t8) 0 C.ne)) (uL qbp (List.getD (z1w t6 t8) 1 C.ne)) (q1e1 (List.getD (z1w t6 t8) 2 C.ne)) (qph (List.getD (z1w t6 t8) 3 C.ne)) (q1e1 (List.getD (z1w t6 t8) 4 C.ne)) (qph (List.getD (z1w t6 t8) 5 C.ne))).bind λr0=>gdE (((aL [[C.str r0]] 1&&aL (EC.encL qby b0) 1)&&dQ (out+List.length [[C.str r0]]) 16)&&dM (out+List.length [[C.str r0]]))<|gL qbp t6<|gdE (EC.isL qby (EC.encL qby b0++[[C.str r0]]))<|qvm (out+List.length [[C.str r0]]) (dL qbp t6) t7 (wI t8) (EC.decL qby (EC.encL qby b0++[[C.str r0]]))) (gL qbp t6<|gL qby b0<|some ((out,dL qbp t6,t7,t8,false),dL qby b0))
theorem qvo:E5 qvs qvm:=λh=>lT (es:=q1h3) (hs:=qoc) [] trivial trivial h
def qvn:=lentZ 101 22 3 (qm6 (cdF Tryz.f101) 3) qvr qvp
def qvj:Cod (V×List B) BA:=z3r
def qvt (c0_0:Int) (c0_1:L35) (c0_2:BA) (c0_3:Int) (c0_4:BA) (c0_5:Int):=fS Tryz.prog lv X0 101 qvi qvj (c0_0,c0_1,c0_2,c0_3,c0_4,c0_5)
def qvu (_c0_0:Int) (c0_1:L35) (_c0_2:BA) (_c0_3:Int) (_c0_4:BA) (_c0_5:Int):Oq BA :=gL qbp c0_1<|(qvm 0 (dL qbp c0_1) (lN qbp c0_1:Int) 0 (EC.decL qby [])).bind λr0=>gL qby r0.2<|(joinP (dL qby r0.2) ⟨#[44,32]⟩).bind λr1=>brE (decide ((((ByteArray.size ⟨#[40]⟩+r1.size):Nat):Int)>IntKind.max IntKind.i64)) none (brE (decide ((((ByteArray.size (⟨#[40]⟩++r1)+ByteArray.size ⟨#[41]⟩):Nat):Int)>IntKind.max IntKind.i64)) none (some ((⟨#[40]⟩++r1)++⟨#[41]⟩)))
theorem qvl:E6 qvu qvt:=λh=>fT (es:=q1h3) (hs:=qoc) [qvn] Tryz.func101 ⟨⟨_,rfl,rfl⟩,trivial⟩ trivial h
def qvk:=entZ 101 [] qvi qvj
def q1gl:=qvk::q1h3
abbrev z1x (q1fb:L35):=(List.getD (EC.encL qbp q1fb) (Int.toNat 0) [])
def q157 (q1f8:Int) (q1fb:L35) (q1f9:BA) (q1fa:Int) (q1fc:BA) (t_N:Int):Oq BA :=brE (q1f8==2) (gdE (eC qbp q1fb 0 [K1.int IntKind.i64,K1.sl,K1.str,K1.int IntKind.i64,K1.str,K1.int IntKind.i64])<|gdE (EC.isL qbp (slOf (List.getD (z1x q1fb) 1 C.ne)))<|(q156 (qph (List.getD (z1x q1fb) 0 C.ne)) (uL qbp (List.getD (z1x q1fb) 1 C.ne)) (q1e1 (List.getD (z1x q1fb) 2 C.ne)) (qph (List.getD (z1x q1fb) 3 C.ne)) (q1e1 (List.getD (z1x q1fb) 4 C.ne)) (qph (List.getD (z1x q1fb) 5 C.ne))).bind λr0=>brE (decide ((((ByteArray.size ⟨#[110,111,116,32]⟩+r0.size):Nat):Int)>IntKind.max IntKind.i64)) none (some (⟨#[110,111,116,32]⟩++r0))) (brE (q1f8==3) (gL qbp q1fb<|(qvt q1f8 (dL qbp q1fb) q1f9 q1fa q1fc t_N).bind λr0=>brE (decide ((((ByteArray.size ⟨#[97,108,108,32]⟩+r0.size):Nat):Int)>IntKind.max IntKind.i64)) none (some (⟨#[97,108,108,32]⟩++r0))) (brE (q1f8==4) (gL qbp q1fb<|(qvt q1f8 (dL qbp q1fb) q1f9 q1fa q1fc t_N).bind λr0=>brE (decide ((((ByteArray.size ⟨#[97,110,121,32]⟩+r0.size):Nat):Int)>IntKind.max IntKind.i64)) none (some (⟨#[97,110,121,32]⟩++r0))) (brE (q1f8==5) ((quoP q1f9).bind λr0=>brE (decide ((((ByteArray.size ⟨#[104,101,97,100,101,114,32]⟩+r0.size):Nat):Int)>IntKind.max IntKind.i64)) none (brE (decide ((((ByteArray.size (⟨#[104,101,97,100,101,114,32]⟩++r0)+ByteArray.size ⟨#[32]⟩):Nat):Int)>IntKind.max IntKind.i64)) none (gL qbp q1fb<|(q13k q1f8 (dL qbp q1fb) q1f9 q1fa q1fc t_N).bind λr1=>brE (decide ((((ByteArray.size ((⟨#[104,101,97,100,101,114,32]⟩++r0)++⟨#[32]⟩)+r1.size):Nat):Int)>IntKind.max IntKind.i64)) none (some (((⟨#[104,101,97,100,101,114,32]⟩++r0)++⟨#[32]⟩)++r1))))) (brE (q1f8==6) (gL qbp q1fb<|(q13k q1f8 (dL qbp q1fb) q1f9 q1fa q1fc t_N).bind λr0=>brE (decide ((((ByteArray.size ⟨#[102,114,111,109,32]⟩+r0.size):Nat):Int)>IntKind.max IntKind.i64)) none (some (⟨#[102,114,111,109,32]⟩++r0))) (brE (q1f8==7) (gL qbp q1fb<|(q13k q1f8 (dL qbp q1fb) q1f9 q1fa q1fc t_N).bind λr0=>brE (decide ((((ByteArray.size ⟨#[116,111,32]⟩+r0.size):Nat):Int)>IntKind.max IntKind.i64)) none (some (⟨#[116,111,32]⟩++r0))) (brE (q1f8==8) ((itoaP t_N).bind λr0=>brE (decide ((((ByteArray.size ⟨#[115,105,122,101,32]⟩+r0.size):Nat):Int)>IntKind.max IntKind.i64)) none (some (⟨#[115,105,122,101,32]⟩++r0))) (brE (q1f8==9) ((quoP q1f9).bind λr0=>brE (decide ((((ByteArray.size ⟨#[101,120,105,115,116,115,32]⟩+r0.size):Nat):Int)>IntKind.max IntKind.i64)) none (some (⟨#[101,120,105,115,116,115,32]⟩++r0))) (some ⟨#[116,114,117,101]⟩))))))))
theorem q155:E6 q157 q156:=λh=>fT (es:=q1gl) (hs:=qoc) [] Tryz.func63 trivial trivial h
abbrev z3p:=(qqr z3o (qqr z3o (qqr (vC (cSl qbp)) (qqr (vC cStr) (qqr z3o (qqr (vC cStr) (qqr z3o (qqr (vC (cSl qbr)) (qqr (vC (cSl qbr)) (qqr z3o (qqr (vC cStr) (qqr (vC cStr) (qqt z3o)))))))))))))
def q13y:=(qqr (vAgg z3p) (qqt z3o))
def q13z:Cod (V×List B) BA:=z3r
def q14n (q103 r_Test_Kind:Int) (q107:L35) (q105:BA) (q106:Int) (q108:BA) (q104:Int) (r_Then r_Else:L38) (r_Act:Int) (r_Name r_Text:BA) (r_N depth:Int):=fS Tryz.prog lv X0 35 q13y q13z ((q103,r_Test_Kind,q107,q105,q106,q108,q104,r_Then,r_Else,r_Act,r_Name,r_Text,r_N),depth)
def q140:=entZ 35 [] q13y q13z
def q1h1:=q140::q1gl
def q14p:=(qqr (vC (cSl qbr)) (qqt z3o))
def q14y:=sLS [1,5,8,9,10] (qqr z3o (qqr (vC cStr) (qqr (vC (cSl qbr)) (qqr z3o (qqt z3o))))) qqs [] [] (by decide) (λ_=>rfl)
def q14x:=sLS [1,5,8,9,10,11] (qqr z3o (qqr (vC cStr) (qqr (vC (cSl qbr)) (qqr z3o (qqr z3o (qqt (vC cBool))))))) qqs [] [] (by decide) (λ_=>rfl)
def q14w:=oAt 2 q14x
def q14t (depth:Int) (out:BA) (t8:L38) (t9 t10:Int):=lS Tryz.prog lv X0 17 21 (qm6 (cdF Tryz.f17) 3) q14y q14w ((depth,out,t8,t9,t10),())
abbrev z1y (t8:L38) (t10:Int):=(List.getD (EC.encL qbr t8) (Int.toNat t10) [])
def q14z (depth:Int) (out:BA) (t8:L38) (t9 t10:Int):Oq ((Int×BA×L38×Int×Int×Bool)×Unit) :=brE (decide (t10<t9)) (gdE (p0 t10)<|gdE (eC qbr t8 t10 [K1.int IntKind.i64,K1.int IntKind.i64,K1.sl,K1.str,K1.int IntKind.i64,K1.str,K1.int IntKind.i64,K1.sl,K1.sl,K1.int IntKind.i64,K1.str,K1.str,K1.int IntKind.i64])<|gdE (EC.isL qbp (slOf (List.getD (z1y t8 t10) 2 C.ne)))<|gdE (EC.isL qbr (slOf (List.getD (z1y t8 t10) 7 C.ne)))<|gdE (EC.isL qbr (slOf (List.getD (z1y t8 t10) 8 C.ne)))<|(q14n (qph (List.getD (z1y t8 t10) 0 C.ne)) (qph (List.getD (z1y t8 t10) 1 C.ne)) (uL qbp (List.getD (z1y t8 t10) 2 C.ne)) (q1e1 (List.getD (z1y t8 t10) 3 C.ne)) (qph (List.getD (z1y t8 t10) 4 C.ne)) (q1e1 (List.getD (z1y t8 t10) 5 C.ne)) (qph (List.getD (z1y t8 t10) 6 C.ne)) (uL qbr (List.getD (z1y t8 t10) 7 C.ne)) (uL qbr (List.getD (z1y t8 t10) 8 C.ne)) (qph (List.getD (z1y t8 t10) 9 C.ne)) (q1e1 (List.getD (z1y t8 t10) 10 C.ne)) (q1e1 (List.getD (z1y t8 t10) 11 C.ne)) (qph (List.getD (z1y t8 t10) 12 C.ne)) depth).bind λr0=>brE (decide ((((out.size+r0.size):Nat):Int)>IntKind.max IntKind.i64)) none (gL qbr t8<|q14t depth (out++r0) (dL qbr t8) t9 (wI t10))) (gL qbr t8<|some ((depth,out,dL qbr t8,t9,t10,false),()))
theorem q14v:E5 q14z q14t:=λh=>lT (es:=q1h1) (hs:=qoc) [] trivial trivial h
def q14u:=lentZ 17 21 3 (qm6 (cdF Tryz.f17) 3) q14y q14w
def q14q:Cod (V×List B) BA:=z3r
def q150 (s:L38) (depth:Int):=fS Tryz.prog lv X0 17 q14p q14q (s,depth)
def q151 (s:L38) (depth:Int):Oq BA :=gL qbr s<|(q14t depth ⟨#[]⟩ (dL qbr s) (lN qbr s:Int) 0).bind λr0=>some r0.1.2.1
theorem q14s {s depth r} (h:q151 s depth=some r):q150 s depth=some r :=
 fT (es:=q1h1) (hs:=qoc) [q14u] Tryz.func17 ⟨⟨_,rfl,rfl⟩,trivial⟩ trivial h
def q14r:=entZ 17 [] q14p q14q
def q1h2:=q14r::q1h1
def q14l:=sLS [6] z3s qqs [] [] (by decide) (λ_=>rfl)
def q14k:=sLS [4] z3s qqs [] [] (by decide) (λ_=>rfl)
def q14j:=oAt 1 q14k
def q14g (out:BA):=gS Tryz.prog lv X0 35 91 (getSeg (cdF Tryz.f35) 7) q14l q14j (out,())
def q14m (out:BA):Oq (BA×Unit) :=brE (decide ((((out.size+ByteArray.size ⟨#[10]⟩):Nat):Int)>IntKind.max IntKind.i64)) none (some ((out++⟨#[10]⟩),()))
theorem q14i {out r} (h:q14m out=some r):q14g out=some r :=
 gT (es:=q1h2) (hs:=qoc) [] trivial trivial h
def q14h:=gentZ 35 91 7 (getSeg (cdF Tryz.f35) 7) (by kernel_rfl) q14l q14j
def q14e:=sLS [7] z3s qqs [] [] (by decide) (λ_=>rfl)
def q14d:=sLS [4] z3s qqs [] [] (by decide) (λ_=>rfl)
def q14c:=oAt 1 q14d
def q149 (out:BA):=gS Tryz.prog lv X0 35 91 (getSeg (cdF Tryz.f35) 17) q14e q14c (out,())
def q14f (out:BA):Oq (BA×Unit) :=brE (decide ((((out.size+ByteArray.size ⟨#[59,10]⟩):Nat):Int)>IntKind.max IntKind.i64)) none (some ((out++⟨#[59,10]⟩),()))
theorem q14b {out r} (h:q14f out=some r):q149 out=some r :=
 gT (es:=q1h2) (hs:=qoc) [] trivial trivial h
def q14a:=gentZ 35 91 17 (getSeg (cdF Tryz.f35) 17) (by kernel_rfl) q14e q14c
def q147:=sLS [2,7] (qqr (vPtr 0 0) z3s) (qqt (qvh (bBox z3p))) [false] [] (by decide) (λ_=>rfl)
def q146:=sLS [4] z3s qqs [] [] (by decide) (λ_=>rfl)
def q145:=oAt 1 q146
def q142 (out:BA) (b0 b0_1:Int) (b0_2:L35) (b0_3:BA) (b0_4:Int) (b0_5:BA) (b0_6:Int) (b0_7 b0_8:L38) (b0_9:Int) (b0_10 b0_11:BA) (b0_12:Int):=gS Tryz.prog lv X0 35 91 (getSeg (cdF Tryz.f35) 15) q147 q145 (((),out),b0,b0_1,b0_2,b0_3,b0_4,b0_5,b0_6,b0_7,b0_8,b0_9,b0_10,b0_11,b0_12)
def q148 (out:BA) (_b0 _b0_1:Int) (_b0_2:L35) (_b0_3:BA) (_b0_4:Int) (_b0_5:BA) (_b0_6:Int) (_b0_7 _b0_8:L38) (b0_9:Int) (_b0_10 _b0_11:BA) (b0_12:Int):Oq (BA×Unit) :=brE (b0_9==6) ((itoaP b0_12).bind λr0=>brE (decide ((((ByteArray.size ⟨#[32]⟩+r0.size):Nat):Int)>IntKind.max IntKind.i64)) none (brE (decide ((((out.size+ByteArray.size (⟨#[32]⟩++r0)):Nat):Int)>IntKind.max IntKind.i64)) none ((q149 (out++(⟨#[32]⟩++r0))).bind λr1=>some (r1.1,())))) ((q149 out).bind λr0=>some (r0.1,()))
theorem q144:E14 q148 q142:=λh=>gT (es:=q1h2) (hs:=qoc) [q14a] trivial ⟨⟨_,rfl,rfl⟩,trivial⟩ h
def q143:=gentZ 35 91 15 (getSeg (cdF Tryz.f35) 15) (by kernel_rfl) q147 q145
abbrev z1z (r_Act:Int):=(Int.toNat (IntKind.wrap .i64 (r_Act - 1)))
def q14o (q103 r_Test_Kind:Int) (q107:L35) (q105:BA) (q106:Int) (q108:BA) (q104:Int) (r_Then r_Else:L38) (r_Act:Int) (r_Name r_Text:BA) (r_N depth:Int):Oq BA :=(repP ⟨#[32,32]⟩ depth).bind λr0=>brE (q103==1) (brE (decide ((((r0.size+ByteArray.size ⟨#[105,102,32]⟩):Nat):Int)>IntKind.max IntKind.i64)) none (gL qbp q107<|(q156 r_Test_Kind (dL qbp q107) q105 q106 q108 q104).bind λr1=>brE (decide ((((ByteArray.size (r0++⟨#[105,102,32]⟩)+r1.size):Nat):Int)>IntKind.max IntKind.i64)) none (brE (decide ((((ByteArray.size ((r0++⟨#[105,102,32]⟩)++r1)+ByteArray.size ⟨#[32,123,10]⟩):Nat):Int)>IntKind.max IntKind.i64)) none (gL qbr r_Then<|(q150 (dL qbr r_Then) (wI depth)).bind λr2=>brE (decide ((((ByteArray.size (((r0++⟨#[105,102,32]⟩)++r1)++⟨#[32,123,10]⟩)+r2.size):Nat):Int)>IntKind.max IntKind.i64)) none (brE (decide ((((ByteArray.size ((((r0++⟨#[105,102,32]⟩)++r1)++⟨#[32,123,10]⟩)++r2)+r0.size):Nat):Int)>IntKind.max IntKind.i64)) none (brE (decide ((((ByteArray.size (((((r0++⟨#[105,102,32]⟩)++r1)++⟨#[32,123,10]⟩)++r2)++r0)+ByteArray.size ⟨#[125]⟩):Nat):Int)>IntKind.max IntKind.i64)) none (brE (decide ((lN qbr r_Else:Int)>0)) (gL qbr r_Else<|(q150 (dL qbr r_Else) (wI depth)).bind λr3=>brE (decide ((((ByteArray.size ⟨#[32,101,108,115,101,32,123,10]⟩+r3.size):Nat):Int)>IntKind.max IntKind.i64)) none (brE (decide ((((ByteArray.size (⟨#[32,101,108,115,101,32,123,10]⟩++r3)+r0.size):Nat):Int)>IntKind.max IntKind.i64)) none (brE (decide ((((ByteArray.size ((⟨#[32,101,108,115,101,32,123,10]⟩++r3)++r0)+ByteArray.size ⟨#[125]⟩):Nat):Int)>IntKind.max IntKind.i64)) none (brE (decide ((((ByteArray.size ((((((r0++⟨#[105,102,32]⟩)++r1)++⟨#[32,123,10]⟩)++r2)++r0)++⟨#[125]⟩)+ByteArray.size (((⟨#[32,101,108,115,101,32,123,10]⟩++r3)++r0)++⟨#[125]⟩)):Nat):Int)>IntKind.max IntKind.i64)) none (Option.bind (q14g (((((((r0++⟨#[105,102,32]⟩)++r1)++⟨#[32,123,10]⟩)++r2)++r0)++⟨#[125]⟩)++(((⟨#[32,101,108,115,101,32,123,10]⟩++r3)++r0)++⟨#[125]⟩))) λr4=>some r4.1))))) (Option.bind (q14g ((((((r0++⟨#[105,102,32]⟩)++r1)++⟨#[32,123,10]⟩)++r2)++r0)++⟨#[125]⟩)) λr3=>some r3.1)))))))) (brE (q103==3) (brE (decide ((((r0.size+ByteArray.size ⟨#[115,101,116,32]⟩):Nat):Int)>IntKind.max IntKind.i64)) none (brE (decide ((((ByteArray.size (r0++⟨#[115,101,116,32]⟩)+r_Name.size):Nat):Int)>IntKind.max IntKind.i64)) none (brE (decide ((((ByteArray.size ((r0++⟨#[115,101,116,32]⟩)++r_Name)+ByteArray.size ⟨#[32]⟩):Nat):Int)>IntKind.max IntKind.i64)) none ((quoP r_Text).bind λr1=>brE (decide ((((ByteArray.size (((r0++⟨#[115,101,116,32]⟩)++r_Name)++⟨#[32]⟩)+r1.size):Nat):Int)>IntKind.max IntKind.i64)) none (brE (decide ((((ByteArray.size ((((r0++⟨#[115,101,116,32]⟩)++r_Name)++⟨#[32]⟩)++r1)+ByteArray.size ⟨#[59,10]⟩):Nat):Int)>IntKind.max IntKind.i64)) none (some (((((r0++⟨#[115,101,116,32]⟩)++r_Name)++⟨#[32]⟩)++r1)++⟨#[59,10]⟩))))))) (brE (q103==4) (brE (decide ((((r0.size+ByteArray.size ⟨#[115,116,111,112,59,10]⟩):Nat):Int)>IntKind.max IntKind.i64)) none (some (r0++⟨#[115,116,111,112,59,10]⟩))) (Option.bind q137 λr1=>gdE ((p0 (IntKind.wrap .i64 (r_Act - 1))&&decide (IntKind.wrap .i64 (r_Act - 1)<((7:Nat):Int)))&&decide ((z1z r_Act)<List.length [r1.1,r1.2.1,r1.2.2.1,r1.2.2.2.1,r1.2.2.2.2.1,r1.2.2.2.2.2.1,r1.2.2.2.2.2.2]))<|brE (decide ((((r0.size+ByteArray.size (List.getD [r1.1,r1.2.1,r1.2.2.1,r1.2.2.2.1,r1.2.2.2.2.1,r1.2.2.2.2.2.1,r1.2.2.2.2.2.2] (z1z r_Act) ByteArray.empty)):Nat):Int)>IntKind.max IntKind.i64)) none ((q1ay r_Act).bind λr2=>brE r2 ((quoP r_Text).bind λr3=>brE (decide ((((ByteArray.size ⟨#[32]⟩+r3.size):Nat):Int)>IntKind.max IntKind.i64)) none (brE (decide ((((ByteArray.size (r0++List.getD [r1.1,r1.2.1,r1.2.2.1,r1.2.2.2.1,r1.2.2.2.2.1,r1.2.2.2.2.2.1,r1.2.2.2.2.2.2] (z1z r_Act) ByteArray.empty)+ByteArray.size (⟨#[32]⟩++r3)):Nat):Int)>IntKind.max IntKind.i64)) none (gL qbp q107<|gL qbr r_Then<|gL qbr r_Else<|Option.bind (q142 ((r0++List.getD [r1.1,r1.2.1,r1.2.2.1,r1.2.2.2.1,r1.2.2.2.2.1,r1.2.2.2.2.2.1,r1.2.2.2.2.2.2] (z1z r_Act) ByteArray.empty)++(⟨#[32]⟩++r3)) q103 r_Test_Kind (dL qbp q107) q105 q106 q108 q104 (dL qbr r_Then) (dL qbr r_Else) r_Act r_Name r_Text r_N) λr4=>some r4.1))) (gL qbp q107<|gL qbr r_Then<|gL qbr r_Else<|(q142 (r0++List.getD [r1.1,r1.2.1,r1.2.2.1,r1.2.2.2.1,r1.2.2.2.2.1,r1.2.2.2.2.2.1,r1.2.2.2.2.2.2] (z1z r_Act) ByteArray.empty) q103 r_Test_Kind (dL qbp q107) q105 q106 q108 q104 (dL qbr r_Then) (dL qbr r_Else) r_Act r_Name r_Text r_N).bind λr3=>some r3.1)))))
theorem q141:E14 q14o q14n:=λh=>fT (es:=q1h2) (hs:=qoc) [q14h,q143] Tryz.func35 trivial ⟨⟨_,rfl,rfl⟩,⟨_,rfl,rfl⟩,trivial⟩ h
def q11r:=(qqt (vC (cSl qbr)))
def q11s:Cod (V×List B) (BA×Int×Int):=(cFstU (cPair (vTup (qqr (vC cStr) (qqt (vAgg (qqr z3o (qqt z3o)))))) qqs))
def q11v (s:L38):=fS Tryz.prog lv X0 5 q11r q11s s
def q11w (s:L38):Oq (BA×Int×Int) :=gL qbr s<|(q131 (dL qbr s)).bind λr0=>(q69 r0.1 r0.2).bind λr1=>brE r1 (some (⟨#[]⟩,r0)) (gL qbr s<|(q150 (dL qbr s) 0).bind λr2=>brE (decide ((r2.size:Int)>4000)) ((q6f 1 (-1)).bind λr3=>some (⟨#[]⟩,r3)) (Option.bind q7g λr3=>some (r2,r3)))
theorem q11u {s r} (h:q11w s=some r):q11v s=some r :=
 fT (es:=q1h2) (hs:=qoc) [] Tryz.func5 trivial trivial h
def q11t:=entZ 5 [] q11r q11s
def q1gt:=q11t::q1h2
end
end Go.Proofs.YtmlcmoaonaomfaaGreatDoor
