/- The base of the functions that are made by program. -/
import Derived.Test.YtmlcmoaonaomfaaGreatDoorZ09
import Derived.Lib.IndexMore
import Derived.Lib.Join
namespace Go.Proofs.YtmlcmoaonaomfaaGreatDoor
open Go.RowKit
abbrev gL {τ β:Type} (e:EC τ) (l:List τ) (x:Oq β):Oq β:=gdE (EC.isL e (EC.encL e l)) x
abbrev dL {τ:Type} (e:EC τ) (l:List τ):List τ:=EC.decL e (EC.encL e l)
abbrev lN {τ:Type} (e:EC τ) (l:List τ):Nat:=List.length (EC.encL e l)
abbrev eC {τ:Type} (e:EC τ) (l:List τ) (i:Int) (k:List K1):Bool:=decide (Int.toNat i<List.length (EC.encL e l))&&(isE k 0 (List.getD (EC.encL e l) (Int.toNat i) []))
abbrev wI (i:Int):Int:=IntKind.wrap .i64 (i+1)
abbrev p0 (i:Int):Bool:=decide (0<=i)
abbrev aL (l:List (List C)) (n:Nat):Bool:=List.all l (λ(el:List C)=>(List.length el==n))
abbrev dQ (n k:Nat):Bool:=decide ((((n+(n / 4))+192)*k)<=281474976710656)
abbrev dM (n:Nat):Bool:=decide (n<=9223372036854775807)
abbrev uL {τ:Type} (e:EC τ) (c:C):List τ:=EC.decL e (slOf c)
abbrev LB:=List ByteArray
def cdF (fn:Func):Code:=fn.body.getD .skip
def loopsIn:Code->List Code
 |.loop c=>c::loopsIn c
 |.seq a b=>loopsIn a++loopsIn b
 |.cond _ a b=>loopsIn a++loopsIn b
 |.block _ c=>loopsIn c
 |_=>[]
def qm6 (c:Code) (id:Nat):Code:=((loopsIn c).find? λl=>match fstRegion l with|some i=>i==id|none=>false).getD .skip
def clones:List FuncId:=[54]
def contP (s t:BA):Oq Bool:=if s.size<4294967281 then some (Lib.contains s.data.toList t.data.toList) else none
def cutP (s t:BA):Oq (BA×BA×Bool):=if s.size<4294967281 then some (⟨(Lib.cut s.data.toList t.data.toList).1.toArray⟩,⟨(Lib.cut s.data.toList t.data.toList).2.1.toArray⟩,(Lib.cut s.data.toList t.data.toList).2.2) else none
def ixbP (s:BA) (c:Int):Oq Int:=some (Lib.indexByte s.data.toList c.toNat.toUInt8)
def crlf0:List UInt8:=[13,10,0]
def canyP (s t:BA):Oq Bool:=if s.size<4294967281/\t.data.toList=crlf0 then some (s.data.toList.any λb=>crlf0.contains b) else none
def itoaP (n:Int):Oq BA:=if -9223372036854775808<=n/\n<=9223372036854775807 then some ⟨(Lib.itoa n).toArray⟩ else none
def getM (l:List (BA×BA)) (k:List UInt8):List UInt8:=((l.find? λp=>p.1.data.toList==k).map λp=>p.2.data.toList).getD []
def expF (l:List (BA×BA)):Nat->List UInt8->List UInt8->Oq (List UInt8)
 |0,_,_=>none
 |n+1,s,out =>
  if (Lib.cut s [36,123]).2.2=false∨(Lib.cut (Lib.cut s [36,123]).2.1 [125]).2.2=false then (if out.length+s.length<=140737488355328 then some (out++s) else none)
  else if out.length+((Lib.cut s [36,123]).1.length+(getM l (Lib.cut (Lib.cut s [36,123]).2.1 [125]).1).length)<=140737488355328 then
   expF l n (Lib.cut (Lib.cut s [36,123]).2.1 [125]).2.1 (out++((Lib.cut s [36,123]).1++getM l (Lib.cut (Lib.cut s [36,123]).2.1 [125]).1))
  else none
def expP (l:List (BA×BA)) (s:BA):Oq BA:=if s.size<4294967281 then (expF l (s.size+1) s.data.toList []).map λo=>⟨(o.take 4000).toArray⟩ else none
def digP (k:BA):Bool:=match k.data.toList with
 |b::_=>decide (48<=b.toNat)&&decide (b.toNat<=57)
 |[]=>false
def delP (l:List (BA×BA)):Oq (List (BA×BA)):=if l.all (λp=>decide (p.1.size≠0))=true then some (l.filter λp=>!digP p.1) else none
def nvL (s:List UInt8):Nat:=s.foldl (λn c=>10*n+(c.toNat - 48)) 0
def numP (s:BA) (most:Int):Oq (Int×Bool):=if s.size<4294967281/\most<=9223372036854775807 then some (if s.data.toList=Lib.decDigits (nvL s.data.toList)/\(nvL s.data.toList:Int)<=most then ((nvL s.data.toList:Int),true) else (0,false)) else none
def esc:List UInt8->List UInt8
 |[]=>[]
 |c::r=>if c=34∨c=92 then 92::c::esc r else c::esc r
def quoL (s:List UInt8):List UInt8:=34::(esc s++[34])
def quoP (s:BA):Oq BA:=if s.size<4294967281 then some ⟨(quoL s.data.toList).toArray⟩ else none
def repP (s:BA) (n:Int):Oq BA:=if 0<=n/\n<=1000000/\s.size<=1000000 then some ⟨(List.replicate n.toNat s.data.toList).flatten.toArray⟩ else none
def strsOf:List (List C)->Oq (List BA)
 |[]=>some []
 |[.str s]::l=>(strsOf l).map (s::·)
 |_=>none
def joinP (l:List BA) (sep:BA):Oq BA:=if (Lib.join (l.map (·.data.toList)) sep.data.toList).length<=140737488355328/\l.length<=140737488355328 then some ⟨(Lib.join (l.map (·.data.toList)) sep.data.toList).toArray⟩ else none
def isHi:List (List C)->Bool
 |[[.int .u8 a],[.int .u8 b],[.int .u8 c],[.int .u8 d]]=>a==104&&(b==105&&(c==13&&d==10))
 |_=>false
def bytC:List C->Bool
 |[.int .u8 x]=>decide (0<=x)&&decide (x<256)
 |_=>false
open Classical in
noncomputable def bodG (es:List (List C)):Oq (List (List C)):=if h:∃ r:List (List C),(r.all bytC=true/\r.length<=4000000)/\CallOk Tryz.prog 82 [.c (.sl es)] (.c (.sl r),[]) then some (Classical.choose h) else none
noncomputable def bodP (es:List (List C)):Oq (List (List C)):=bif isHi es then some es else bodG es
def fldB:List C->Bool
 |[.str _,.str _]=>true
 |_=>false
def catL:List (List C)->Oq (List (List C))
 |[]=>some []
 |[.sl xs]::r=>if xs.all fldB=true then (catL r).map (xs++·) else none
 |_=>none
def catP (es:List (List C)):Oq (List (List C)):=(catL es).bind λr=>if r.length<=1000000 then some r else none
noncomputable def X0c:FuncId->List V->Oq (V×List B):=λf a=>bif clones.contains f then (match a with|[.c (.sl [])]=>some (.row 0 0,[.row []])|_=>none) else
 bif f==163 then (match a with|[.c (.str s),.c (.str t)]=>(contP s t).map λb=>(.c (.bool b),[])|_=>none) else
 bif f==125 then (match a with|[.c (.str s),.c (.str t)]=>(cutP s t).map λb=>(.tup [.c (.str b.1),.c (.str b.2.1),.c (.bool b.2.2)],[])|_=>none) else
 bif f==38 then (match a with|[.c (.str s),.c (.int .u8 c)]=>(ixbP s c).map λb=>(.c (.int .i64 b),[])|_=>none) else
 bif f==134 then (match a with|[.c (.str s),.c (.str t)]=>(canyP s t).map λb=>(.c (.bool b),[])|_=>none) else
 bif f==135 then (match a with|[.c (.str s),.c (.int .i64 n)]=>(numP s n).map λb=>(.tup [.c (.int .i64 b.1),.c (.bool b.2)],[])|_=>none) else
 bif f==64 then (match a with|[.c (.str s)]=>(quoP s).map λb=>(.c (.str b),[])|_=>none) else
 bif f==62 then (match a with|[.c (.str s),.c (.int .i64 n)]=>(repP s n).map λb=>(.c (.str b),[])|_=>none) else
 bif f==50 then (match a with|[.c (.sl es),.c (.str s)]=>(strsOf es).bind λl=>(joinP l s).map λb=>(.c (.str b),[])|_=>none) else
 bif f==82 then (match a with|[.c (.sl es)]=>(bodP es).map λr=>(.c (.sl r),[])|_=>none) else
 bif f==53 then (match a with|[.c (.sl es)]=>(catP es).map λr=>(.row 0 r.length,[.row r])|_=>none) else
 bif f==67 then (match a with|[.c (.int .i64 n)]=>(itoaP n).map λb=>(.c (.str b),[])|_=>none) else
 none
def expX:XRule where
 n:=2
 run _ s k:=match s.t 0,s.t 1 with
  |.ptr id 0,.c (.str a)=>match s.h id with
   |some (.box cs)=>match cs.getD 6 .any with
    |.mp j=>match s.h j with
     |some (.mp l)=>(expP l a).bind λr=>k ([.c (.str r)],s)
     |_=>none
    |_=>none
   |_=>none
  |_,_=>none
 ok β s k:=by
  split
  ·split
   ·split
    ·split
     ·cases expP _ _ <;> rfl
     ·rfl
    ·rfl
   ·rfl
  ·rfl
def delX (clo:Nat):XRule where
 n:=2
 run _ s k:=match s.t 0,s.t 1 with
  |.mp j,.fn f []=>bif f==clo then (match s.h j with
   |some (.mp l)=>(delP l).bind λl'=>k ([],{ s with h:=upd s.h j (some (.mp l')) })
   |_=>none) else none
  |_,_=>none
 ok β s k:=by
  split
  ·rename_i f _ _
   cases f==clo with
   |false=>rfl
   |true =>
    simp only [x22q];split
    ·cases delP _ <;> rfl
    ·rfl
  ·rfl
def X0h:FuncId->Oq XRule:=λf =>
 bif f==92 then some expX else
 bif f==144 then some (delX 145) else
 none
noncomputable def X0:XT:=⟨X0c,X0h⟩
def qa4:=qqr (vC cStr) (qqt (vC cStr))
def qa7:Cod (V×List B) Bool:=cFstU (cPair (vC cBool) qqs)
theorem qa5 (x:(BA×BA)) (r:Bool) (h:contP x.1 x.2=some r):Call Tryz.prog lv X0 163 (qa4.enc x)=some (qa7.enc r):=by
 have:X0.c 163 (qa4.enc x)=some (qa7.enc r):=by show (contP x.1 x.2).map (λb=>((V.c (.bool b),[]):V×List B))=_;rw [h];rfl
 unfold Call callD;rw [this]
noncomputable def cont_e:=entS Tryz.prog lv X0 163 [] qa4 qa7 (λx=>contP x.1 x.2) qa5
def qal:=qqr (vC cStr) (qqt (vC cStr))
def qan:Cod (V×List B) (BA×BA×Bool):=cFstU (cPair (vTup (qqr (vC cStr) (qqr (vC cStr) (qqt (vC cBool))))) qqs)
theorem qam (x:(BA×BA)) (r:(BA×BA×Bool)) (h:cutP x.1 x.2=some r):Call Tryz.prog lv X0 125 (qal.enc x)=some (qan.enc r):=by
 have:X0.c 125 (qal.enc x)=some (qan.enc r):=by show (cutP x.1 x.2).map (λb=>((V.tup [.c (.str b.1),.c (.str b.2.1),.c (.bool b.2.2)],[]):V×List B))=_;rw [h];rfl
 unfold Call callD;rw [this]
noncomputable def cutf_e:=entS Tryz.prog lv X0 125 [] qal qan (λx=>cutP x.1 x.2) qam
def ixb_ca:=qqr (vC cStr) (qqt (vC (cInt .u8)))
def ixb_cr:Cod (V×List B) Int:=cFstU (cPair (vC (cInt .i64)) qqs)
theorem qqa (x:(BA×Int)) (r:Int) (h:ixbP x.1 x.2=some r):Call Tryz.prog lv X0 38 (ixb_ca.enc x)=some (ixb_cr.enc r):=by
 have:X0.c 38 (ixb_ca.enc x)=some (ixb_cr.enc r):=by show (ixbP x.1 x.2).map (λb=>((V.c (.int .i64 b),[]):V×List B))=_;rw [h];rfl
 unfold Call callD;rw [this]
noncomputable def ixb_e:=entS Tryz.prog lv X0 38 [] ixb_ca ixb_cr (λx=>ixbP x.1 x.2) qqa
def q9b:=qqr (vC cStr) (qqt (vC cStr))
def q9e:Cod (V×List B) Bool:=cFstU (cPair (vC cBool) qqs)
theorem q9c (x:(BA×BA)) (r:Bool) (h:canyP x.1 x.2=some r):Call Tryz.prog lv X0 134 (q9b.enc x)=some (q9e.enc r):=by
 have:X0.c 134 (q9b.enc x)=some (q9e.enc r):=by show (canyP x.1 x.2).map (λb=>((V.c (.bool b),[]):V×List B))=_;rw [h];rfl
 unfold Call callD;rw [this]
noncomputable def cany_e:=entS Tryz.prog lv X0 134 [] q9b q9e (λx=>canyP x.1 x.2) q9c
def qq5:=qqt (vC (cInt .i64))
def qq8:Cod (V×List B) BA:=cFstU (cPair (vC cStr) qqs)
theorem qq6 (x:Int) (r:BA) (h:itoaP x=some r):Call Tryz.prog lv X0 67 (qq5.enc x)=some (qq8.enc r):=by
 have:X0.c 67 (qq5.enc x)=some (qq8.enc r):=by show (itoaP x).map (λb=>((V.c (.str b),[]):V×List B))=_;rw [h];rfl
 unfold Call callD;rw [this]
noncomputable def itoa_e:=entS Tryz.prog lv X0 67 [] qq5 qq8 (λx=>itoaP x) qq6
def qvd:=qqr (vC cStr) (qqt (vC (cInt .i64)))
def qvf:Cod (V×List B) (Int×Bool):=cFstU (cPair (vTup (qqr (vC (cInt .i64)) (qqt (vC cBool)))) qqs)
theorem qve (x:(BA×Int)) (r:(Int×Bool)) (h:numP x.1 x.2=some r):Call Tryz.prog lv X0 135 (qvd.enc x)=some (qvf.enc r):=by
 have:X0.c 135 (qvd.enc x)=some (qvf.enc r):=by show (numP x.1 x.2).map (λb=>((.tup [.c (.int .i64 b.1),.c (.bool b.2)],[]):V×List B))=_;rw [h];rfl
 unfold Call callD;rw [this]
noncomputable def numb_e:=entS Tryz.prog lv X0 135 [] qvd qvf (λx=>numP x.1 x.2) qve
def qzy:=qqt (vC cStr)
def q100:Cod (V×List B) BA:=cFstU (cPair (vC cStr) qqs)
theorem qzz (x:BA) (r:BA) (h:quoP x=some r):Call Tryz.prog lv X0 64 (qzy.enc x)=some (q100.enc r):=by
 have:X0.c 64 (qzy.enc x)=some (q100.enc r):=by show (quoP x).map (λb=>((.c (.str b),[]):V×List B))=_;rw [h];rfl
 unfold Call callD;rw [this]
noncomputable def quot_e:=entS Tryz.prog lv X0 64 [] qzy q100 (λx=>quoP x) qzz
def q10z:=qqr (vC cStr) (qqt (vC (cInt .i64)))
def q111:Cod (V×List B) BA:=cFstU (cPair (vC cStr) qqs)
theorem q110 (x:(BA×Int)) (r:BA) (h:repP x.1 x.2=some r):Call Tryz.prog lv X0 62 (q10z.enc x)=some (q111.enc r):=by
 have:X0.c 62 (q10z.enc x)=some (q111.enc r):=by show (repP x.1 x.2).map (λb=>((.c (.str b),[]):V×List B))=_;rw [h];rfl
 unfold Call callD;rw [this]
noncomputable def repe_e:=entS Tryz.prog lv X0 62 [] q10z q111 (λx=>repP x.1 x.2) q110
noncomputable def tab0:List (Ent Tryz.prog lv X0) :=
 cont_e ::
 cutf_e ::
 ixb_e ::
 cany_e ::
 itoa_e ::
 numb_e ::
 quot_e ::
 repe_e ::
 []
theorem EC.getD_lt {τ:Type} (e:EC τ) (xs:List τ) {n:Nat} (h:n<xs.length):(e.encL xs).getD n []=e.enc xs[n]:=by simp [EC.encL,h]
theorem EC.getD_ge {τ:Type} (e:EC τ) (xs:List τ) {n:Nat} (h:xs.length<=n):(e.encL xs).getD n []=[]:=by simp [EC.encL,h]
@[simp] theorem EC.encL_length {τ:Type} (e:EC τ) (xs:List τ):(e.encL xs).length=xs.length:=by simp [EC.encL]
def segsIn:Code->List Code
 |.loop c=>segsIn c
 |.seq a b=>b::segsIn a++segsIn b
 |.cond _ a b=>segsIn a++segsIn b
 |.block _ c=>segsIn c
 |_=>[]
def getSeg (c:Code) (id:Nat):Code:=((segsIn c).find? λl=>match fstRegion l with|some i=>i==id|none=>false).getD .skip
noncomputable def entZ {τ ρ:Type} (f:FuncId) (key:List Nat) (ca:Cod (List V) τ) (cr:Cod (V×List B) ρ):Ent Tryz.prog lv X0:=entS Tryz.prog lv X0 f key ca cr (λx=>fS Tryz.prog lv X0 f ca cr x) (λ_ _ h=>qi4 h)
noncomputable def lentZ {σ ω:Type} (f nt id:Nat) (c:Code) (s:SC σ) (o:OC ω):LEnt Tryz.prog lv X0 f nt:=lentS Tryz.prog lv X0 id c s o (λx=>lS Tryz.prog lv X0 f nt c s o x) (λ_ _ h=>qqu h)
noncomputable def gentZ {σ ω:Type} (f nt id:Nat) (c:Code) (hne:(cutL (lv f) c).isEmpty=false) (s:SC σ) (o:OC ω):LEnt Tryz.prog lv X0 f nt:=gentS Tryz.prog lv X0 id c hne s o (λx=>gS Tryz.prog lv X0 f nt c s o x) (λ_ _ h=>qly h)
noncomputable def hentZ {σ ρ:Type} (f:FuncId) (key:List Nat) (s:SC σ) (o:HC ρ):HEnt Tryz.prog lv X0:=hentS Tryz.prog lv X0 f key s o (λx=>hS Tryz.prog lv X0 f s o x) (λ_ _ h=>qmf h)
set_option maxRecDepth 100000 in
theorem fT {τ ρ : Type} {f : FuncId} {ca : Cod (List V) τ} {cr : Cod (V × List B) ρ} {x : τ} {r : ρ} {fn : Func} {es : List (Ent Tryz.prog lv X0)} {hs : List (HEnt Tryz.prog lv X0)} (ls : List (LEnt Tryz.prog lv X0 f fn.ntmps)) (hf : Tryz.prog.funcs[f]? = some fn) (hl : allL Tryz.prog lv X0 ls false (loopsOf (lv f) (cdF fn))) (hg : allL Tryz.prog lv X0 ls true (segsOf (lv f) (cdF fn))) {t : Option ρ} (h : t = some r) (hb : fn.body = some (cdF fn) := by rfl) (hn : (fn.name == "runtime.NumGoroutine") = false := by kernel_rfl) (hX : X0.c f (ca.enc x) = none := by rfl) (ha : decide ((ca.enc x).length ≤ fn.ntmps) = true := by kernel_rfl) (hd : allDraw Tryz.prog (ioB lv) (lv f) (cdF fn) = true := by kernel_rfl) (ht : codeL Tryz.prog (ioB lv) (lv f) (look Tryz.prog lv X0 ρ es) (lookH Tryz.prog lv X0 ρ hs) fn.ntmps (lookL Tryz.prog lv X0 ρ ls false) (lookL Tryz.prog lv X0 ρ ls true) (cdF fn) ⟨en (ca.enc x) 0, [], [], []⟩ (fun y => (endF Tryz.prog (fzL lv f) fn (y.1, y.2.st)).bind fun z => cr.dec ρ z some) = t := by kernel_rfl) : fS Tryz.prog lv X0 f ca cr x = some r := qi5 ls hf hb hn hX ha hd hl hg ht h
set_option maxRecDepth 100000 in
theorem hT {σ ρ:Type} {f:FuncId} {s:SC σ} {o:HC ρ} {x:σ} {r:ρ} {fn:Func} {es:List (Ent Tryz.prog lv X0)} {hs:List (HEnt Tryz.prog lv X0)} (ls:List (LEnt Tryz.prog lv X0 f fn.ntmps)) (hl:allL Tryz.prog lv X0 ls false (loopsOf (lv f) (cdF fn))) (hg:allL Tryz.prog lv X0 ls true (segsOf (lv f) (cdF fn))) {t:Oq ρ} (h:t=some r) (hb:bodyOf Tryz.prog f=some fn:=by kernel_rfl) (hc:fn.body=some (cdF fn):=by rfl) (hdf:dfB lv f=false:=by kernel_rfl) (hd:allDraw Tryz.prog (ioB lv) (lv f) (cdF fn)=true:=by kernel_rfl) (ht:codeL Tryz.prog (ioB lv) (lv f) (look Tryz.prog lv X0 ρ es) (lookH Tryz.prog lv X0 ρ hs) fn.ntmps (lookL Tryz.prog lv X0 ρ ls false) (lookL Tryz.prog lv X0 ρ ls true) (cdF fn) (s.c.enc x) (λy=>if y.1<=1 then (resV Tryz.prog fn y.2.st).bind λvs=>(finH (fzL lv f) y.2.st vs).bind λz=>canK (List.range z.1.length) { z.2 with t:=λi=>z.1.getD i .any } λls=>o.dec ρ (oneOrTup ((List.range z.1.length).map ls.st.t),ls) some else none)=t:=by kernel_rfl):hS Tryz.prog lv X0 f s o x=some r:=qmg ls hb hc hdf hd hl hg ht h
set_option maxRecDepth 100000 in
theorem lT {σ ω:Type} {f nt:Nat} {c:Code} {s:SC σ} {o:OC ω} {x:σ} {r:ω} {es:List (Ent Tryz.prog lv X0)} {hs:List (HEnt Tryz.prog lv X0)} (ls:List (LEnt Tryz.prog lv X0 f nt)) (hl:allL Tryz.prog lv X0 ls false (loopsOf (lv f) c)) (hg:allL Tryz.prog lv X0 ls true (segsOf (lv f) c)) {t:Oq ω} (h:t=some r) (hd:allDraw Tryz.prog (ioB lv) (lv f) c=true:=by kernel_rfl) (ht:codeL Tryz.prog (ioB lv) (lv f) (look Tryz.prog lv X0 ω es) (lookH Tryz.prog lv X0 ω hs) nt (lookL Tryz.prog lv X0 ω ls false) (lookL Tryz.prog lv X0 ω ls true) c (s.c.enc x) (λy=>match y with|(0,l)=>canK (headOf lv f c) (headS lv f c l.st) λl=>s.c.dec ω l λx=>lS Tryz.prog lv X0 f nt c s o x|(n+1,l)=>o.dec ω (n+1,l) some)=t:=by kernel_rfl):lS Tryz.prog lv X0 f nt c s o x=some r:=qqv ls hd hl hg ht h
set_option maxRecDepth 100000 in
theorem gT {σ ω:Type} {f nt:Nat} {c:Code} {s:SC σ} {o:OC ω} {x:σ} {r:ω} {es:List (Ent Tryz.prog lv X0)} {hs:List (HEnt Tryz.prog lv X0)} (ls:List (LEnt Tryz.prog lv X0 f nt)) (hl:allL Tryz.prog lv X0 ls false (loopsOf (lv f) c)) (hg:allL Tryz.prog lv X0 ls true (segsOf (lv f) c)) {t:Oq ω} (h:t=some r) (hd:allDraw Tryz.prog (ioB lv) (lv f) c=true:=by kernel_rfl) (ht:codeL Tryz.prog (ioB lv) (lv f) (look Tryz.prog lv X0 ω es) (lookH Tryz.prog lv X0 ω hs) nt (lookL Tryz.prog lv X0 ω ls false) (lookL Tryz.prog lv X0 ω ls true) c (s.c.enc x) (λy=>o.dec ω y some)=t:=by kernel_rfl):gS Tryz.prog lv X0 f nt c s o x=some r:=qlz ls hd hl hg ht h
abbrev x27q:=@EC.encL_length
abbrev E3 {a0 a1 a2 o:Type} (f g:a0->a1->a2->Option o):Prop:=∀{x0 x1 x2 r},f x0 x1 x2=some r->g x0 x1 x2=some r
abbrev E4 {a0 a1 a2 a3 o:Type} (f g:a0->a1->a2->a3->Option o):Prop:=∀{x0 x1 x2 x3 r},f x0 x1 x2 x3=some r->g x0 x1 x2 x3=some r
abbrev E5 {a0 a1 a2 a3 a4 o:Type} (f g:a0->a1->a2->a3->a4->Option o):Prop:=∀{x0 x1 x2 x3 x4 r},f x0 x1 x2 x3 x4=some r->g x0 x1 x2 x3 x4=some r
abbrev E6 {a0 a1 a2 a3 a4 a5 o:Type} (f g:a0->a1->a2->a3->a4->a5->Option o):Prop:=∀{x0 x1 x2 x3 x4 x5 r},f x0 x1 x2 x3 x4 x5=some r->g x0 x1 x2 x3 x4 x5=some r
abbrev E7 {a0 a1 a2 a3 a4 a5 a6 o:Type} (f g:a0->a1->a2->a3->a4->a5->a6->Option o):Prop:=∀{x0 x1 x2 x3 x4 x5 x6 r},f x0 x1 x2 x3 x4 x5 x6=some r->g x0 x1 x2 x3 x4 x5 x6=some r
abbrev E8 {a0 a1 a2 a3 a4 a5 a6 a7 o:Type} (f g:a0->a1->a2->a3->a4->a5->a6->a7->Option o):Prop:=∀{x0 x1 x2 x3 x4 x5 x6 x7 r},f x0 x1 x2 x3 x4 x5 x6 x7=some r->g x0 x1 x2 x3 x4 x5 x6 x7=some r
abbrev E9 {a0 a1 a2 a3 a4 a5 a6 a7 a8 o:Type} (f g:a0->a1->a2->a3->a4->a5->a6->a7->a8->Option o):Prop:=∀{x0 x1 x2 x3 x4 x5 x6 x7 x8 r},f x0 x1 x2 x3 x4 x5 x6 x7 x8=some r->g x0 x1 x2 x3 x4 x5 x6 x7 x8=some r
abbrev E10 {a0 a1 a2 a3 a4 a5 a6 a7 a8 a9 o:Type} (f g:a0->a1->a2->a3->a4->a5->a6->a7->a8->a9->Option o):Prop:=∀{x0 x1 x2 x3 x4 x5 x6 x7 x8 x9 r},f x0 x1 x2 x3 x4 x5 x6 x7 x8 x9=some r->g x0 x1 x2 x3 x4 x5 x6 x7 x8 x9=some r
abbrev E11 {a0 a1 a2 a3 a4 a5 a6 a7 a8 a9 a10 o:Type} (f g:a0->a1->a2->a3->a4->a5->a6->a7->a8->a9->a10->Option o):Prop:=∀{x0 x1 x2 x3 x4 x5 x6 x7 x8 x9 x10 r},f x0 x1 x2 x3 x4 x5 x6 x7 x8 x9 x10=some r->g x0 x1 x2 x3 x4 x5 x6 x7 x8 x9 x10=some r
abbrev E12 {a0 a1 a2 a3 a4 a5 a6 a7 a8 a9 a10 a11 o:Type} (f g:a0->a1->a2->a3->a4->a5->a6->a7->a8->a9->a10->a11->Option o):Prop:=∀{x0 x1 x2 x3 x4 x5 x6 x7 x8 x9 x10 x11 r},f x0 x1 x2 x3 x4 x5 x6 x7 x8 x9 x10 x11=some r->g x0 x1 x2 x3 x4 x5 x6 x7 x8 x9 x10 x11=some r
abbrev E13 {a0 a1 a2 a3 a4 a5 a6 a7 a8 a9 a10 a11 a12 o:Type} (f g:a0->a1->a2->a3->a4->a5->a6->a7->a8->a9->a10->a11->a12->Option o):Prop:=∀{x0 x1 x2 x3 x4 x5 x6 x7 x8 x9 x10 x11 x12 r},f x0 x1 x2 x3 x4 x5 x6 x7 x8 x9 x10 x11 x12=some r->g x0 x1 x2 x3 x4 x5 x6 x7 x8 x9 x10 x11 x12=some r
abbrev E14 {a0 a1 a2 a3 a4 a5 a6 a7 a8 a9 a10 a11 a12 a13 o:Type} (f g:a0->a1->a2->a3->a4->a5->a6->a7->a8->a9->a10->a11->a12->a13->Option o):Prop:=∀{x0 x1 x2 x3 x4 x5 x6 x7 x8 x9 x10 x11 x12 x13 r},f x0 x1 x2 x3 x4 x5 x6 x7 x8 x9 x10 x11 x12 x13=some r->g x0 x1 x2 x3 x4 x5 x6 x7 x8 x9 x10 x11 x12 x13=some r
abbrev E15 {a0 a1 a2 a3 a4 a5 a6 a7 a8 a9 a10 a11 a12 a13 a14 o:Type} (f g:a0->a1->a2->a3->a4->a5->a6->a7->a8->a9->a10->a11->a12->a13->a14->Option o):Prop:=∀{x0 x1 x2 x3 x4 x5 x6 x7 x8 x9 x10 x11 x12 x13 x14 r},f x0 x1 x2 x3 x4 x5 x6 x7 x8 x9 x10 x11 x12 x13 x14=some r->g x0 x1 x2 x3 x4 x5 x6 x7 x8 x9 x10 x11 x12 x13 x14=some r
abbrev E16 {a0 a1 a2 a3 a4 a5 a6 a7 a8 a9 a10 a11 a12 a13 a14 a15 o:Type} (f g:a0->a1->a2->a3->a4->a5->a6->a7->a8->a9->a10->a11->a12->a13->a14->a15->Option o):Prop:=∀{x0 x1 x2 x3 x4 x5 x6 x7 x8 x9 x10 x11 x12 x13 x14 x15 r},f x0 x1 x2 x3 x4 x5 x6 x7 x8 x9 x10 x11 x12 x13 x14 x15=some r->g x0 x1 x2 x3 x4 x5 x6 x7 x8 x9 x10 x11 x12 x13 x14 x15=some r
abbrev E17 {a0 a1 a2 a3 a4 a5 a6 a7 a8 a9 a10 a11 a12 a13 a14 a15 a16 o:Type} (f g:a0->a1->a2->a3->a4->a5->a6->a7->a8->a9->a10->a11->a12->a13->a14->a15->a16->Option o):Prop:=∀{x0 x1 x2 x3 x4 x5 x6 x7 x8 x9 x10 x11 x12 x13 x14 x15 x16 r},f x0 x1 x2 x3 x4 x5 x6 x7 x8 x9 x10 x11 x12 x13 x14 x15 x16=some r->g x0 x1 x2 x3 x4 x5 x6 x7 x8 x9 x10 x11 x12 x13 x14 x15 x16=some r
abbrev E18 {a0 a1 a2 a3 a4 a5 a6 a7 a8 a9 a10 a11 a12 a13 a14 a15 a16 a17 o:Type} (f g:a0->a1->a2->a3->a4->a5->a6->a7->a8->a9->a10->a11->a12->a13->a14->a15->a16->a17->Option o):Prop:=∀{x0 x1 x2 x3 x4 x5 x6 x7 x8 x9 x10 x11 x12 x13 x14 x15 x16 x17 r},f x0 x1 x2 x3 x4 x5 x6 x7 x8 x9 x10 x11 x12 x13 x14 x15 x16 x17=some r->g x0 x1 x2 x3 x4 x5 x6 x7 x8 x9 x10 x11 x12 x13 x14 x15 x16 x17=some r
abbrev E19 {a0 a1 a2 a3 a4 a5 a6 a7 a8 a9 a10 a11 a12 a13 a14 a15 a16 a17 a18 o:Type} (f g:a0->a1->a2->a3->a4->a5->a6->a7->a8->a9->a10->a11->a12->a13->a14->a15->a16->a17->a18->Option o):Prop:=∀{x0 x1 x2 x3 x4 x5 x6 x7 x8 x9 x10 x11 x12 x13 x14 x15 x16 x17 x18 r},f x0 x1 x2 x3 x4 x5 x6 x7 x8 x9 x10 x11 x12 x13 x14 x15 x16 x17 x18=some r->g x0 x1 x2 x3 x4 x5 x6 x7 x8 x9 x10 x11 x12 x13 x14 x15 x16 x17 x18=some r
abbrev E20 {a0 a1 a2 a3 a4 a5 a6 a7 a8 a9 a10 a11 a12 a13 a14 a15 a16 a17 a18 a19 o:Type} (f g:a0->a1->a2->a3->a4->a5->a6->a7->a8->a9->a10->a11->a12->a13->a14->a15->a16->a17->a18->a19->Option o):Prop:=∀{x0 x1 x2 x3 x4 x5 x6 x7 x8 x9 x10 x11 x12 x13 x14 x15 x16 x17 x18 x19 r},f x0 x1 x2 x3 x4 x5 x6 x7 x8 x9 x10 x11 x12 x13 x14 x15 x16 x17 x18 x19=some r->g x0 x1 x2 x3 x4 x5 x6 x7 x8 x9 x10 x11 x12 x13 x14 x15 x16 x17 x18 x19=some r
abbrev E21 {a0 a1 a2 a3 a4 a5 a6 a7 a8 a9 a10 a11 a12 a13 a14 a15 a16 a17 a18 a19 a20 o:Type} (f g:a0->a1->a2->a3->a4->a5->a6->a7->a8->a9->a10->a11->a12->a13->a14->a15->a16->a17->a18->a19->a20->Option o):Prop:=∀{x0 x1 x2 x3 x4 x5 x6 x7 x8 x9 x10 x11 x12 x13 x14 x15 x16 x17 x18 x19 x20 r},f x0 x1 x2 x3 x4 x5 x6 x7 x8 x9 x10 x11 x12 x13 x14 x15 x16 x17 x18 x19 x20=some r->g x0 x1 x2 x3 x4 x5 x6 x7 x8 x9 x10 x11 x12 x13 x14 x15 x16 x17 x18 x19 x20=some r
abbrev E22 {a0 a1 a2 a3 a4 a5 a6 a7 a8 a9 a10 a11 a12 a13 a14 a15 a16 a17 a18 a19 a20 a21 o:Type} (f g:a0->a1->a2->a3->a4->a5->a6->a7->a8->a9->a10->a11->a12->a13->a14->a15->a16->a17->a18->a19->a20->a21->Option o):Prop:=∀{x0 x1 x2 x3 x4 x5 x6 x7 x8 x9 x10 x11 x12 x13 x14 x15 x16 x17 x18 x19 x20 x21 r},f x0 x1 x2 x3 x4 x5 x6 x7 x8 x9 x10 x11 x12 x13 x14 x15 x16 x17 x18 x19 x20 x21=some r->g x0 x1 x2 x3 x4 x5 x6 x7 x8 x9 x10 x11 x12 x13 x14 x15 x16 x17 x18 x19 x20 x21=some r
abbrev E49 {a0 a1 a2 a3 a4 a5 a6 a7 a8 a9 a10 a11 a12 a13 a14 a15 a16 a17 a18 a19 a20 a21 a22 a23 a24 a25 a26 a27 a28 a29 a30 a31 a32 a33 a34 a35 a36 a37 a38 a39 a40 a41 a42 a43 a44 a45 a46 a47 a48 o:Type} (f g:a0->a1->a2->a3->a4->a5->a6->a7->a8->a9->a10->a11->a12->a13->a14->a15->a16->a17->a18->a19->a20->a21->a22->a23->a24->a25->a26->a27->a28->a29->a30->a31->a32->a33->a34->a35->a36->a37->a38->a39->a40->a41->a42->a43->a44->a45->a46->a47->a48->Option o):Prop:=∀{x0 x1 x2 x3 x4 x5 x6 x7 x8 x9 x10 x11 x12 x13 x14 x15 x16 x17 x18 x19 x20 x21 x22 x23 x24 x25 x26 x27 x28 x29 x30 x31 x32 x33 x34 x35 x36 x37 x38 x39 x40 x41 x42 x43 x44 x45 x46 x47 x48 r},f x0 x1 x2 x3 x4 x5 x6 x7 x8 x9 x10 x11 x12 x13 x14 x15 x16 x17 x18 x19 x20 x21 x22 x23 x24 x25 x26 x27 x28 x29 x30 x31 x32 x33 x34 x35 x36 x37 x38 x39 x40 x41 x42 x43 x44 x45 x46 x47 x48=some r->g x0 x1 x2 x3 x4 x5 x6 x7 x8 x9 x10 x11 x12 x13 x14 x15 x16 x17 x18 x19 x20 x21 x22 x23 x24 x25 x26 x27 x28 x29 x30 x31 x32 x33 x34 x35 x36 x37 x38 x39 x40 x41 x42 x43 x44 x45 x46 x47 x48=some r
end Go.Proofs.YtmlcmoaonaomfaaGreatDoor
