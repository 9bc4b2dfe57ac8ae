/- Functions and loops that are run where they are called: entries of the tables without a tree of their own. -/
import Derived.Test.YtmlcmoaonaomfaaGreatDoorGB
import Derived.Test.YtmlcmoaonaomfaaGreatDoorH4
namespace Go.Proofs.YtmlcmoaonaomfaaGreatDoor
open Go.RowKit
section
variable {P:Program} {live:FuncId->Nat->List Nat} {X:XT}
noncomputable def inlC (β:Type) {f nt:Nat} (es:List (Ent P live X)) (hs:List (HEnt P live X)) (ls:List (LEnt P live X f nt)) (c:Code) (s:LS) (k:Nat×LS->Oq β):Oq β :=
 codeL P (ioB live) (live f) (look P live X β es) (lookH P live X β hs) nt (lookL P live X β ls false) (lookL P live X β ls true) c s k
theorem qo1 {β:Type} {f nt:Nat} {es:List (Ent P live X)} {hs:List (HEnt P live X)} {ls:List (LEnt P live X f nt)} {c:Code} (hd:allDraw P (ioB live) (live f) c=true) (hl:allL P live X ls false (loopsOf (live f) c)) (hg:allL P live X ls true (segsOf (live f) c))
  {s:LS} {k:Nat×LS->Oq β} {r:β} (h:inlC β es hs ls c s k=some r):∃ n s',stepC P (live f) (CallT P live X) nt (Exec P live X f nt) c s.st=some (n,s'.st)/\k (n,s')=some r :=
 qb7 P (call:=CallT P live X) (λf a k r=>qr2 P live X es f a k r) (qr0 P live X hs) c hd (q2g P live X hl) (q2g P live X hg) _ _ _ h
noncomputable def inlF (f : FuncId) (key : List Nat) (fn : Func) (c : Code) (es : List (Ent P live X)) (hs : List (HEnt P live X)) (ls : List (LEnt P live X f fn.ntmps)) (hf : P.funcs[f]? = some fn) (hb : fn.body = some c) (hn : (fn.name == "runtime.NumGoroutine") = false) (hX : ∀ a, X.c f a = none)
  (hd:allDraw P (ioB live) (live f) c=true) (hl:allL P live X ls false (loopsOf (live f) c)) (hg:allL P live X ls true (segsOf (live f) c)):Ent P live X where
 f:=f
 key:=key
 run β a k:=bif decide (a.length<=fn.ntmps) then inlC β es hs ls c ⟨en a 0,[],[],[]⟩ (λy=>(endF P (fzL live f) fn (y.1,y.2.st)).bind k) else none
 ok {β a k r} h:=by
  cases ha:decide (a.length<=fn.ntmps) with
  |false=>rw [ha] at h;cases h
  |true =>
  rw [ha,x22q] at h
  obtain ⟨n,s',h1,h2⟩:=qo1 hd hl hg h
  cases he:endF P (fzL live f) fn (n,s'.st) with
  |none=>simp only [he] at h2;cases h2
  |some z =>
   simp only [he,x0q] at h2
   have hc:Call P live X f a=some z:=qe hf hb hn (hX a) ha (by rw [st0_eq,h1];simp only [x0q,he])
   rw [hc]
   exact h2
noncomputable def unrL (β:Type) {f nt:Nat} (es:List (Ent P live X)) (hs:List (HEnt P live X)) (ls:List (LEnt P live X f nt)) (c:Code):Nat->LS->(Nat×LS->Oq β)->Oq β
 |0,_,_=>none
 |n+1,s,k=>canK (headOf live f c) (headS live f c s.st) λl=>inlC β es hs ls c l λy=>match y with
  |(0,l)=>unrL β es hs ls c n l k
  |(m+1,l)=>k (m+1,l)
noncomputable def inlL (f nt id:Nat) (c:Code) (es:List (Ent P live X)) (hs:List (HEnt P live X)) (ls:List (LEnt P live X f nt)) (n:Nat) (hd:allDraw P (ioB live) (live f) c=true) (hl:allL P live X ls false (loopsOf (live f) c)) (hg:allL P live X ls true (segsOf (live f) c)):LEnt P live X f nt where
 g:=false
 id:=id
 c:=c
 run β s k:=unrL β es hs ls c n s k
 ok {β s k r} h:=by
  simp only [semL]
  induction n generalizing s with
  |zero=>cases h
  |succ n ih =>
   unfold unrL at h
   obtain ⟨l1,h1,h2⟩:=q92 h
   obtain ⟨m,s',h3,h4⟩:=qo1 hd hl hg h2
   rw [q18d,h1]
   unfold loopFrom
   rw [h3]
   simp only [x0q]
   cases m with
   |zero =>
    simp only [x20q]
    obtain ⟨m,s2,h5,h6⟩:=ih h4
    exact ⟨m,s2,qn P live X h5,h6⟩
   |succ m =>
    simp only [Nat.succ_ne_zero,x21q]
    exact ⟨_,_,rfl,h4⟩
noncomputable def inlG (f nt id:Nat) (c:Code) (es:List (Ent P live X)) (hs:List (HEnt P live X)) (ls:List (LEnt P live X f nt)) (hne:(cutL (live f) c).isEmpty=false) (hd:allDraw P (ioB live) (live f) c=true) (hl:allL P live X ls false (loopsOf (live f) c)) (hg:allL P live X ls true (segsOf (live f) c)):LEnt P live X f nt where
 g:=true
 id:=id
 c:=c
 run β s k:=canK (cutL (live f) c) s.st λl=>inlC β es hs ls c l k
 ok {β s k r} h:=by
  obtain ⟨l1,h1,h2⟩:=q92 h
  obtain ⟨m,s',h3,h4⟩:=qo1 hd hl hg h2
  refine ⟨m,s',?_,h4⟩
  simp only [semL]
  have e:cutS (live f) c s.st=l1.st:=by
   unfold cutS
   rw [←h1]
   cases hc:cutL (live f) c with
   |nil=>rw [hc] at hne;cases hne
   |cons a l=>rfl
  rw [e]
  exact h3
noncomputable def inlH (f:FuncId) (key:List Nat) (fn:Func) (c:Code) (es:List (Ent P live X)) (hs:List (HEnt P live X)) (ls:List (LEnt P live X f fn.ntmps)) (hb:bodyOf P f=some fn) (hc:fn.body=some c) (hdf:dfB live f=false)
  (hd:allDraw P (ioB live) (live f) c=true) (hl:allL P live X ls false (loopsOf (live f) c)) (hg:allL P live X ls true (segsOf (live f) c)):HEnt P live X where
 f:=f
 key:=key
 run β s k:=inlC β es hs ls c s (λy=>if y.1<=1 then (resV P fn y.2.st).bind λvs=>(finH (fzL live f) y.2.st vs).bind λz=>canK (List.range z.1.length) { z.2 with t:=λi=>z.1.getD i .any } λls=>k (oneOrTup ((List.range z.1.length).map ls.st.t),ls.st) else none)
 ok {β s k r} h:=by
  obtain ⟨n,s',h1,h2⟩:=qo1 hd hl hg h
  have h3:=qn P live X h1
  unfold heapFrom
  rw [hb]
  simp only [x0q,hc,hdf,cond_false,h3]
  simp only at h2
  split at h2
  case isFalse=>cases h2
  rename_i hn
  simp only [hn,x20q]
  cases hv:resV P fn s'.st with
  |none=>rw [hv] at h2;cases h2
  |some vs =>
   rw [hv] at h2
   simp only [x0q] at h2 ⊢
   cases hz:finH (fzL live f) s'.st vs with
   |none=>rw [hz] at h2;cases h2
   |some z =>
   rw [hz] at h2
   simp only [x0q] at h2
   obtain ⟨l1,e1,h2⟩:=q92 h2
   have e1':endN z.1 z.2=l1.st:=e1
   exact ⟨_,by simp only [x18q,e1'],h2⟩
end
end Go.Proofs.YtmlcmoaonaomfaaGreatDoor
namespace Go.Proofs.YtmlcmoaonaomfaaGreatDoor
open Go.RowKit
set_option maxRecDepth 1000000 in
theorem q159:callD Tryz.prog (fzL lv) X0.c (execD Tryz.prog lv X0 200) 7 []=some (.c (.bool true),[]):=by kernel_rfl
noncomputable def bodS (x:List Int):Oq (List Int):=(bodP (qcy.encL x)).bind λr=>if qcy.isL r=true then some (qcy.decL r) else none
def bod_ca:=qpl (vC (cSl qcy))
def bod_cr:Cod (V×List B) (List Int):=cFstU (cPair (vC (cSl qcy)) qpk)
theorem q80 (x r:List Int) (h:bodS x=some r):Call Tryz.prog lv X0 82 (bod_ca.enc x)=some (bod_cr.enc r):=by
 unfold bodS at h
 cases hb:bodP (qcy.encL x) with
 |none=>rw [hb] at h;cases h
 |some q =>
  rw [hb,x0q] at h
  split at h
  case isFalse=>cases h
  rename_i hq
  injection h with h
  have:X0.c 82 (bod_ca.enc x)=some (bod_cr.enc r):=by
   show (bodP (qcy.encL x)).map (λr=>((.c (.sl r),[]):V×List B))=_
   rw [hb,←h]
   show some ((.c (.sl q),[]):V×List B)=some (.c (.sl (qcy.encL (qcy.decL q))),[])
   rw [EC.encL_decL _ hq]
  unfold Call callD
  rw [this]
noncomputable def bod_e:=entS Tryz.prog lv X0 82 [] bod_ca bod_cr bodS q80
def catS (ls:List (List S71)):Oq (Nat×List S71):=if ls.flatten.length<=1000000 then some (ls.flatten.length,ls.flatten) else none
theorem qh5 (l:List S71):(qd0.encL l).all fldB=true:=by
 rw [List.all_eq_true]
 intro e he
 obtain ⟨x,_,rfl⟩:=List.mem_map.1 he
 rfl
theorem qaf:∀ ls:List (List S71),catL (qct.encL ls)=some (qd0.encL ls.flatten)
 |[]=>rfl
 |l::ls=>by
  have e:qct.encL (l::ls)=[.sl (qd0.encL l)]::qct.encL ls:=rfl
  rw [e]
  show (if (qd0.encL l).all fldB=true then (catL (qct.encL ls)).map (qd0.encL l++·) else none)=_
  rw [if_pos (qh5 l),qaf ls]
  simp [EC.encL]
def qaj:=qpl (vC (cSl qct))
def qal:Cod (V×List B) (Nat×List S71):=cPair (vRow 0) (qpl (bRow qd0))
theorem qak (x:List (List S71)) (r:Nat×List S71) (h:catS x=some r):Call Tryz.prog lv X0 53 (qaj.enc x)=some (qal.enc r):=by
 unfold catS at h
 split at h
 case isFalse=>cases h
 rename_i hl
 injection h with h
 subst h
 have:X0.c 53 (qaj.enc x)=some (qal.enc (x.flatten.length,x.flatten)):=by
  show (catP (qct.encL x)).map (λr=>((.row 0 r.length,[.row r]):V×List B))=_
  unfold catP
  rw [qaf,x0q,x27q,if_pos hl]
  show some ((.row 0 (qd0.encL x.flatten).length,[.row (qd0.encL x.flatten)]):V×List B)=_
  rw [x27q]
  rfl
 unfold Call callD
 rw [this]
noncomputable def catf_e:=entS Tryz.prog lv X0 53 [] qaj qal catS qak
def scr_ca:Cod (List V) Unit:=qpk
def scr_cr:Cod (V×List B) Bool:=cFstU (cPair (vC cBool) qpk)
def scrS:Oq Bool:=some true
theorem q158 (x:Unit) (r:Bool) (h:scrS=some r):Call Tryz.prog lv X0 7 (scr_ca.enc x)=some (scr_cr.enc r):=by
 cases r with
 |true=>exact qf q159
 |false=>unfold scrS at h;cases h
noncomputable def scr_e:=entS Tryz.prog lv X0 7 [] scr_ca scr_cr (λ_=>scrS) q158
theorem q1a0 (l:List BA):strsOf (qd2.encL l)=some l:=by
 induction l with
 |nil=>rfl
 |cons s l ih =>
  have e:qd2.encL (s::l)=[.str s]::qd2.encL l:=rfl
  rw [e]
  simp only [strsOf,ih,x18q]
def qp7:=qpj (vC (cSl qd2)) (qpl (vC cStr))
def qpa:Cod (V×List B) BA:=cFstU (cPair (vC cStr) qpk)
theorem qp8 (x:List BA×BA) (r:BA) (h:joinP x.1 x.2=some r):Call Tryz.prog lv X0 50 (qp7.enc x)=some (qpa.enc r):=by
 have:X0.c 50 (qp7.enc x)=some (qpa.enc r):=by
  show ((strsOf (qd2.encL x.1)).bind λl=>(joinP l x.2).map λb=>((V.c (.str b),[]):V×List B))=_
  rw [q1a0]
  simp only [x0q,h]
  rfl
 unfold Call callD
 rw [this]
noncomputable def join_e:=entS Tryz.prog lv X0 50 [] qp7 qpa (λx=>joinP x.1 x.2) qp8
noncomputable def tabx:=join_e::bod_e::catf_e::scr_e::q1as
set_option maxRecDepth 100000
noncomputable section
def q95:=inlF 48 [] Tryz.f48 (cdF Tryz.f48) tabx qml [] Tryz.func48 rfl (by kernel_rfl) (λ_=>rfl) (by kernel_rfl) trivial trivial
def q1ao:=q95::tabx
abbrev z1n:=(qpj (vAgg (qpj (vC (cSl qd0)) (qpl (vC (cSl qcy))))) (qpj (vC cStr) (qpj (vC (cInt .u64)) (qpl (vC (cSl qd2))))))
def q17h:=z1n
def q17i:Cod (V×List B) (BA×Bool):=(cFstU (cPair (vTup (qpj (vC cStr) (qpl (vC cBool)))) qpk))
def q17l (qre:L71) (qra:(List Int)) (domain:BA) (key:Int) (names:LB):=fS Tryz.prog lv X0 27 q17h q17i ((qre,qra),domain,key,names)
def q17m (qre:L71) (qra:(List Int)) (domain:BA) (key:Int) (names:LB):Oq (BA×Bool) :=
 (brE (decide ((lN qcy qra:Int)>12000))
 ((q62 1 (-1)).bind λr0 =>
 (gL qd0 qre<|
 (gL qd2 names<|
 ((q9p (dL qd0 qre) (dL qd2 names)).bind λr1 =>
 ((q5w r0.1 r0.2).bind λr2 =>
 (brE (r2==false)
 ((q5w r1.1.2.1 r1.1.2.2).bind λr3 =>
 (brE r3
 (some (⟨#[]⟩,false))
 (brE (decide (((((ByteArray.size (ByteArray.mk (List.toArray [100,61])))+domain.size):Nat):Int)>(Go.IntKind.max Go.IntKind.i64)))
 none
 (brE (decide (((((ByteArray.size ((ByteArray.mk (List.toArray [100,61]))++domain))+(ByteArray.size (ByteArray.mk (List.toArray [59,32,104,61])))):Nat):Int)>(Go.IntKind.max Go.IntKind.i64)))
 none
 (gL qd2 names<|
 ((joinP (dL qd2 names) (ByteArray.mk (List.toArray [58]))).bind λr4 =>
 (brE (decide (((((ByteArray.size (((ByteArray.mk (List.toArray [100,61]))++domain)++(ByteArray.mk (List.toArray [59,32,104,61]))))+r4.size):Nat):Int)>(Go.IntKind.max Go.IntKind.i64)))
 none
 (brE (decide (((((ByteArray.size ((((ByteArray.mk (List.toArray [100,61]))++domain)++(ByteArray.mk (List.toArray [59,32,104,61])))++r4))+(ByteArray.size (ByteArray.mk (List.toArray [59,32,98,61])))):Nat):Int)>(Go.IntKind.max Go.IntKind.i64)))
 none
 ((q178 key (EC.decL qcy [])).bind λr5 =>
 ((q16p r5).bind λr6 =>
 (brE (decide (((((ByteArray.size (((((ByteArray.mk (List.toArray [100,61]))++domain)++(ByteArray.mk (List.toArray [59,32,104,61])))++r4)++(ByteArray.mk (List.toArray [59,32,98,61]))))+r6.size):Nat):Int)>(Go.IntKind.max Go.IntKind.i64)))
 none
 (brE (decide (((((ByteArray.size ((((((ByteArray.mk (List.toArray [100,61]))++domain)++(ByteArray.mk (List.toArray [59,32,104,61])))++r4)++(ByteArray.mk (List.toArray [59,32,98,61])))++r6))+(ByteArray.size (ByteArray.mk (List.toArray [59,32,115,61])))):Nat):Int)>(Go.IntKind.max Go.IntKind.i64)))
 none
 (gdE ((((aL (List.map (λ(b:UInt8)=>[(byteC b)]) (Array.toList (ByteArray.data (((((((ByteArray.mk (List.toArray [100,61]))++domain)++(ByteArray.mk (List.toArray [59,32,104,61])))++r4)++(ByteArray.mk (List.toArray [59,32,98,61])))++r6)++(ByteArray.mk (List.toArray [59,32,115,61])))))) 1)&&(aL (EC.encL qcy r1.2) 1))&&(dQ (r1.1.1+(List.length (List.map (λ(b:UInt8)=>[(byteC b)]) (Array.toList (ByteArray.data (((((((ByteArray.mk (List.toArray [100,61]))++domain)++(ByteArray.mk (List.toArray [59,32,104,61])))++r4)++(ByteArray.mk (List.toArray [59,32,98,61])))++r6)++(ByteArray.mk (List.toArray [59,32,115,61])))))))) 1))&&(decide ((r1.1.1+(List.length (List.map (λ(b:UInt8)=>[(byteC b)]) (Array.toList (ByteArray.data (((((((ByteArray.mk (List.toArray [100,61]))++domain)++(ByteArray.mk (List.toArray [59,32,104,61])))++r4)++(ByteArray.mk (List.toArray [59,32,98,61])))++r6)++(ByteArray.mk (List.toArray [59,32,115,61]))))))))<=9223372036854775807)))<|
 (gdE (EC.isL qcy ((EC.encL qcy r1.2)++(List.map (λ(b:UInt8)=>[(byteC b)]) (Array.toList (ByteArray.data (((((((ByteArray.mk (List.toArray [100,61]))++domain)++(ByteArray.mk (List.toArray [59,32,104,61])))++r4)++(ByteArray.mk (List.toArray [59,32,98,61])))++r6)++(ByteArray.mk (List.toArray [59,32,115,61]))))))))<|
 (Option.bind (q178 key (EC.decL qcy ((EC.encL qcy r1.2)++(List.map (λ(b:UInt8)=>[(byteC b)]) (Array.toList (ByteArray.data (((((((ByteArray.mk (List.toArray [100,61]))++domain)++(ByteArray.mk (List.toArray [59,32,104,61])))++r4)++(ByteArray.mk (List.toArray [59,32,98,61])))++r6)++(ByteArray.mk (List.toArray [59,32,115,61]))))))))) λr7 =>
 ((q16p r7).bind λr8 =>
 (brE (decide (((((ByteArray.size (((((((ByteArray.mk (List.toArray [100,61]))++domain)++(ByteArray.mk (List.toArray [59,32,104,61])))++r4)++(ByteArray.mk (List.toArray [59,32,98,61])))++r6)++(ByteArray.mk (List.toArray [59,32,115,61]))))+r8.size):Nat):Int)>(Go.IntKind.max Go.IntKind.i64)))
 none
 (some (((((((((ByteArray.mk (List.toArray [100,61]))++domain)++(ByteArray.mk (List.toArray [59,32,104,61])))++r4)++(ByteArray.mk (List.toArray [59,32,98,61])))++r6)++(ByteArray.mk (List.toArray [59,32,115,61])))++r8),true)))))))))))))))))))
 (some (⟨#[]⟩,false))))))))
 (gL qcy qra<|
 ((bodS (dL qcy qra)).bind λr0 =>
 (Option.bind q73 λr1 =>
 (gL qd0 qre<|
 (gL qd2 names<|
 ((q9p (dL qd0 qre) (dL qd2 names)).bind λr2 =>
 ((q5w r1.1 r1.2).bind λr3 =>
 (brE (r3==false)
 ((q5w r2.1.2.1 r2.1.2.2).bind λr4 =>
 (brE r4
 (some (⟨#[]⟩,false))
 (brE (decide (((((ByteArray.size (ByteArray.mk (List.toArray [100,61])))+domain.size):Nat):Int)>(Go.IntKind.max Go.IntKind.i64)))
 none
 (brE (decide (((((ByteArray.size ((ByteArray.mk (List.toArray [100,61]))++domain))+(ByteArray.size (ByteArray.mk (List.toArray [59,32,104,61])))):Nat):Int)>(Go.IntKind.max Go.IntKind.i64)))
 none
 (gL qd2 names<|
 ((joinP (dL qd2 names) (ByteArray.mk (List.toArray [58]))).bind λr5 =>
 (brE (decide (((((ByteArray.size (((ByteArray.mk (List.toArray [100,61]))++domain)++(ByteArray.mk (List.toArray [59,32,104,61]))))+r5.size):Nat):Int)>(Go.IntKind.max Go.IntKind.i64)))
 none
 (brE (decide (((((ByteArray.size ((((ByteArray.mk (List.toArray [100,61]))++domain)++(ByteArray.mk (List.toArray [59,32,104,61])))++r5))+(ByteArray.size (ByteArray.mk (List.toArray [59,32,98,61])))):Nat):Int)>(Go.IntKind.max Go.IntKind.i64)))
 none
 (gL qcy r0<|
 ((q178 key (dL qcy r0)).bind λr6 =>
 ((q16p r6).bind λr7 =>
 (brE (decide (((((ByteArray.size (((((ByteArray.mk (List.toArray [100,61]))++domain)++(ByteArray.mk (List.toArray [59,32,104,61])))++r5)++(ByteArray.mk (List.toArray [59,32,98,61]))))+r7.size):Nat):Int)>(Go.IntKind.max Go.IntKind.i64)))
 none
 (brE (decide (((((ByteArray.size ((((((ByteArray.mk (List.toArray [100,61]))++domain)++(ByteArray.mk (List.toArray [59,32,104,61])))++r5)++(ByteArray.mk (List.toArray [59,32,98,61])))++r7))+(ByteArray.size (ByteArray.mk (List.toArray [59,32,115,61])))):Nat):Int)>(Go.IntKind.max Go.IntKind.i64)))
 none
 (gdE ((((aL (List.map (λ(b:UInt8)=>[(byteC b)]) (Array.toList (ByteArray.data (((((((ByteArray.mk (List.toArray [100,61]))++domain)++(ByteArray.mk (List.toArray [59,32,104,61])))++r5)++(ByteArray.mk (List.toArray [59,32,98,61])))++r7)++(ByteArray.mk (List.toArray [59,32,115,61])))))) 1)&&(aL (EC.encL qcy r2.2) 1))&&(dQ (r2.1.1+(List.length (List.map (λ(b:UInt8)=>[(byteC b)]) (Array.toList (ByteArray.data (((((((ByteArray.mk (List.toArray [100,61]))++domain)++(ByteArray.mk (List.toArray [59,32,104,61])))++r5)++(ByteArray.mk (List.toArray [59,32,98,61])))++r7)++(ByteArray.mk (List.toArray [59,32,115,61])))))))) 1))&&(decide ((r2.1.1+(List.length (List.map (λ(b:UInt8)=>[(byteC b)]) (Array.toList (ByteArray.data (((((((ByteArray.mk (List.toArray [100,61]))++domain)++(ByteArray.mk (List.toArray [59,32,104,61])))++r5)++(ByteArray.mk (List.toArray [59,32,98,61])))++r7)++(ByteArray.mk (List.toArray [59,32,115,61]))))))))<=9223372036854775807)))<|
 (gdE (EC.isL qcy ((EC.encL qcy r2.2)++(List.map (λ(b:UInt8)=>[(byteC b)]) (Array.toList (ByteArray.data (((((((ByteArray.mk (List.toArray [100,61]))++domain)++(ByteArray.mk (List.toArray [59,32,104,61])))++r5)++(ByteArray.mk (List.toArray [59,32,98,61])))++r7)++(ByteArray.mk (List.toArray [59,32,115,61]))))))))<|
 (Option.bind (q178 key (EC.decL qcy ((EC.encL qcy r2.2)++(List.map (λ(b:UInt8)=>[(byteC b)]) (Array.toList (ByteArray.data (((((((ByteArray.mk (List.toArray [100,61]))++domain)++(ByteArray.mk (List.toArray [59,32,104,61])))++r5)++(ByteArray.mk (List.toArray [59,32,98,61])))++r7)++(ByteArray.mk (List.toArray [59,32,115,61]))))))))) λr8 =>
 ((q16p r8).bind λr9 =>
 (brE (decide (((((ByteArray.size (((((((ByteArray.mk (List.toArray [100,61]))++domain)++(ByteArray.mk (List.toArray [59,32,104,61])))++r5)++(ByteArray.mk (List.toArray [59,32,98,61])))++r7)++(ByteArray.mk (List.toArray [59,32,115,61]))))+r9.size):Nat):Int)>(Go.IntKind.max Go.IntKind.i64)))
 none
 (some (((((((((ByteArray.mk (List.toArray [100,61]))++domain)++(ByteArray.mk (List.toArray [59,32,104,61])))++r5)++(ByteArray.mk (List.toArray [59,32,98,61])))++r7)++(ByteArray.mk (List.toArray [59,32,115,61])))++r9),true))))))))))))))))))))
 (some (⟨#[]⟩,false)))))))))))
theorem q17k {qre qra domain key names r} (h:q17m qre qra domain key names=some r):q17l qre qra domain key names=some r :=
 qg7 (es:=q1ao) (hs:=qml) [] Tryz.func27 rfl (by kernel_rfl) rfl (by kernel_rfl) (by kernel_rfl) trivial trivial (by kernel_rfl) h
def q17j:=entS Tryz.prog lv X0 27 [] q17h q17i (λx=>q17l x.1.1 x.1.2 x.2.1 x.2.2.1 x.2.2.2) (λ_ _ h=>qg5 h)
def q1cg:=q17j::q1ao
def q1di:=(qpj (vAgg (qpj (vC (cSl qd0)) (qpl (vC (cSl qcy))))) (qpj (vC cStr) (qpl (vC cStr))))
def q1dj:Cod (V×List B) ((Nat×Nat)×((List S71)×(List Int))):=(cPair (vAgg (qpj (vRow 0) (qpl (vRow 1)))) (qpj (bRow qd0) (qpl (bRow qcy))))
def q1dm (qre:L71) (qra:(List Int)) (name value:BA):=fS Tryz.prog lv X0 28 q1di q1dj ((qre,qra),name,value)
def q1dn (qre:L71) (qra:(List Int)) (name value:BA):Oq ((Nat×Nat)×(L71×(List Int))) :=
 (gdE (EC.isL qct [[(C.sl [[(C.str name),(C.str value)]])],[(C.sl (EC.encL qd0 qre))]])<|
 ((catS (EC.decL qct [[(C.sl [[(C.str name),(C.str value)]])],[(C.sl (EC.encL qd0 qre))]])).bind λr0 =>
 (gL qcy qra<|
 ((qb3 (dL qcy qra)).bind λr1 =>
 (gL qd0 r0.2<|
 (gL qcy r1.2<|
 (some ((r0.1,r1.1),((dL qd0 r0.2),(dL qcy r1.2))))))))))
theorem q1dl {qre qra name value r} (h:q1dn qre qra name value=some r):q1dm qre qra name value=some r :=
 qg7 (es:=q1cg) (hs:=qml) [] Tryz.func28 rfl (by kernel_rfl) rfl (by kernel_rfl) (by kernel_rfl) trivial trivial (by kernel_rfl) h
def q1dk:=entS Tryz.prog lv X0 28 [] q1di q1dj (λx=>q1dm x.1.1 x.1.2 x.2.1 x.2.2) (λ_ _ h=>qg5 h)
def q1cp:=q1dk::q1cg
def q16r:=z1n
def q16s:Cod (V×List B) (((Nat×Nat)×(Int×Int))×((List S71)×(List Int))):=(cPair (vTup (qpj (vAgg (qpj (vRow 0) (qpl (vRow 1)))) (qpl (vAgg (qpj (vC (cInt .i64)) (qpl (vC (cInt .i64)))))))) (qpj (bRow qd0) (qpl (bRow qcy))))
def q16v (qre:L71) (qra:(List Int)) (domain:BA) (key:Int) (names:LB):=fS Tryz.prog lv X0 9 q16r q16s ((qre,qra),domain,key,names)
def q16w (qre:L71) (qra:(List Int)) (domain:BA) (key:Int) (names:LB):Oq (((Nat×Nat)×(Int×Int))×(L71×(List Int))) :=
 (gL qd0 qre<|
 (gL qcy qra<|
 ((qrw (dL qd0 qre) (dL qcy qra)).bind λr0 =>
 ((q5w r0.1 r0.2).bind λr1 =>
 (brE r1
 (some (((0,0),(r0.1,r0.2)),((EC.decL qd0 []),(EC.decL qcy []))))
 ((q7f domain).bind λr2 =>
 (brE (!r2)
 ((q62 10 (-20)).bind λr3 =>
 (some (((0,0),(r3.1,r3.2)),((EC.decL qd0 []),(EC.decL qcy [])))))
 (gL qd2 names<|
 ((q17e (dL qd2 names)).bind λr3 =>
 (brE (!r3)
 ((q62 10 (-21)).bind λr4 =>
 (some (((0,0),(r4.1,r4.2)),((EC.decL qd0 []),(EC.decL qcy [])))))
 (gL qd0 qre<|
 (gL qcy qra<|
 (gL qd2 names<|
 ((q17l (dL qd0 qre) (dL qcy qra) domain key (dL qd2 names)).bind λr4 =>
 (brE (!r4.2)
 ((q62 17 (-22)).bind λr5 =>
 (some (((0,0),(r5.1,r5.2)),((EC.decL qd0 []),(EC.decL qcy [])))))
 (gL qd0 qre<|
 (gL qcy qra<|
 ((q1dm (dL qd0 qre) (dL qcy qra) (ByteArray.mk (List.toArray [77,97,105,108,45,83,105,103,110,97,116,117,114,101])) r4.1).bind λr5 =>
 (gL qd0 r5.2.1<|
 (gL qcy r5.2.2<|
 ((qrw (dL qd0 r5.2.1) (dL qcy r5.2.2)).bind λr6 =>
 ((q5w r6.1 r6.2).bind λr7 =>
 (brE r7
 ((q62 r6.1 (-23)).bind λr8 =>
 (some (((0,0),(r8.1,r8.2)),((EC.decL qd0 []),(EC.decL qcy [])))))
 (Option.bind q73 λr8 =>
 (gL qd0 r5.2.1<|
 (gL qcy r5.2.2<|
 (some (((r5.1.1,r5.1.2),(r8.1,r8.2)),((dL qd0 r5.2.1),(dL qcy r5.2.2))))))))))))))))))))))))))))))
theorem q16u {qre qra domain key names r} (h:q16w qre qra domain key names=some r):q16v qre qra domain key names=some r :=
 qg7 (es:=q1cp) (hs:=qml) [] Tryz.func9 rfl (by kernel_rfl) rfl (by kernel_rfl) (by kernel_rfl) trivial trivial (by kernel_rfl) h
def q16t:=entS Tryz.prog lv X0 9 [] q16r q16s (λx=>q16v x.1.1 x.1.2 x.2.1 x.2.2.1 x.2.2.2) (λ_ _ h=>qg5 h)
def q1cd:=q16t::q1cp
end
def sigL:BA:=ByteArray.mk (List.toArray [109,97,105,108,45,115,105,103,110,97,116,117,114,101])
def noB:BA:=ByteArray.mk (List.toArray [])
def scrE (b:BA):List (List C):=[[.int .i64 1,.int .i64 2,.sl [[.int .i64 9,.sl [],.str sigL,.int .i64 0,.str noB,.int .i64 0]],.str noB,.int .i64 0,.str noB,.int .i64 0,.sl [[.int .i64 2,.int .i64 0,.sl [],.str noB,.int .i64 0,.str noB,.int .i64 0,.sl [],.sl [],.int .i64 2,.str noB,.str b,.int .i64 0]],.sl [],.int .i64 0,.str noB,.str noB,.int .i64 0]]
theorem q157 {a b:BA} (h:scrE a=scrE b):a=b:=by
 unfold scrE at h
 simpa using h
open Classical in
noncomputable def cScr:Cod C BA where
 enc b:=.sl (scrE b)
 dec _ r f:=if h:∃ b,r=.sl (scrE b) then f (Classical.choose h) else none
 ok:=by
  intro β r k b h
  by_cases hx:∃ b,r=.sl (scrE b)
  ·rw [dif_pos hx] at h
   exact ⟨_,Classical.choose_spec hx,h⟩
  ·rw [dif_neg hx] at h
   cases h
 inj:=λh=>q157 (by injection h)
end Go.Proofs.YtmlcmoaonaomfaaGreatDoor
