/- The tokens of a text, and what a text of a script says: in plain words. -/
import Derived.Test.YtognhcibcocbkaaGreatDoorZ26
import Derived.Lib.ItoaNum
namespace Go.Proofs.YtognhcibcocbkaaGreatDoor
open Go.RowKit
structure Tok where
 k:Nat
 s:List UInt8
 o:Nat
def wsB (c:UInt8):Bool:=c==32||c==9||c==13||c==10
def wsN (l:List UInt8):Nat:=(l.takeWhile wsB).length
def strq:List UInt8→Option (List UInt8×Nat)
 |[]=>none
 |[c]=>if c=34 then some ([],1) else none
 |c::d::r=>if c=34 then some ([],1) else if c=92 then (if d=34∨d=92 then (strq r).map fun x=>(d::x.1,x.2+2) else none) else (strq (d::r)).map fun x=>(c::x.1,x.2+1)
def lexT:List UInt8→(Nat×List UInt8)×Nat
 |[]=>((0,[]),0)
 |c::r=>if c=34 then (match strq r with|some x=>((1,x.1),x.2+1)|none=>((5,[]),0))
  else if letterB c=true then ((2,c::r.takeWhile smallB),(r.takeWhile smallB).length+1)
  else if digitB c=true then ((3,c::r.takeWhile digitB),(r.takeWhile digitB).length+1)
  else ((4,[c]),1)
def endK (k:Nat):Bool:=k==0||k==5
def toks:Nat→List UInt8→Nat→List Tok
 |0,_,_=>[]
 |f+1,l,o=>⟨(lexT (l.drop (wsN l))).1.1,(lexT (l.drop (wsN l))).1.2,o+wsN l⟩ ::
  (if endK (lexT (l.drop (wsN l))).1.1=true then [] else toks f (l.drop (wsN l+(lexT (l.drop (wsN l))).2)) (o+wsN l+(lexT (l.drop (wsN l))).2))
def thn {α β:Type} (x:Nat⊕α) (f:α→Nat⊕β):Nat⊕β:=match x with
 |.inl o=>.inl o
 |.inr a=>f a
def ofs:List Tok→Nat
 |x::_=>x.o
 |[]=>0
def isT (k:Nat) (s:List UInt8):List Tok→Bool
 |x::_=>x.k==k&&x.s==s
 |[]=>false
def sTake (k:Nat):List Tok→Nat⊕(List UInt8×List Tok)
 |x::r=>if x.k=k then .inr (x.s,r) else .inl x.o
 |[]=>.inl 0
def sNeed (s:List UInt8) (L:List Tok):Nat⊕List Tok:=if isT 4 s L=true then .inr L.tail else .inl (ofs L)
def numV (s:List UInt8):Nat:=s.foldl (fun n c=>10*n+(c.toNat - 48)) 0
def numOk (s:List UInt8):Bool:=decide (s.length≤7)&&!(decide (1<s.length)&&s.head?==some 48)
def sNum:List Tok→Nat⊕(Nat×List Tok)
 |x::r=>if x.k=3∧numOk x.s=true then .inr (numV x.s,r) else .inl x.o
 |[]=>.inl 0
def wIs:List UInt8:=[105,115]
def wContains:List UInt8:=[99,111,110,116,97,105,110,115]
def wLike:List UInt8:=[108,105,107,101]
def wTrue:List UInt8:=[116,114,117,101]
def wNot:List UInt8:=[110,111,116]
def wAll:List UInt8:=[97,108,108]
def wAny:List UInt8:=[97,110,121]
def wHeader:List UInt8:=[104,101,97,100,101,114]
def wFrom:List UInt8:=[102,114,111,109]
def wTo:List UInt8:=[116,111]
def wSize:List UInt8:=[115,105,122,101]
def wExists:List UInt8:=[101,120,105,115,116,115]
def wKeep:List UInt8:=[107,101,101,112]
def wFile:List UInt8:=[102,105,108,101]
def wDiscard:List UInt8:=[100,105,115,99,97,114,100]
def wRedirect:List UInt8:=[114,101,100,105,114,101,99,116]
def wReject:List UInt8:=[114,101,106,101,99,116]
def wFlag:List UInt8:=[102,108,97,103]
def wReply:List UInt8:=[114,101,112,108,121]
def wIf:List UInt8:=[105,102]
def wElse:List UInt8:=[101,108,115,101]
def wSet:List UInt8:=[115,101,116]
def wStop:List UInt8:=[115,116,111,112]
def matchN (s:List UInt8):Nat:=if s=wIs then 1 else if s=wContains then 2 else if s=wLike then 3 else 0
def testN (s:List UInt8):Nat:=if s=wTrue then 1 else if s=wNot then 2 else if s=wAll then 3 else if s=wAny then 4 else if s=wHeader then 5 else if s=wFrom then 6 else if s=wTo then 7 else if s=wSize then 8 else if s=wExists then 9 else 0
def actN (s:List UInt8):Nat:=if s=wKeep then 1 else if s=wFile then 2 else if s=wDiscard then 3 else if s=wRedirect then 4 else if s=wReject then 5 else if s=wFlag then 6 else if s=wReply then 7 else 0
def sMatch:List Tok→Nat⊕((Nat×List UInt8)×List Tok)
 |x::r=>if x.k=2∧matchN x.s≠0 then thn (sTake 1 r) fun y=>.inr ((matchN x.s,y.1),y.2) else .inl x.o
 |[]=>.inl 0
def baL (l:List UInt8):ByteArray:=⟨l.toArray⟩
def tst (k:Nat) (ts:List S57) (nm:List UInt8) (p:Nat) (tx:List UInt8) (n:Nat):S57:=⟨k,ts,baL nm,p,baL tx,n⟩
mutual
def sTest:Nat→Nat→List Tok→Nat⊕(S57×List Tok)
 |0,_,L=>.inl (ofs L)
 |_+1,_,[]=>.inl 0
 |f+1,d,x::r=>if 8<d∨x.k≠2 then .inl x.o else match testN x.s with
  |0=>.inl x.o
  |1=>.inr (tst 1 [] [] 0 [] 0,r)
  |2=>thn (sTest f (d+1) r) fun y=>.inr (tst 2 [y.1] [] 0 [] 0,y.2)
  |3=>thn (sNeed [40] r) fun r1=>thn (sTests f (d+1) r1) fun y=>thn (sNeed [41] y.2) fun r2=>.inr (tst 3 y.1 [] 0 [] 0,r2)
  |4=>thn (sNeed [40] r) fun r1=>thn (sTests f (d+1) r1) fun y=>thn (sNeed [41] y.2) fun r2=>.inr (tst 4 y.1 [] 0 [] 0,r2)
  |5=>thn (sTake 1 r) fun y=>thn (sMatch y.2) fun z=>.inr (tst 5 [] y.1 z.1.1 z.1.2 0,z.2)
  |6=>thn (sMatch r) fun z=>.inr (tst 6 [] [] z.1.1 z.1.2 0,z.2)
  |7=>thn (sMatch r) fun z=>.inr (tst 7 [] [] z.1.1 z.1.2 0,z.2)
  |8=>thn (sNum r) fun z=>.inr (tst 8 [] [] 0 [] z.1,z.2)
  |_=>thn (sTake 1 r) fun y=>.inr (tst 9 [] y.1 0 [] 0,y.2)
def sTests:Nat→Nat→List Tok→Nat⊕(List S57×List Tok)
 |0,_,L=>.inl (ofs L)
 |f+1,d,L=>thn (sTest f d L) fun y=>if isT 4 [44] y.2=true then thn (sTests f d y.2.tail) fun z=>.inr (y.1::z.1,z.2) else .inr ([y.1],y.2)
end
def rul (k:Nat) (t:S57) (th el:List S59) (act:Nat) (nm tx:List UInt8) (n:Nat):S59:=⟨k,t.Kind,t.Tests,t.Name,t.Pattern,t.Text,t.N,th,el,act,baL nm,baL tx,n⟩
def t0:S57:=tst 0 [] [] 0 [] 0
def stopB (x:Tok):Bool:=x.k==0||(x.k==4&&x.s==[125])
mutual
def sRule:Nat→Nat→Nat→List Tok→Nat⊕(S59×List Tok×Nat)
 |0,_,_,L=>.inl (ofs L)
 |_+1,_,_,[]=>.inl 0
 |f+1,d,m,x::r=>if 100<m+1∨8<d∨x.k≠2 then .inl x.o
  else if x.s=wIf then thn (sTest f 1 r) fun t=>thn (sBlock f (d+1) (m+1) t.2) fun b =>
   if isT 2 wElse b.2.1=true then thn (sBlock f (d+1) b.2.2 b.2.1.tail) fun e=>.inr (rul 1 t.1 b.1 e.1 0 [] [] 0,e.2.1,e.2.2)
   else .inr (rul 1 t.1 b.1 [] 0 [] [] 0,b.2.1,b.2.2)
  else if x.s=wSet then thn (sTake 2 r) fun a=>thn (sTake 1 a.2) fun b=>thn (sNeed [59] b.2) fun r1=>.inr (rul 3 t0 [] [] 0 a.1 b.1 0,r1,m+1)
  else if x.s=wStop then thn (sNeed [59] r) fun r1=>.inr (rul 4 t0 [] [] 0 [] [] 0,r1,m+1)
  else if actN x.s=0 then .inl x.o
  else if actN x.s=6 then thn (sNum r) fun a=>thn (sNeed [59] a.2) fun r1=>.inr (rul 2 t0 [] [] 6 [] [] a.1,r1,m+1)
  else if txtB (actN x.s)=true then thn (sTake 1 r) fun a=>thn (sNeed [59] a.2) fun r1=>.inr (rul 2 t0 [] [] (actN x.s) [] a.1 0,r1,m+1)
  else thn (sNeed [59] r) fun r1=>.inr (rul 2 t0 [] [] (actN x.s) [] [] 0,r1,m+1)
def sBlock:Nat→Nat→Nat→List Tok→Nat⊕(List S59×List Tok×Nat)
 |0,_,_,L=>.inl (ofs L)
 |f+1,d,m,L=>thn (sNeed [123] L) fun r=>thn (sRules f d m r) fun y=>thn (sNeed [125] y.2.1) fun r2=>.inr (y.1,r2,y.2.2)
def sRules:Nat→Nat→Nat→List Tok→Nat⊕(List S59×List Tok×Nat)
 |0,_,_,L=>.inl (ofs L)
 |_+1,_,m,[]=>.inr ([],[],m)
 |f+1,d,m,x::r=>if stopB x=true then .inr ([],x::r,m) else thn (sRule f d m (x::r)) fun y=>thn (sRules f d y.2.2 y.2.1) fun z=>.inr (y.1::z.1,z.2.1,z.2.2)
end
def fuel (t:List UInt8):Nat:=4*t.length+16
def sScript (t:List UInt8):Nat⊕List S59:=thn (sRules (fuel t) 1 0 (toks (t.length+1) t 0)) fun y=>match y.2.1 with
 |x::_=>if x.k=0 then .inr y.1 else .inl x.o
 |[]=>.inl 0
def sParse (t:List UInt8):List S59×(Int×Int):=if 4000<t.length then ([],(1,-1)) else match sScript t with
 |.inl o=>([],(11,o))
 |.inr l=>if (scriptF l).1≠0 then ([],((scriptF l).1,-2)) else (l,(0,0))
end Go.Proofs.YtognhcibcocbkaaGreatDoor
namespace Go.Proofs.YtognhcibcocbkaaGreatDoor
open Go.RowKit
def bl (s:ByteArray):List UInt8:=s.data.toList
def er (x:Tok):Nat×List UInt8:=(x.k,x.s)
def toksF (l:List UInt8) (o:Nat):List Tok:=toks (l.length+1) l o
theorem q139:∀ (n:Nat) (l:List UInt8),l.length≤n→∀ x,strq l=some x→1≤x.2∧x.2≤l.length
 |_,[],_,x,h=>by simp [strq] at h
 |_,[c],_,x,h=>by
  simp only [strq] at h
  split at h
  ·injection h with h;subst h;simp
  ·cases h
 |0,_::_::_,hl,_,_=>by simp at hl
 |n+1,c::d::r,hl,x,h=>by
  simp only [strq] at h
  simp only [List.length_cons] at hl ⊢
  split at h
  ·injection h with h;subst h;simp
  ·split at h
   ·split at h
    ·cases hr:strq r with
     |none=>rw [hr] at h;cases h
     |some y =>
      rw [hr] at h
      injection h with h;subst h
      have:=q139 n r (by omega) y hr
      simp only;omega
    ·cases h
   ·cases hr:strq (d::r) with
    |none=>rw [hr] at h;cases h
    |some y =>
     rw [hr] at h
     injection h with h;subst h
     have:=q139 n (d::r) (by simp only [List.length_cons];omega) y hr
     simp only [List.length_cons] at this ⊢;omega
theorem q14t {α:Type} (p:α→Bool):∀ l:List α,(l.takeWhile p).length≤l.length
 |[]=>by simp
 |a::l=>by
  rw [List.takeWhile_cons]
  split
  ·simp only [List.length_cons];have:=q14t p l;omega
  ·simp
theorem qc1 (l:List UInt8):(lexT l).2≤l.length∧(endK (lexT l).1.1=false→1≤(lexT l).2):=by
 cases l with
 |nil=>simp [lexT,endK]
 |cons c r =>
  simp only [lexT,List.length_cons]
  split
  ·cases hq:strq r with
   |none=>simp [endK]
   |some x =>
    have:=q139 _ r (Nat.le_refl _) x hq
    simp only;exact ⟨by omega,fun _=>by omega⟩
  ·split
   ·have:=q14t smallB r
    exact ⟨by simp only;omega,fun _=>by simp only;omega⟩
   ·split
    ·have:=q14t digitB r
     exact ⟨by simp only;omega,fun _=>by simp only;omega⟩
    ·exact ⟨by simp only;omega,fun _=>by simp only;omega⟩
theorem wsN_le (l:List UInt8):wsN l≤l.length:=q14t wsB l
theorem q15f:∀ (f:Nat) (l:List UInt8) (o:Nat),l.length<f→∀ g,l.length<g→toks f l o=toks g l o
 |0,_,_,h,_,_=>by omega
 |f+1,l,o,h,0,hg=>by omega
 |f+1,l,o,h,g+1,hg=>by
  simp only [toks]
  congr 1
  split
  ·rfl
  ·rename_i hk
   have hk':endK (lexT (l.drop (wsN l))).1.1=false:=by simpa using hk
   have h1:=qc1 (l.drop (wsN l))
   have h2:=h1.2 hk'
   have h3:=h1.1
   have h4:=wsN_le l
   rw [List.length_drop] at h3
   exact q15f f _ _ (by rw [List.length_drop];omega) g (by rw [List.length_drop];omega)
theorem q15c (l:List UInt8) (o:Nat):toksF l o=⟨(lexT (l.drop (wsN l))).1.1,(lexT (l.drop (wsN l))).1.2,o+wsN l⟩ ::
  (if endK (lexT (l.drop (wsN l))).1.1=true then [] else toksF (l.drop (wsN l+(lexT (l.drop (wsN l))).2)) (o+wsN l+(lexT (l.drop (wsN l))).2)):=by
 unfold toksF
 conv=>lhs;unfold toks
 congr 1
 split
 ·rfl
 ·rename_i hk
  have hk':endK (lexT (l.drop (wsN l))).1.1=false:=by simpa using hk
  have h1:=qc1 (l.drop (wsN l))
  have h2:=h1.2 hk'
  have h3:=h1.1
  have h4:=wsN_le l
  rw [List.length_drop] at h3
  exact q15f _ _ _ (by rw [List.length_drop];omega) _ (by omega)
theorem q15e (c:UInt8) (hc:wsB c=true) (l:List UInt8) (o:Nat):toksF (c::l) o=toksF l (o+1):=by
 have e:wsN (c::l)=wsN l+1:=by simp [wsN,hc]
 rw [q15c,q15c l]
 rw [e,List.drop_succ_cons]
 have e2:(c::l).drop (wsN l+1+(lexT (l.drop (wsN l))).2)=l.drop (wsN l+(lexT (l.drop (wsN l))).2):=by
  rw [show wsN l+1+(lexT (l.drop (wsN l))).2=(wsN l+(lexT (l.drop (wsN l))).2)+1 by omega,List.drop_succ_cons]
 rw [e2,show o+(wsN l+1)=o+1+wsN l by omega]
theorem q15d (c:UInt8) (hc:wsB c=false) (l:List UInt8) (o:Nat):toksF (c::l) o=⟨(lexT (c::l)).1.1,(lexT (c::l)).1.2,o⟩ ::
  (if endK (lexT (c::l)).1.1=true then [] else toksF ((c::l).drop (lexT (c::l)).2) (o+(lexT (c::l)).2)):=by
 have e:wsN (c::l)=0:=by simp [wsN,hc]
 rw [q15c,e]
 simp
theorem q138:∀ (s rest:List UInt8),strq (esc s++34::rest)=some (s,(esc s).length+1)
 |[],rest=>by cases rest <;> simp [esc,strq]
 |c::s,rest=>by
  simp only [esc]
  split
  ·rename_i hc
   have ih:=q138 s rest
   have h1:¬ ((92:UInt8)=34):=by decide
   simp only [List.cons_append,strq,h1,if_false,if_true,hc,ih,Option.map_some]
   simp
  ·rename_i hc
   have hc1:¬ c=34:=fun e=>hc (.inl e)
   have hc2:¬ c=92:=fun e=>hc (.inr e)
   have ih:=q138 s rest
   cases he:esc s++34::rest with
   |nil=>simp at he
   |cons d r =>
    rw [he] at ih
    simp only [List.cons_append,he,strq,hc1,hc2,if_false,ih,Option.map_some]
    simp
def safe:List UInt8→Prop
 |[]=>True
 |c::_=>smallB c=false
def Em (l:List UInt8) (ts:List (Nat×List UInt8)):Prop:=∀ rest o,safe rest→(toksF (l++rest) o).map er=ts++(toksF rest (o+l.length)).map er
def SafeL (l:List UInt8):Prop:=∀ rest,safe rest→safe (l++rest)
theorem Em.ws {c:UInt8} (hc:wsB c=true) {l:List UInt8} {ts:List (Nat×List UInt8)} (h:Em l ts):Em (c::l) ts:=fun rest o hr=>by
 rw [List.cons_append,q15e c hc,h _ _ hr]
 simp only [List.length_cons]
 rw [show o+1+l.length=o+(l.length+1) by omega]
theorem q5o {α:Type} (l r:List α):(l++r).drop l.length=r:=by simp
def EmS (l:List UInt8) (ts:List (Nat×List UInt8)):Prop:=∀ rest o,(toksF (l++rest) o).map er=ts++(toksF rest (o+l.length)).map er
theorem EmS.app {a b:List UInt8} {ta tb:List (Nat×List UInt8)} (ha:EmS a ta) (hb:Em b tb):Em (a++b) (ta++tb):=fun rest o h=>by
 rw [List.append_assoc,ha,hb _ _ h,List.append_assoc,List.length_append,Nat.add_assoc]
theorem lex_at {c:UInt8} {l rest:List UInt8} {k:Nat} {s:List UInt8} (hc:wsB c=false) (hk:endK k=false) (hl:lexT (c::(l++rest))=((k,s),l.length+1)) (o:Nat):(toksF ((c::l)++rest) o).map er=[(k,s)]++(toksF rest (o+(c::l).length)).map er:=by
 rw [List.cons_append,q15d c hc,hl]
 simp only [hk,Bool.false_eq_true,if_false,List.map_cons,er,List.drop_succ_cons,q5o,List.length_cons,List.cons_append,List.nil_append]
theorem q14s {p:UInt8→Bool}:∀ (l:List UInt8),l.all p=true→∀ rest:List UInt8,(∀ c r,rest=c::r→p c=false)→(l++rest).takeWhile p=l
 |[],_,[],_=>rfl
 |[],_,c::r,h=>by simp [h c r rfl]
 |a::l,ha,rest,h=>by
  simp only [List.all_cons,Bool.and_eq_true] at ha
  simp only [List.cons_append,List.takeWhile_cons,ha.1,if_true,q14s l ha.2 rest h]
theorem qbz {c:UInt8} (h:letterB c=true):wsB c=false∧¬ c=34:=by
 simp only [letterB,Bool.and_eq_true,decide_eq_true_eq] at h
 have h34:(34:UInt8).toNat=34:=rfl
 constructor
 ·simp only [wsB,Bool.or_eq_false_iff,beq_eq_false_iff_ne,ne_eq]
  refine ⟨⟨⟨?_,?_⟩,?_⟩,?_⟩ <;> (intro e;subst e;simp at h)
 ·intro e;subst e;simp at h
def wordB:List UInt8→Bool
 |[]=>false
 |c::r=>letterB c&&r.all smallB
theorem EmS.sign {c:UInt8} (h1:wsB c=false) (h2:¬ c=34) (h3:smallB c=false):EmS [c] [(4,[c])]:=by
 simp only [smallB,Bool.or_eq_false_iff] at h3
 refine fun rest o=>lex_at h1 rfl ?_ o
 simp only [lexT,h2,if_false,h3.1,h3.2,Bool.false_eq_true,List.length_nil]
theorem EmS.quo (s:List UInt8):EmS (quoL s) [(1,s)]:=by
 refine fun rest o=>lex_at (by decide) rfl ?_ o
 rw [List.append_assoc]
 simp only [List.singleton_append]
 simp only [lexT,if_true,q138]
 simp
theorem q59 (n:Nat):(Lib.decDigits n).all digitB=true∧Lib.decDigits n≠[]:=by
 induction n using Nat.strongRecOn with
 |_ n ih =>
  rw [Lib.decDigits]
  split
  ·rename_i h
   refine ⟨?_,by simp⟩
   simp only [List.all_cons,List.all_nil,Bool.and_true,digitB,Bool.and_eq_true,decide_eq_true_eq]
   rw [UInt8.toNat_ofNat']
   omega
  ·rename_i h
   obtain ⟨h1,_⟩:=ih (n / 10) (by omega)
   refine ⟨?_,by simp⟩
   rw [List.all_append,h1]
   simp only [List.all_cons,List.all_nil,Bool.and_true,Bool.true_and,digitB,Bool.and_eq_true,decide_eq_true_eq]
   rw [UInt8.toNat_ofNat']
   omega
theorem qcl {L:List Tok} {y:Nat×List UInt8} {M:List (Nat×List UInt8)} (h:L.map er=y::M):∃ x r,L=x::r∧x.k=y.1∧x.s=y.2∧r.map er=M:=by
 cases L with
 |nil=>cases h
 |cons x r =>
  rw [List.map_cons] at h
  injection h with h1 h2
  exact ⟨x,r,rfl,by rw [←h1];rfl,by rw [←h1];rfl,h2⟩
theorem q183 {L:List Tok} {k:Nat} {s:List UInt8} {M:List (Nat×List UInt8)} (h:L.map er=(k,s)::M):∃ r,sTake k L=.inr (s,r)∧r.map er=M∧r.length+1=L.length:=by
 obtain ⟨x,r,rfl,h1,h2,h3⟩:=qcl h
 simp only at h1 h2
 exact ⟨r,by simp only [sTake,h1,if_true,h2],h3,rfl⟩
theorem p_isT {L:List Tok} {k:Nat} {s:List UInt8} {M:List (Nat×List UInt8)} (h:L.map er=(k,s)::M):isT k s L=true∧L.tail.map er=M∧L.tail.length+1=L.length:=by
 obtain ⟨x,r,rfl,h1,h2,h3⟩:=qcl h
 simp only at h1 h2
 exact ⟨by simp [isT,h1,h2],h3,rfl⟩
theorem qdz {L:List Tok} {s:List UInt8} {M:List (Nat×List UInt8)} (h:L.map er=(4,s)::M):∃ r,sNeed s L=.inr r∧r.map er=M∧r.length+1=L.length:=by
 obtain ⟨h1,h2,h3⟩:=p_isT h
 exact ⟨L.tail,by unfold sNeed;rw [if_pos h1],h2,h3⟩
theorem qdf (a:List UInt8) (c:UInt8):numV (a++[c])=10*numV a+(c.toNat - 48):=by simp [numV,List.foldl_append]
theorem q5c:∀ (k n:Nat),n<10 ^ (k+1)→(Lib.decDigits n).length≤k+1
 |0,n,h=>by
  rw [Lib.decDigits,dif_pos (by simpa using h)]
  simp
 |k+1,n,h=>by
  rw [Lib.decDigits]
  split
  ·simp
  ·rw [List.length_append]
   have:=q5c k (n / 10) (by rw [Nat.pow_succ] at h;omega)
   simp only [List.length_singleton]
   omega
theorem q5b (n:Nat) (h:1≤n):(Lib.decDigits n).head?≠some 48:=by
 induction n using Nat.strongRecOn with
 |_ n ih =>
  rw [Lib.decDigits]
  split
  ·rename_i h1
   simp only [List.head?_cons,ne_eq,Option.some.injEq]
   intro e
   have:=congrArg UInt8.toNat e
   rw [UInt8.toNat_ofNat'] at this
   have e2:(48:UInt8).toNat=48:=rfl
   omega
  ·rename_i h1
   rw [List.head?_append]
   have:=ih (n / 10) (by omega) (by omega)
   cases hd:(Lib.decDigits (n / 10)).head? with
   |none=>rw [List.head?_eq_none_iff] at hd;exact absurd hd (q59 _).2
   |some c=>rw [hd] at this;simpa using this
def stopM (M:List (Nat×List UInt8)):Prop:=∀ x r,M=x::r→x.1=0∨x=(4,[125])
def noElse (M:List (Nat×List UInt8)):Prop:=∀ x r,M=x::r→x≠(2,wElse)
theorem q15g:∀ (f:Nat) (l:List UInt8) (o:Nat),(toks f l o).length≤f
 |0,_,_=>Nat.le_refl _
 |f+1,l,o=>by
  simp only [toks,List.length_cons]
  split
  ·simp
  ·have:=q15g f (l.drop (wsN l+(lexT (l.drop (wsN l))).2)) (o+wsN l+(lexT (l.drop (wsN l))).2)
   omega
theorem q158 {α β:Type} {x:Nat⊕α} {f:α→Nat⊕β} {b:β} (h:thn x f=.inr b):∃ a,x=.inr a∧f a=.inr b:=by
 cases x with
 |inl o=>cases h
 |inr a=>exact ⟨a,rfl,h⟩
theorem f_take {k:Nat} {L L':List Tok} {s:List UInt8} (h:sTake k L=.inr (s,L')):L.map er=(k,s)::L'.map er:=by
 cases L with
 |nil=>cases h
 |cons x r =>
  simp only [sTake] at h
  split at h
  ·rename_i hk
   injection h with h
   injection h with h1 h2
   subst h1 h2 hk
   rfl
  ·cases h
theorem q77 {s:List UInt8} {L L':List Tok} (h:sNeed s L=.inr L'):L.map er=(4,s)::L'.map er:=by
 unfold sNeed at h
 split at h
 ·rename_i hk
  injection h with h;subst h
  cases L with
  |nil=>cases hk
  |cons x r =>
   simp only [isT,Bool.and_eq_true,beq_iff_eq] at hk
   simp only [List.map_cons,List.tail_cons,er,hk.1,hk.2]
 ·cases h
theorem f_num {L L':List Tok} {n:Nat} (h:sNum L=.inr (n,L')):∃ s,numOk s=true∧numV s=n∧L.map er=(3,s)::L'.map er:=by
 cases L with
 |nil=>cases h
 |cons x r =>
  simp only [sNum] at h
  split at h
  ·rename_i hk
   injection h with h
   injection h with h1 h2
   subst h1 h2
   exact ⟨x.s,hk.2,rfl,by simp only [List.map_cons,er,hk.1]⟩
  ·cases h
theorem g_num {L:List Tok} {s:List UInt8} {M:List (Nat×List UInt8)} (hs:numOk s=true) (h:L.map er=(3,s)::M):∃ r,sNum L=.inr (numV s,r)∧r.map er=M∧r.length+1=L.length:=by
 obtain ⟨x,r,rfl,h1,h2,h3⟩:=qcl h
 simp only at h1 h2
 refine ⟨r,?_,h3,rfl⟩
 simp only [sNum,h1,h2,hs,and_self,if_true]
theorem q76 {L L':List Tok} {y:Nat×List UInt8} (h:sMatch L=.inr (y,L')):∃ w,matchN w=y.1∧matchN w≠0∧L.map er=(2,w)::(1,y.2)::L'.map er:=by
 cases L with
 |nil=>cases h
 |cons x r =>
  simp only [sMatch] at h
  split at h
  ·rename_i hk
   obtain ⟨a,h1,h2⟩:=q158 h
   injection h2 with h2
   injection h2 with h2 h3
   subst h2 h3
   obtain ⟨s,r2⟩:=a
   exact ⟨x.s,rfl,hk.2,by simp only [List.map_cons,er,hk.1];rw [f_take h1]⟩
  ·cases h
theorem q8s {L:List Tok} {w s:List UInt8} (hw:matchN w≠0) {M:List (Nat×List UInt8)} (h:L.map er=(2,w)::(1,s)::M):∃ r,sMatch L=.inr ((matchN w,s),r)∧r.map er=M∧r.length+2=L.length:=by
 obtain ⟨x,r,rfl,h1,h2,h3⟩:=qcl h
 obtain ⟨r2,g1,g2,g3⟩:=q183 h3
 simp only at h1 h2
 refine ⟨r2,?_,g2,by simp only [List.length_cons];omega⟩
 simp only [sMatch,h1,h2,g1,thn,true_and]
 rw [if_pos hw]
theorem q14y (s:List UInt8):testN s≤9:=by
 unfold testN
 repeat' split
 all_goals omega
def noComma (M:List (Nat×List UInt8)):Prop:=∀ x r,M=x::r→x≠(4,[44])
theorem isT_no {k:Nat} {s:List UInt8} {L:List Tok} {M:List (Nat×List UInt8)} (h:L.map er=M) (hM:∀ x r,M=x::r→x≠(k,s)):isT k s L=false:=by
 cases L with
 |nil=>rfl
 |cons y r =>
  have:=hM (er y) (r.map er) (by rw [←h];rfl)
  simp only [isT]
  cases e:y.k==k&&y.s==s with
  |false=>rfl
  |true =>
   simp only [Bool.and_eq_true,beq_iff_eq] at e
   exact absurd (Prod.ext e.1 e.2) this
theorem qag {k:Nat} {s:List UInt8} {L:List Tok} (h:isT k s L=true):L.map er=(k,s)::L.tail.map er:=by
 cases L with
 |nil=>cases h
 |cons x r =>
  simp only [isT,Bool.and_eq_true,beq_iff_eq] at h
  simp only [List.map_cons,List.tail_cons,er,h.1,h.2]
def FrT (d:Nat) (t:S57) (L L':List Tok):Prop:=∃ C,C≠[]∧L.map er=C++L'.map er∧∀ f2 L2 M2,L2.map er=C++M2→2*L2.length+1≤f2→∃ L2',sTest f2 d L2=.inr (t,L2')∧L2'.map er=M2∧L2'.length<L2.length
def FrTs (d:Nat) (ts:List S57) (L L':List Tok):Prop:=∃ C,C≠[]∧L.map er=C++L'.map er∧∀ f2 L2 M2,L2.map er=C++M2→noComma M2→2*L2.length+2≤f2→∃ L2',sTests f2 d L2=.inr (ts,L2')∧L2'.map er=M2∧L2'.length<L2.length
theorem f_test:∀ f,(∀ d L t L',sTest f d L=.inr (t,L')→FrT d t L L')∧(∀ d L ts L',sTests f d L=.inr (ts,L')→FrTs d ts L L')
 |0=>⟨fun d L t L' h=>by simp [sTest] at h,fun d L ts L' h=>by simp [sTests] at h⟩
 |f+1=>by
  obtain ⟨ih1,ih2⟩:=f_test f
  refine ⟨fun d L t L' h=>?_,fun d L ts L' h=>?_⟩
  ·cases L with
   |nil=>simp [sTest] at h
   |cons x r =>
    simp only [sTest] at h
    split at h
    ·cases h
    rename_i hc
    have hxk:x.k=2:=by omega
    have hx:er x=(2,x.s):=by simp only [er,hxk]
    have key:∀ (C:List (Nat×List UInt8)),r.map er=C++L'.map er→(∀ g y r2 M2,2*r2.length+2≤g→y.k=2→y.s=x.s→r2.map er=C++M2→∃ L2',sTest (g+1) d (y::r2)=.inr (t,L2')∧L2'.map er=M2∧L2'.length≤r2.length)→FrT d t (x::r) L':=by
     intro C h1 h2
     refine ⟨er x::C,by simp,by rw [List.map_cons,h1];rfl,fun f2 L2 M2 e hf=>?_⟩
     rw [hx] at e
     obtain ⟨y,r2,rfl,k1,k2,k3⟩:=qcl e
     cases f2 with
     |zero=>omega
     |succ g =>
      simp only [List.length_cons] at hf ⊢
      obtain ⟨L2',q1,q2,q3⟩:=h2 g y r2 M2 (by omega) k1 k2 k3
      exact ⟨L2',q1,q2,by omega⟩
    have hN:testN x.s=0∨testN x.s=1∨testN x.s=2∨testN x.s=3∨testN x.s=4∨testN x.s=5∨testN x.s=6∨testN x.s=7∨testN x.s=8∨testN x.s=9:=by have:=q14y x.s;omega
    have hd:∀ y:Tok,y.k=2→¬ (8<d∨y.k≠2):=fun y hy=>by omega
    rcases hN with e|e|e|e|e|e|e|e|e|e <;> simp only [e] at h
    ·cases h
    ·injection h with h
     injection h with h1 h2
     subst h1 h2
     refine key [] rfl fun g y r2 M2 hg y1 y2 y3=>⟨r2,?_,y3,Nat.le_refl _⟩
     simp only [sTest,if_neg (hd y y1),y2,e]
    ·obtain ⟨⟨u,L1⟩,h1,h2⟩:=q158 h
     injection h2 with h2
     injection h2 with h2 h3
     subst h2 h3
     obtain ⟨C,c0,c1,c2⟩:=ih1 _ _ _ _ h1
     refine key C c1 fun g y r2 M2 hg y1 y2 y3=>?_
     obtain ⟨L2',q1,q2,q3⟩:=c2 g r2 M2 y3 (by omega)
     exact ⟨L2',by simp only [sTest,if_neg (hd y y1),y2,e,q1,thn],q2,by omega⟩
    ·obtain ⟨r1,h1,h⟩:=q158 h
     obtain ⟨⟨ts,L1⟩,h2,h⟩:=q158 h
     obtain ⟨r2,h3,h⟩:=q158 h
     injection h with h
     injection h with h4 h5
     subst h4 h5
     obtain ⟨C,c0,c1,c2⟩:=ih2 _ _ _ _ h2
     refine key ((4,[40])::(C++[(4,[41])])) (by rw [q77 h1,c1,q77 h3];simp) fun g y r2 M2 hg y1 y2 y3=>?_
     simp only [List.cons_append,List.append_assoc,List.nil_append] at y3
     obtain ⟨w1,v1,v2,v3⟩:=qdz y3
     obtain ⟨w2,u1,u2,u3⟩:=c2 g w1 _ v2 (by intro x r e;injection e with e;subst e;simp) (by omega)
     obtain ⟨w3,t1,t2,t3⟩:=qdz u2
     exact ⟨w3,by simp only [sTest,if_neg (hd y y1),y2,e,v1,u1,t1,thn],t2,by omega⟩
    ·obtain ⟨r1,h1,h⟩:=q158 h
     obtain ⟨⟨ts,L1⟩,h2,h⟩:=q158 h
     obtain ⟨r2,h3,h⟩:=q158 h
     injection h with h
     injection h with h4 h5
     subst h4 h5
     obtain ⟨C,c0,c1,c2⟩:=ih2 _ _ _ _ h2
     refine key ((4,[40])::(C++[(4,[41])])) (by rw [q77 h1,c1,q77 h3];simp) fun g y r2 M2 hg y1 y2 y3=>?_
     simp only [List.cons_append,List.append_assoc,List.nil_append] at y3
     obtain ⟨w1,v1,v2,v3⟩:=qdz y3
     obtain ⟨w2,u1,u2,u3⟩:=c2 g w1 _ v2 (by intro x r e;injection e with e;subst e;simp) (by omega)
     obtain ⟨w3,t1,t2,t3⟩:=qdz u2
     exact ⟨w3,by simp only [sTest,if_neg (hd y y1),y2,e,v1,u1,t1,thn],t2,by omega⟩
    ·obtain ⟨⟨nm,r1⟩,h1,h⟩:=q158 h
     obtain ⟨⟨mt,r2⟩,h2,h⟩:=q158 h
     injection h with h
     injection h with h4 h5
     subst h4 h5
     obtain ⟨w,m1,m2,m3⟩:=q76 h2
     refine key [(1,nm),(2,w),(1,mt.2)] (by rw [f_take h1];simp only at m3 ⊢;rw [m3];rfl) fun g y r2 M2 hg y1 y2 y3=>?_
     simp only [List.cons_append,List.nil_append] at y3
     obtain ⟨w1,v1,v2,v3⟩:=q183 y3
     obtain ⟨w2,u1,u2,u3⟩:=q8s m2 v2
     exact ⟨w2,by simp only [sTest,if_neg (hd y y1),y2,e,v1,u1,thn,m1],u2,by omega⟩
    ·obtain ⟨⟨mt,r2⟩,h2,h⟩:=q158 h
     injection h with h
     injection h with h4 h5
     subst h4 h5
     obtain ⟨w,m1,m2,m3⟩:=q76 h2
     refine key [(2,w),(1,mt.2)] (by rw [m3];rfl) fun g y r2 M2 hg y1 y2 y3=>?_
     simp only [List.cons_append,List.nil_append] at y3
     obtain ⟨w2,u1,u2,u3⟩:=q8s m2 y3
     exact ⟨w2,by simp only [sTest,if_neg (hd y y1),y2,e,u1,thn,m1],u2,by omega⟩
    ·obtain ⟨⟨mt,r2⟩,h2,h⟩:=q158 h
     injection h with h
     injection h with h4 h5
     subst h4 h5
     obtain ⟨w,m1,m2,m3⟩:=q76 h2
     refine key [(2,w),(1,mt.2)] (by rw [m3];rfl) fun g y r2 M2 hg y1 y2 y3=>?_
     simp only [List.cons_append,List.nil_append] at y3
     obtain ⟨w2,u1,u2,u3⟩:=q8s m2 y3
     exact ⟨w2,by simp only [sTest,if_neg (hd y y1),y2,e,u1,thn,m1],u2,by omega⟩
    ·obtain ⟨⟨n,r2⟩,h2,h⟩:=q158 h
     injection h with h
     injection h with h4 h5
     subst h4 h5
     obtain ⟨s,m1,m2,m3⟩:=f_num h2
     refine key [(3,s)] (by rw [m3];rfl) fun g y r2 M2 hg y1 y2 y3=>?_
     simp only [List.cons_append,List.nil_append] at y3
     obtain ⟨w2,u1,u2,u3⟩:=g_num m1 y3
     exact ⟨w2,by simp only [sTest,if_neg (hd y y1),y2,e,u1,thn,m2],u2,by omega⟩
    ·obtain ⟨⟨nm,r1⟩,h1,h⟩:=q158 h
     injection h with h
     injection h with h4 h5
     subst h4 h5
     refine key [(1,nm)] (by rw [f_take h1];rfl) fun g y r2 M2 hg y1 y2 y3=>?_
     simp only [List.cons_append,List.nil_append] at y3
     obtain ⟨w1,v1,v2,v3⟩:=q183 y3
     exact ⟨w1,by simp only [sTest,if_neg (hd y y1),y2,e,v1,thn],v2,by omega⟩
  ·simp only [sTests] at h
   obtain ⟨⟨t,L1⟩,h1,h⟩:=q158 h
   obtain ⟨C,c0,c1,c2⟩:=ih1 _ _ _ _ h1
   simp only at h
   split at h
   ·rename_i hk
    obtain ⟨⟨us,L2⟩,h2,h⟩:=q158 h
    injection h with h
    injection h with h4 h5
    subst h4 h5
    obtain ⟨D,d0,d1,d2⟩:=ih2 _ _ _ _ h2
    refine ⟨C++(4,[44])::D,by simp,by rw [c1,qag hk,d1];simp,fun f2 L2' M2 e hM hf=>?_⟩
    cases f2 with
    |zero=>omega
    |succ g =>
     rw [List.append_assoc] at e
     obtain ⟨w1,v1,v2,v3⟩:=c2 g L2' _ e (by omega)
     simp only [List.cons_append] at v2
     obtain ⟨k1,k2,k3⟩:=p_isT v2
     obtain ⟨w2,u1,u2,u3⟩:=d2 g w1.tail M2 k2 hM (by omega)
     exact ⟨w2,by simp only [sTests,v1,k1,u1,thn,if_true],u2,by omega⟩
   ·injection h with h
    injection h with h4 h5
    subst h4 h5
    refine ⟨C,c0,c1,fun f2 L2' M2 e hM hf=>?_⟩
    cases f2 with
    |zero=>omega
    |succ g =>
     obtain ⟨w1,v1,v2,v3⟩:=c2 g L2' _ e (by omega)
     have hn:=isT_no v2 hM
     exact ⟨w1,by simp only [sTests,v1,hn,thn,Bool.false_eq_true,if_false],v2,v3⟩
end Go.Proofs.YtognhcibcocbkaaGreatDoor
