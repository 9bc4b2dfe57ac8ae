/- The tokens of a text, and what a text of a script says: in plain words. -/
import Derived.Test.YtognhcibcocbkaaGreatDoorZ24
import Derived.Lib.ItoaNum
namespace Go.Proofs.YtognhcibcocbkaaGreatDoor
open Go.RowKit
structure Tok where
 k:Nat
 s:List UInt8
 o:Nat
def wsB (c:UInt8):Bool:=c==32||c==9||c==13||c==10
def wsN (l:List UInt8):Nat:=(l.takeWhile wsB).length
def strq:List UInt8→Option (List UInt8×Nat)
 |[]=>none
 |[c]=>if c=34 then some ([],1) else none
 |c::d::r=>if c=34 then some ([],1) else if c=92 then (if d=34∨d=92 then (strq r).map fun x=>(d::x.1,x.2+2) else none) else (strq (d::r)).map fun x=>(c::x.1,x.2+1)
def lexT:List UInt8→(Nat×List UInt8)×Nat
 |[]=>((0,[]),0)
 |c::r=>if c=34 then (match strq r with|some x=>((1,x.1),x.2+1)|none=>((5,[]),0))
  else if letterB c=true then ((2,c::r.takeWhile smallB),(r.takeWhile smallB).length+1)
  else if digitB c=true then ((3,c::r.takeWhile digitB),(r.takeWhile digitB).length+1)
  else ((4,[c]),1)
def endK (k:Nat):Bool:=k==0||k==5
def toks:Nat→List UInt8→Nat→List Tok
 |0,_,_=>[]
 |f+1,l,o=>⟨(lexT (l.drop (wsN l))).1.1,(lexT (l.drop (wsN l))).1.2,o+wsN l⟩ ::
  (if endK (lexT (l.drop (wsN l))).1.1=true then [] else toks f (l.drop (wsN l+(lexT (l.drop (wsN l))).2)) (o+wsN l+(lexT (l.drop (wsN l))).2))
def thn {α β:Type} (x:Nat⊕α) (f:α→Nat⊕β):Nat⊕β:=match x with
 |.inl o=>.inl o
 |.inr a=>f a
def ofs:List Tok→Nat
 |x::_=>x.o
 |[]=>0
def isT (k:Nat) (s:List UInt8):List Tok→Bool
 |x::_=>x.k==k&&x.s==s
 |[]=>false
def sTake (k:Nat):List Tok→Nat⊕(List UInt8×List Tok)
 |x::r=>if x.k=k then .inr (x.s,r) else .inl x.o
 |[]=>.inl 0
def sNeed (s:List UInt8) (L:List Tok):Nat⊕List Tok:=if isT 4 s L=true then .inr L.tail else .inl (ofs L)
def numV (s:List UInt8):Nat:=s.foldl (fun n c=>10*n+(c.toNat - 48)) 0
def numOk (s:List UInt8):Bool:=decide (s.length≤7)&&!(decide (1<s.length)&&s.head?==some 48)
def sNum:List Tok→Nat⊕(Nat×List Tok)
 |x::r=>if x.k=3∧numOk x.s=true then .inr (numV x.s,r) else .inl x.o
 |[]=>.inl 0
def wIs:List UInt8:=[105,115]
def wContains:List UInt8:=[99,111,110,116,97,105,110,115]
def wLike:List UInt8:=[108,105,107,101]
def wTrue:List UInt8:=[116,114,117,101]
def wNot:List UInt8:=[110,111,116]
def wAll:List UInt8:=[97,108,108]
def wAny:List UInt8:=[97,110,121]
def wHeader:List UInt8:=[104,101,97,100,101,114]
def wFrom:List UInt8:=[102,114,111,109]
def wTo:List UInt8:=[116,111]
def wSize:List UInt8:=[115,105,122,101]
def wExists:List UInt8:=[101,120,105,115,116,115]
def wKeep:List UInt8:=[107,101,101,112]
def wFile:List UInt8:=[102,105,108,101]
def wDiscard:List UInt8:=[100,105,115,99,97,114,100]
def wRedirect:List UInt8:=[114,101,100,105,114,101,99,116]
def wReject:List UInt8:=[114,101,106,101,99,116]
def wFlag:List UInt8:=[102,108,97,103]
def wReply:List UInt8:=[114,101,112,108,121]
def wIf:List UInt8:=[105,102]
def wElse:List UInt8:=[101,108,115,101]
def wSet:List UInt8:=[115,101,116]
def wStop:List UInt8:=[115,116,111,112]
def matchN (s:List UInt8):Nat:=if s=wIs then 1 else if s=wContains then 2 else if s=wLike then 3 else 0
def testN (s:List UInt8):Nat:=if s=wTrue then 1 else if s=wNot then 2 else if s=wAll then 3 else if s=wAny then 4 else if s=wHeader then 5 else if s=wFrom then 6 else if s=wTo then 7 else if s=wSize then 8 else if s=wExists then 9 else 0
def actN (s:List UInt8):Nat:=if s=wKeep then 1 else if s=wFile then 2 else if s=wDiscard then 3 else if s=wRedirect then 4 else if s=wReject then 5 else if s=wFlag then 6 else if s=wReply then 7 else 0
def sMatch:List Tok→Nat⊕((Nat×List UInt8)×List Tok)
 |x::r=>if x.k=2∧matchN x.s≠0 then thn (sTake 1 r) fun y=>.inr ((matchN x.s,y.1),y.2) else .inl x.o
 |[]=>.inl 0
def baL (l:List UInt8):ByteArray:=⟨l.toArray⟩
def tst (k:Nat) (ts:List S57) (nm:List UInt8) (p:Nat) (tx:List UInt8) (n:Nat):S57:=⟨k,ts,baL nm,p,baL tx,n⟩
mutual
def sTest:Nat→Nat→List Tok→Nat⊕(S57×List Tok)
 |0,_,L=>.inl (ofs L)
 |_+1,_,[]=>.inl 0
 |f+1,d,x::r=>if 8<d∨x.k≠2 then .inl x.o else match testN x.s with
  |0=>.inl x.o
  |1=>.inr (tst 1 [] [] 0 [] 0,r)
  |2=>thn (sTest f (d+1) r) fun y=>.inr (tst 2 [y.1] [] 0 [] 0,y.2)
  |3=>thn (sNeed [40] r) fun r1=>thn (sTests f (d+1) r1) fun y=>thn (sNeed [41] y.2) fun r2=>.inr (tst 3 y.1 [] 0 [] 0,r2)
  |4=>thn (sNeed [40] r) fun r1=>thn (sTests f (d+1) r1) fun y=>thn (sNeed [41] y.2) fun r2=>.inr (tst 4 y.1 [] 0 [] 0,r2)
  |5=>thn (sTake 1 r) fun y=>thn (sMatch y.2) fun z=>.inr (tst 5 [] y.1 z.1.1 z.1.2 0,z.2)
  |6=>thn (sMatch r) fun z=>.inr (tst 6 [] [] z.1.1 z.1.2 0,z.2)
  |7=>thn (sMatch r) fun z=>.inr (tst 7 [] [] z.1.1 z.1.2 0,z.2)
  |8=>thn (sNum r) fun z=>.inr (tst 8 [] [] 0 [] z.1,z.2)
  |_=>thn (sTake 1 r) fun y=>.inr (tst 9 [] y.1 0 [] 0,y.2)
def sTests:Nat→Nat→List Tok→Nat⊕(List S57×List Tok)
 |0,_,L=>.inl (ofs L)
 |f+1,d,L=>thn (sTest f d L) fun y=>if isT 4 [44] y.2=true then thn (sTests f d y.2.tail) fun z=>.inr (y.1::z.1,z.2) else .inr ([y.1],y.2)
end
def rul (k:Nat) (t:S57) (th el:List S59) (act:Nat) (nm tx:List UInt8) (n:Nat):S59:=⟨k,t.Kind,t.Tests,t.Name,t.Pattern,t.Text,t.N,th,el,act,baL nm,baL tx,n⟩
def t0:S57:=tst 0 [] [] 0 [] 0
def stopB (x:Tok):Bool:=x.k==0||(x.k==4&&x.s==[125])
mutual
def sRule:Nat→Nat→Nat→List Tok→Nat⊕(S59×List Tok×Nat)
 |0,_,_,L=>.inl (ofs L)
 |_+1,_,_,[]=>.inl 0
 |f+1,d,m,x::r=>if 100<m+1∨8<d∨x.k≠2 then .inl x.o
  else if x.s=wIf then thn (sTest f 1 r) fun t=>thn (sBlock f (d+1) (m+1) t.2) fun b =>
   if isT 2 wElse b.2.1=true then thn (sBlock f (d+1) b.2.2 b.2.1.tail) fun e=>.inr (rul 1 t.1 b.1 e.1 0 [] [] 0,e.2.1,e.2.2)
   else .inr (rul 1 t.1 b.1 [] 0 [] [] 0,b.2.1,b.2.2)
  else if x.s=wSet then thn (sTake 2 r) fun a=>thn (sTake 1 a.2) fun b=>thn (sNeed [59] b.2) fun r1=>.inr (rul 3 t0 [] [] 0 a.1 b.1 0,r1,m+1)
  else if x.s=wStop then thn (sNeed [59] r) fun r1=>.inr (rul 4 t0 [] [] 0 [] [] 0,r1,m+1)
  else if actN x.s=0 then .inl x.o
  else if actN x.s=6 then thn (sNum r) fun a=>thn (sNeed [59] a.2) fun r1=>.inr (rul 2 t0 [] [] 6 [] [] a.1,r1,m+1)
  else if txtB (actN x.s)=true then thn (sTake 1 r) fun a=>thn (sNeed [59] a.2) fun r1=>.inr (rul 2 t0 [] [] (actN x.s) [] a.1 0,r1,m+1)
  else thn (sNeed [59] r) fun r1=>.inr (rul 2 t0 [] [] (actN x.s) [] [] 0,r1,m+1)
def sBlock:Nat→Nat→Nat→List Tok→Nat⊕(List S59×List Tok×Nat)
 |0,_,_,L=>.inl (ofs L)
 |f+1,d,m,L=>thn (sNeed [123] L) fun r=>thn (sRules f d m r) fun y=>thn (sNeed [125] y.2.1) fun r2=>.inr (y.1,r2,y.2.2)
def sRules:Nat→Nat→Nat→List Tok→Nat⊕(List S59×List Tok×Nat)
 |0,_,_,L=>.inl (ofs L)
 |_+1,_,m,[]=>.inr ([],[],m)
 |f+1,d,m,x::r=>if stopB x=true then .inr ([],x::r,m) else thn (sRule f d m (x::r)) fun y=>thn (sRules f d y.2.2 y.2.1) fun z=>.inr (y.1::z.1,z.2.1,z.2.2)
end
def fuel (t:List UInt8):Nat:=4*t.length+16
def sScript (t:List UInt8):Nat⊕List S59:=thn (sRules (fuel t) 1 0 (toks (t.length+1) t 0)) fun y=>match y.2.1 with
 |x::_=>if x.k=0 then .inr y.1 else .inl x.o
 |[]=>.inl 0
def sParse (t:List UInt8):List S59×(Int×Int):=if 4000<t.length then ([],(1,-1)) else match sScript t with
 |.inl o=>([],(11,o))
 |.inr l=>if (scriptF l).1≠0 then ([],((scriptF l).1,-2)) else (l,(0,0))
end Go.Proofs.YtognhcibcocbkaaGreatDoor
namespace Go.Proofs.YtognhcibcocbkaaGreatDoor
open Go.RowKit
def bl (s:ByteArray):List UInt8:=s.data.toList
def testW (k:Int):List UInt8:=if k=1 then wTrue else if k=2 then wNot else if k=3 then wAll else if k=4 then wAny else if k=5 then wHeader else if k=6 then wFrom else if k=7 then wTo else if k=8 then wSize else if k=9 then wExists else []
def matchW (k:Int):List UInt8:=if k=1 then wIs else if k=2 then wContains else if k=3 then wLike else []
def actW (k:Int):List UInt8:=if k=1 then wKeep else if k=2 then wFile else if k=3 then wDiscard else if k=4 then wRedirect else if k=5 then wReject else if k=6 then wFlag else if k=7 then wReply else []
def matL (p:Int) (tx:ByteArray):List UInt8:=matchW p++32::quoL (bl tx)
mutual
def testL:S57→List UInt8
 |⟨k,ts,nm,p,tx,n⟩=>testW k++(if k=2 then 32::testsL ts else if k=3∨k=4 then 32::40::(testsL ts++[41]) else if k=5 then 32::(quoL (bl nm)++32::matL p tx)
  else if k=6∨k=7 then 32::matL p tx else if k=8 then 32::Lib.decDigits n.toNat else if k=9 then 32::quoL (bl nm) else [])
def testsL:List S57→List UInt8
 |[]=>[]
 |t::r=>testL t++testsC r
def testsC:List S57→List UInt8
 |[]=>[]
 |t::r=>44::32::(testL t++testsC r)
end
def ind (d:Nat):List UInt8:=List.replicate (2*d) 32
mutual
def ruleL:S59→Nat→List UInt8
 |⟨k,tk,tts,tnm,tp,ttx,tn,th,el,act,nm,tx,n⟩,d=>ind d++((if k=1 then wIf++32::(testL ⟨tk,tts,tnm,tp,ttx,tn⟩++32::123::10::(rulesL th (d+1)++(ind d++125::(if el.isEmpty=true then [] else 32::(wElse++32::123::10::(rulesL el (d+1)++(ind d++[125])))))))
  else if k=2 then actW act++((if txtB act=true then 32::quoL (bl tx) else if act=6 then 32::Lib.decDigits n.toNat else [])++[59])
  else if k=3 then wSet++32::(bl nm++32::(quoL (bl tx)++[59]))
  else if k=4 then wStop++[59] else [])++[10])
def rulesL:List S59→Nat→List UInt8
 |[],_=>[]
 |r::l,d=>ruleL r d++rulesL l d
end
def er (x:Tok):Nat×List UInt8:=(x.k,x.s)
mutual
def testK:S57→List (Nat×List UInt8)
 |⟨k,ts,nm,p,tx,n⟩=>(2,testW k)::(if k=2 then testsK ts else if k=3∨k=4 then (4,[40])::(testsK ts++[(4,[41])]) else if k=5 then [(1,bl nm),(2,matchW p),(1,bl tx)]
  else if k=6∨k=7 then [(2,matchW p),(1,bl tx)] else if k=8 then [(3,Lib.decDigits n.toNat)] else if k=9 then [(1,bl nm)] else [])
def testsK:List S57→List (Nat×List UInt8)
 |[]=>[]
 |t::r=>testK t++testsD r
def testsD:List S57→List (Nat×List UInt8)
 |[]=>[]
 |t::r=>(4,[44])::(testK t++testsD r)
end
mutual
def ruleK:S59→List (Nat×List UInt8)
 |⟨k,tk,tts,tnm,tp,ttx,tn,th,el,act,nm,tx,n⟩=>if k=1 then (2,wIf)::(testK ⟨tk,tts,tnm,tp,ttx,tn⟩++(4,[123])::(rulesK th++(4,[125])::(if el.isEmpty=true then [] else (2,wElse)::(4,[123])::(rulesK el++[(4,[125])]))))
  else if k=2 then (2,actW act)::((if txtB act=true then [(1,bl tx)] else if act=6 then [(3,Lib.decDigits n.toNat)] else [])++[(4,[59])])
  else if k=3 then [(2,wSet),(2,bl nm),(1,bl tx),(4,[59])]
  else if k=4 then [(2,wStop),(4,[59])] else []
def rulesK:List S59→List (Nat×List UInt8)
 |[]=>[]
 |r::l=>ruleK r++rulesK l
end
def toksF (l:List UInt8) (o:Nat):List Tok:=toks (l.length+1) l o
theorem qsw:∀ (n:Nat) (l:List UInt8),l.length≤n→∀ x,strq l=some x→1≤x.2∧x.2≤l.length
 |_,[],_,x,h=>by simp [strq] at h
 |_,[c],_,x,h=>by
  simp only [strq] at h
  split at h
  ·injection h with h;subst h;simp
  ·cases h
 |0,_::_::_,hl,_,_=>by simp at hl
 |n+1,c::d::r,hl,x,h=>by
  simp only [strq] at h
  simp only [List.length_cons] at hl ⊢
  split at h
  ·injection h with h;subst h;simp
  ·split at h
   ·split at h
    ·cases hr:strq r with
     |none=>rw [hr] at h;cases h
     |some y =>
      rw [hr] at h
      injection h with h;subst h
      have:=qsw n r (by omega) y hr
      simp only;omega
    ·cases h
   ·cases hr:strq (d::r) with
    |none=>rw [hr] at h;cases h
    |some y =>
     rw [hr] at h
     injection h with h;subst h
     have:=qsw n (d::r) (by simp only [List.length_cons];omega) y hr
     simp only [List.length_cons] at this ⊢;omega
theorem qu5 {α:Type} (p:α→Bool):∀ l:List α,(l.takeWhile p).length≤l.length
 |[]=>by simp
 |a::l=>by
  rw [List.takeWhile_cons]
  split
  ·simp only [List.length_cons];have:=qu5 p l;omega
  ·simp
theorem qbc (l:List UInt8):(lexT l).2≤l.length∧(endK (lexT l).1.1=false→1≤(lexT l).2):=by
 cases l with
 |nil=>simp [lexT,endK]
 |cons c r =>
  simp only [lexT,List.length_cons]
  split
  ·cases hq:strq r with
   |none=>simp [endK]
   |some x =>
    have:=qsw _ r (Nat.le_refl _) x hq
    simp only;exact ⟨by omega,fun _=>by omega⟩
  ·split
   ·have:=qu5 smallB r
    exact ⟨by simp only;omega,fun _=>by simp only;omega⟩
   ·split
    ·have:=qu5 digitB r
     exact ⟨by simp only;omega,fun _=>by simp only;omega⟩
    ·exact ⟨by simp only;omega,fun _=>by simp only;omega⟩
theorem wsN_le (l:List UInt8):wsN l≤l.length:=qu5 wsB l
theorem qux:∀ (f:Nat) (l:List UInt8) (o:Nat),l.length<f→∀ g,l.length<g→toks f l o=toks g l o
 |0,_,_,h,_,_=>by omega
 |f+1,l,o,h,0,hg=>by omega
 |f+1,l,o,h,g+1,hg=>by
  simp only [toks]
  congr 1
  split
  ·rfl
  ·rename_i hk
   have hk':endK (lexT (l.drop (wsN l))).1.1=false:=by simpa using hk
   have h1:=qbc (l.drop (wsN l))
   have h2:=h1.2 hk'
   have h3:=h1.1
   have h4:=wsN_le l
   rw [List.length_drop] at h3
   exact qux f _ _ (by rw [List.length_drop];omega) g (by rw [List.length_drop];omega)
theorem qut (l:List UInt8) (o:Nat):toksF l o=⟨(lexT (l.drop (wsN l))).1.1,(lexT (l.drop (wsN l))).1.2,o+wsN l⟩ ::
  (if endK (lexT (l.drop (wsN l))).1.1=true then [] else toksF (l.drop (wsN l+(lexT (l.drop (wsN l))).2)) (o+wsN l+(lexT (l.drop (wsN l))).2)):=by
 unfold toksF
 conv=>lhs;unfold toks
 congr 1
 split
 ·rfl
 ·rename_i hk
  have hk':endK (lexT (l.drop (wsN l))).1.1=false:=by simpa using hk
  have h1:=qbc (l.drop (wsN l))
  have h2:=h1.2 hk'
  have h3:=h1.1
  have h4:=wsN_le l
  rw [List.length_drop] at h3
  exact qux _ _ _ (by rw [List.length_drop];omega) _ (by omega)
theorem quw (c:UInt8) (hc:wsB c=true) (l:List UInt8) (o:Nat):toksF (c::l) o=toksF l (o+1):=by
 have e:wsN (c::l)=wsN l+1:=by simp [wsN,hc]
 rw [qut,qut l]
 rw [e,List.drop_succ_cons]
 have e2:(c::l).drop (wsN l+1+(lexT (l.drop (wsN l))).2)=l.drop (wsN l+(lexT (l.drop (wsN l))).2):=by
  rw [show wsN l+1+(lexT (l.drop (wsN l))).2=(wsN l+(lexT (l.drop (wsN l))).2)+1 by omega,List.drop_succ_cons]
 rw [e2,show o+(wsN l+1)=o+1+wsN l by omega]
theorem quv (c:UInt8) (hc:wsB c=false) (l:List UInt8) (o:Nat):toksF (c::l) o=⟨(lexT (c::l)).1.1,(lexT (c::l)).1.2,o⟩ ::
  (if endK (lexT (c::l)).1.1=true then [] else toksF ((c::l).drop (lexT (c::l)).2) (o+(lexT (c::l)).2)):=by
 have e:wsN (c::l)=0:=by simp [wsN,hc]
 rw [qut,e]
 simp
theorem qsv:∀ (s rest:List UInt8),strq (esc s++34::rest)=some (s,(esc s).length+1)
 |[],rest=>by cases rest <;> simp [esc,strq]
 |c::s,rest=>by
  simp only [esc]
  split
  ·rename_i hc
   have ih:=qsv s rest
   have h1:¬ ((92:UInt8)=34):=by decide
   simp only [List.cons_append,strq,h1,if_false,if_true,hc,ih,Option.map_some]
   simp
  ·rename_i hc
   have hc1:¬ c=34:=fun e=>hc (.inl e)
   have hc2:¬ c=92:=fun e=>hc (.inr e)
   have ih:=qsv s rest
   cases he:esc s++34::rest with
   |nil=>simp at he
   |cons d r =>
    rw [he] at ih
    simp only [List.cons_append,he,strq,hc1,hc2,if_false,ih,Option.map_some]
    simp
def safe:List UInt8→Prop
 |[]=>True
 |c::_=>smallB c=false
def Em (l:List UInt8) (ts:List (Nat×List UInt8)):Prop:=∀ rest o,safe rest→(toksF (l++rest) o).map er=ts++(toksF rest (o+l.length)).map er
def SafeL (l:List UInt8):Prop:=∀ rest,safe rest→safe (l++rest)
theorem Em.nil:Em [] []:=fun _ _ _=>rfl
theorem Em.app {a b:List UInt8} {ta tb:List (Nat×List UInt8)} (ha:Em a ta) (hb:Em b tb) (hs:SafeL b):Em (a++b) (ta++tb):=fun rest o h=>by
 rw [List.append_assoc,ha _ _ (hs rest h),hb _ _ h,List.append_assoc,List.length_append,Nat.add_assoc]
theorem qre {c:UInt8} (h:smallB c=false) (l:List UInt8):SafeL (c::l):=fun _ _=>h
theorem qrf:SafeL []:=fun _ h=>h
theorem Em.ws {c:UInt8} (hc:wsB c=true) {l:List UInt8} {ts:List (Nat×List UInt8)} (h:Em l ts):Em (c::l) ts:=fun rest o hr=>by
 rw [List.cons_append,quw c hc,h _ _ hr]
 simp only [List.length_cons]
 rw [show o+1+l.length=o+(l.length+1) by omega]
theorem q5g {α:Type} (l r:List α):(l++r).drop l.length=r:=by simp
def EmS (l:List UInt8) (ts:List (Nat×List UInt8)):Prop:=∀ rest o,(toksF (l++rest) o).map er=ts++(toksF rest (o+l.length)).map er
theorem EmS.em {l:List UInt8} {ts:List (Nat×List UInt8)} (h:EmS l ts):Em l ts:=fun rest o _=>h rest o
theorem EmS.app {a b:List UInt8} {ta tb:List (Nat×List UInt8)} (ha:EmS a ta) (hb:Em b tb):Em (a++b) (ta++tb):=fun rest o h=>by
 rw [List.append_assoc,ha,hb _ _ h,List.append_assoc,List.length_append,Nat.add_assoc]
theorem lex_at {c:UInt8} {l rest:List UInt8} {k:Nat} {s:List UInt8} (hc:wsB c=false) (hk:endK k=false) (hl:lexT (c::(l++rest))=((k,s),l.length+1)) (o:Nat):(toksF ((c::l)++rest) o).map er=[(k,s)]++(toksF rest (o+(c::l).length)).map er:=by
 rw [List.cons_append,quv c hc,hl]
 simp only [hk,Bool.false_eq_true,if_false,List.map_cons,er,List.drop_succ_cons,q5g,List.length_cons,List.cons_append,List.nil_append]
theorem qu4 {p:UInt8→Bool}:∀ (l:List UInt8),l.all p=true→∀ rest:List UInt8,(∀ c r,rest=c::r→p c=false)→(l++rest).takeWhile p=l
 |[],_,[],_=>rfl
 |[],_,c::r,h=>by simp [h c r rfl]
 |a::l,ha,rest,h=>by
  simp only [List.all_cons,Bool.and_eq_true] at ha
  simp only [List.cons_append,List.takeWhile_cons,ha.1,if_true,qu4 l ha.2 rest h]
theorem qba {c:UInt8} (h:letterB c=true):wsB c=false∧¬ c=34:=by
 simp only [letterB,Bool.and_eq_true,decide_eq_true_eq] at h
 have h34:(34:UInt8).toNat=34:=rfl
 constructor
 ·simp only [wsB,Bool.or_eq_false_iff,beq_eq_false_iff_ne,ne_eq]
  refine ⟨⟨⟨?_,?_⟩,?_⟩,?_⟩ <;> (intro e;subst e;simp at h)
 ·intro e;subst e;simp at h
theorem q5a {c:UInt8} (h:digitB c=true):wsB c=false∧¬ c=34∧letterB c=false:=by
 simp only [digitB,Bool.and_eq_true,decide_eq_true_eq] at h
 refine ⟨?_,?_,?_⟩
 ·simp only [wsB,Bool.or_eq_false_iff,beq_eq_false_iff_ne,ne_eq]
  refine ⟨⟨⟨?_,?_⟩,?_⟩,?_⟩ <;> (intro e;subst e;simp at h)
 ·intro e;subst e;simp at h
 ·simp only [letterB,Bool.and_eq_false_iff,decide_eq_false_iff_not];left;omega
def wordB:List UInt8→Bool
 |[]=>false
 |c::r=>letterB c&&r.all smallB
theorem Em.word {w:List UInt8} (h:wordB w=true):Em w [(2,w)]:=by
 cases w with
 |nil=>cases h
 |cons c r =>
  simp only [wordB,Bool.and_eq_true] at h
  obtain ⟨h1,h2⟩:=qba h.1
  refine fun rest o hr=>lex_at h1 rfl ?_ o
  have e:(r++rest).takeWhile smallB=r:=qu4 r h.2 rest fun c' r' e=>by subst e;exact hr
  simp only [lexT,h2,if_false,h.1,if_true,e]
theorem Em.num {w:List UInt8} (h0:w≠[]) (h:w.all digitB=true):Em w [(3,w)]:=by
 cases w with
 |nil=>exact absurd rfl h0
 |cons c r =>
  simp only [List.all_cons,Bool.and_eq_true] at h
  obtain ⟨h1,h2,h3⟩:=q5a h.1
  refine fun rest o hr=>lex_at h1 rfl ?_ o
  have e:(r++rest).takeWhile digitB=r:=qu4 r h.2 rest fun c' r' e=>by
   subst e
   have hr':smallB c'=false:=hr
   simp only [smallB,Bool.or_eq_false_iff] at hr'
   exact hr'.2
  simp only [lexT,h2,if_false,h3,Bool.false_eq_true,h.1,if_true,e]
theorem EmS.sign {c:UInt8} (h1:wsB c=false) (h2:¬ c=34) (h3:smallB c=false):EmS [c] [(4,[c])]:=by
 simp only [smallB,Bool.or_eq_false_iff] at h3
 refine fun rest o=>lex_at h1 rfl ?_ o
 simp only [lexT,h2,if_false,h3.1,h3.2,Bool.false_eq_true,List.length_nil]
theorem EmS.quo (s:List UInt8):EmS (quoL s) [(1,s)]:=by
 refine fun rest o=>lex_at (by decide) rfl ?_ o
 rw [List.append_assoc]
 simp only [List.singleton_append]
 simp only [lexT,if_true,qsv]
 simp
theorem Em.app1 {a b:List UInt8} {x:Nat×List UInt8} {tb:List (Nat×List UInt8)} (ha:Em a [x]) (hb:Em b tb) (hs:SafeL b):Em (a++b) (x::tb):=Em.app ha hb hs
theorem Em.sg {c:UInt8} {b:List UInt8} {tb:List (Nat×List UInt8)} (h1:wsB c=false) (h2:¬ c=34) (h3:smallB c=false) (hb:Em b tb):Em (c::b) ((4,[c])::tb):=EmS.app (EmS.sign h1 h2 h3) hb
theorem Em.qu (s:List UInt8) {b:List UInt8} {tb:List (Nat×List UInt8)} (hb:Em b tb):Em (quoL s++b) ((1,s)::tb):=EmS.app (EmS.quo s) hb
theorem Em.quo (s:List UInt8):Em (quoL s) [(1,s)]:=(EmS.quo s).em
theorem q4z (n:Nat):(Lib.decDigits n).all digitB=true∧Lib.decDigits n≠[]:=by
 induction n using Nat.strongRecOn with
 |_ n ih =>
  rw [Lib.decDigits]
  split
  ·rename_i h
   refine ⟨?_,by simp⟩
   simp only [List.all_cons,List.all_nil,Bool.and_true,digitB,Bool.and_eq_true,decide_eq_true_eq]
   rw [UInt8.toNat_ofNat']
   omega
  ·rename_i h
   obtain ⟨h1,_⟩:=ih (n / 10) (by omega)
   refine ⟨?_,by simp⟩
   rw [List.all_append,h1]
   simp only [List.all_cons,List.all_nil,Bool.and_true,Bool.true_and,digitB,Bool.and_eq_true,decide_eq_true_eq]
   rw [UInt8.toNat_ofNat']
   omega
theorem space:smallB 32=false:=by decide
theorem qrg (l:List UInt8):SafeL (32::l):=qre space l
theorem Em.sp {l:List UInt8} {ts:List (Nat×List UInt8)} (h:Em l ts):Em (32::l) ts:=Em.ws (by decide) h
theorem qvp {k:Int} (h:1≤k∧k≤9):wordB (testW k)=true:=by
 obtain ⟨h1,h2⟩:=h
 have:k=1∨k=2∨k=3∨k=4∨k=5∨k=6∨k=7∨k=8∨k=9:=by omega
 rcases this with h|h|h|h|h|h|h|h|h <;> subst h <;> decide
theorem qvo {k:Int} (h:1≤k∧k≤3):wordB (matchW k)=true:=by
 obtain ⟨h1,h2⟩:=h
 have:k=1∨k=2∨k=3:=by omega
 rcases this with h|h|h <;> subst h <;> decide
theorem qvm {k:Int} (h:1≤k∧k≤7):wordB (actW k)=true:=by
 obtain ⟨h1,h2⟩:=h
 have:k=1∨k=2∨k=3∨k=4∨k=5∨k=6∨k=7:=by omega
 rcases this with h|h|h|h|h|h|h <;> subst h <;> decide
theorem em_mat {p:Int} (hp:1≤p∧p≤3) (tx:ByteArray):Em (matL p tx) [(2,matchW p),(1,bl tx)] :=
 Em.app1 (Em.word (qvo hp)) (Em.sp (Em.quo _)) (qrg _)
structure TF (t:S57) (d:Nat):Prop where
 d8:d≤8
 k:1≤t.Kind∧t.Kind≤9
 k2:t.Kind=2→t.Tests.length=1
 k34:t.Kind=3∨t.Kind=4→1≤t.Tests.length
 ks:¬ (t.Kind=2∨t.Kind=3∨t.Kind=4)→t.Tests=[]
 nm:¬ (t.Kind=5∨t.Kind=9)→t.Name.size=0
 pt:¬ (t.Kind=5∨t.Kind=6∨t.Kind=7)→t.Pattern=0∧t.Text.size=0
 p3:t.Kind=5∨t.Kind=6∨t.Kind=7→1≤t.Pattern∧t.Pattern≤3
 n0:¬ t.Kind=8→t.N=0
 nr:0≤t.N∧t.N≤1000000
 sub:∀ u∈t.Tests,tfT u (d+1)=0
theorem qun {l:List S57} {d:Nat} (h:tfL l d=0):∀ u∈l,tfT u d=0:=by
 induction l with
 |nil=>simp
 |cons t l ih =>
  simp only [tfL] at h
  split at h
  ·rename_i h1;exact absurd h h1
  ·rename_i h1
   intro u hu
   rcases List.mem_cons.1 hu with e|hu
   ·subst e;exact Decidable.not_not.1 h1
   ·exact ih h u hu
theorem qtb {t:S57} {d:Nat} (h:tfT t d=0):TF t d:=by
 rw [tfT_eq] at h
 split at h
 ·rename_i h1;exact absurd h h1
 rename_i h1
 have h1:=Decidable.not_not.1 h1
 have hs:=qun h
 unfold tHead at h1
 split at h1;· cases h1
 rename_i c1
 split at h1;· cases h1
 rename_i c2
 split at h1;· cases h1
 rename_i c3
 split at h1;· cases h1
 rename_i c4
 split at h1;· cases h1
 rename_i c5
 split at h1;· cases h1
 rename_i c6
 split at h1;· cases h1
 split at h1;· cases h1
 rename_i c8
 simp only [decide_eq_true_eq,Bool.or_eq_true,Bool.and_eq_true,Bool.not_eq_true',beq_iff_eq,beq_eq_false_iff_ne,q5p,decide_eq_false_iff_not,not_or,not_and,Bool.not_eq_false,Bool.or_eq_false_iff] at c1 c2 c3 c4 c5 c6 c8
 unfold innerB at c3
 refine ⟨by omega,by omega,fun e=>?_,fun e=>?_,fun e=>?_,fun e=>?_,fun e=>?_,fun e=>?_,fun e=>?_,by omega,hs⟩
 ·rw [if_pos e] at c3;simpa using c3
 ·rw [if_neg (by omega),if_pos e] at c3
  simp only [Bool.and_eq_true,decide_eq_true_eq] at c3
  exact c3.1
 ·rw [if_neg (by omega),if_neg (by omega)] at c3
  simpa using c3
 ·exact Decidable.not_not.1 (c4.1.1 ⟨fun h=>e (.inl h),fun h=>e (.inr h)⟩)
 ·have:=c4.1.2 ⟨⟨fun h=>e (.inl h),fun h=>e (.inr (.inl h))⟩,fun h=>e (.inr (.inr h))⟩
  exact ⟨Decidable.not_not.1 this.1,Decidable.not_not.1 this.2⟩
 ·have:=c6 (by rcases e with e|e|e <;> simp [e])
  omega
 ·exact Decidable.not_not.1 (c4.2 e)
theorem q5s {l:List S57} (h:∀ t∈l,Em (testL t) (testK t)):Em (testsC l) (testsD l)∧SafeL (testsC l):=by
 induction l with
 |nil=>exact ⟨Em.nil,qrf⟩
 |cons t r ih =>
  obtain ⟨h1,h2⟩:=ih fun u hu=>h u (List.mem_cons_of_mem _ hu)
  refine ⟨?_,qre (by decide) _⟩
  simp only [testsC,testsD]
  exact Em.sg (by decide) (by decide) (by decide) (Em.sp (Em.app (h t (by simp)) h1 h2))
theorem q5r {l:List S57} (h:∀ t∈l,Em (testL t) (testK t)):Em (testsL l) (testsK l):=by
 cases l with
 |nil=>exact Em.nil
 |cons t r =>
  obtain ⟨h1,h2⟩:=q5s fun u hu=>h u (List.mem_cons_of_mem _ hu)
  simp only [testsL,testsK]
  exact Em.app (h t (by simp)) h1 h2
theorem Em.sgn {c:UInt8} (h1:wsB c=false) (h2:¬ c=34) (h3:smallB c=false):Em [c] [(4,[c])]:=(EmS.sign h1 h2 h3).em
theorem q5q:∀ (e d:Nat),d+e=9→∀ t:S57,tfT t d=0→Em (testL t) (testK t)
 |0,d,hd,t,h=>by have:=(qtb h).d8;omega
 |e+1,d,hd,⟨k,ts,nm,p,tx,n⟩,h=>by
  have F:=qtb h
  have ih:Em (testsL ts) (testsK ts):=q5r fun u hu=>q5q e (d+1) (by omega) u (F.sub u hu)
  have hw:=Em.word (qvp F.k)
  have hp:=F.p3
  simp only at hw hp
  simp only [testL,testK]
  by_cases e2:k=2
  ·simp only [if_pos e2]
   exact Em.app1 hw (Em.sp ih) (qrg _)
  simp only [if_neg e2]
  by_cases e3:k=3∨k=4
  ·simp only [if_pos e3]
   exact Em.app1 hw (Em.sp (Em.sg (by decide) (by decide) (by decide) (Em.app ih (Em.sgn (by decide) (by decide) (by decide)) (qre (by decide) _)))) (qrg _)
  simp only [if_neg e3]
  by_cases e5:k=5
  ·simp only [if_pos e5]
   exact Em.app1 hw (Em.sp (Em.qu _ (Em.sp (em_mat (hp (.inl e5)) tx)))) (qrg _)
  simp only [if_neg e5]
  by_cases e6:k=6∨k=7
  ·simp only [if_pos e6]
   exact Em.app1 hw (Em.sp (em_mat (hp (.inr e6)) tx)) (qrg _)
  simp only [if_neg e6]
  by_cases e8:k=8
  ·simp only [if_pos e8]
   exact Em.app1 hw (Em.sp (Em.num (q4z _).2 (q4z _).1)) (qrg _)
  simp only [if_neg e8]
  by_cases e9:k=9
  ·simp only [if_pos e9]
   exact Em.app1 hw (Em.sp (Em.quo _)) (qrg _)
  simp only [if_neg e9]
  exact Em.app hw Em.nil qrf
mutual
def vR:S59→Nat→Prop
 |⟨k,tk,tts,tnm,tp,ttx,tn,th,el,act,nm,tx,n⟩,d=>d≤8∧rHead ⟨k,tk,tts,tnm,tp,ttx,tn,th,el,act,nm,tx,n⟩=0∧vL th (d+1)∧vL el (d+1)
def vL:List S59→Nat→Prop
 |[],_=>True
 |r::l,d=>vR r d∧vL l d
end
structure RF (r:S59) (d:Nat):Prop where
 d8:d≤8
 k:1≤r.Kind∧r.Kind≤4
 k1:r.Kind=1→r.Act=0∧r.Name.size=0∧r.Text.size=0∧r.N=0∧tfT ⟨r.Test_Kind,r.Test_Tests,r.Test_Name,r.Test_Pattern,r.Test_Text,r.Test_N⟩ 1=0
 te:¬ r.Kind=1→r.Test_Kind=0∧r.Test_Tests=[]∧r.Test_Name.size=0∧r.Test_Pattern=0∧r.Test_Text.size=0∧r.Test_N=0∧r.Then=[]∧r.Else=[]
 ac:r.Kind=2→(1≤r.Act∧r.Act≤7)∧(txtB r.Act=false→r.Text.size=0)∧(¬ r.Act=6→r.N=0)∧(0≤r.N∧r.N≤63)
 na:¬ r.Kind=2→r.Act=0∧r.N=0
 nn:¬ r.Kind=3→r.Name.size=0
 nv:r.Kind=3→varB r.Name=true
 n4:r.Kind=4→r.Text.size=0
theorem qg2 {r:S59} {d:Nat} (h:rHead r=0) (hd:d≤8):RF r d:=by
 unfold rHead at h
 split at h;· cases h
 rename_i c1
 simp only [decide_eq_true_eq,Bool.or_eq_true,not_or,Int.not_lt] at c1
 split at h
 ·rename_i k1
  simp only [beq_iff_eq] at k1
  split at h;· cases h
  rename_i c2
  simp only [Bool.or_eq_true,Bool.not_eq_true',beq_eq_false_iff_ne,q5p,decide_eq_false_iff_not,not_or,Decidable.not_not,ne_eq] at c2
  obtain ⟨⟨⟨a1,a2⟩,a3⟩,a4⟩:=c2
  exact ⟨hd,by omega,fun _=>⟨a1,a2,a3,a4,h⟩,fun e=>absurd k1 e,fun e=>by omega,fun _=>⟨a1,a4⟩,fun _=>a2,fun e=>by omega,fun e=>by omega⟩
 ·rename_i k1
  simp only [beq_iff_eq] at k1
  unfold pHead at h
  split at h;· cases h
  rename_i c2
  split at h;· cases h
  rename_i c3
  split at h;· cases h
  rename_i c4
  split at h;· cases h
  rename_i c5
  split at h;· cases h
  split at h;· cases h
  rename_i c7
  simp only [Bool.or_eq_true,Bool.and_eq_true,Bool.not_eq_true',beq_iff_eq,beq_eq_false_iff_ne,q5p,decide_eq_false_iff_not,decide_eq_true_eq,not_or,not_and,Decidable.not_not,ne_eq,noB,Bool.and_eq_false_iff,Bool.not_eq_false] at c2 c3 c4 c5 c7
  obtain ⟨⟨⟨⟨d1,d2⟩,d3⟩,d4⟩,d5⟩:=c2
  have d1':r.Test_Kind=0∧r.Test_Tests.length=0∧r.Test_Name.size=0∧r.Test_Pattern=0∧r.Test_Text.size=0∧r.Test_N=0:=by
   omega
  refine ⟨hd,by omega,fun e=>absurd e k1,fun _=>⟨d1'.1,List.eq_nil_of_length_eq_zero d1'.2.1,d1'.2.2.1,d1'.2.2.2.1,d1'.2.2.2.2.1,d1'.2.2.2.2.2,List.eq_nil_of_length_eq_zero d2.1,List.eq_nil_of_length_eq_zero d2.2⟩,fun e=>?_,fun e=>?_,fun e=>d4 e,fun e=>c5 e,fun e=>d5 e⟩
  ·have:=c3 e
   have h4:=c4 e
   exact ⟨by omega,h4.1,h4.2,by omega⟩
  ·exact d3 e
end Go.Proofs.YtognhcibcocbkaaGreatDoor
