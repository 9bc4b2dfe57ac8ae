/- sign.value, trace.Front and sign.Sign answer. -/
import Derived.Test.YtmlcmoaonaomfaaGreatDoorZ38
import Derived.Test.YtmlcmoaonaomfaaGreatDoorZ26
import Derived.Lib.ItoaNum
import Derived.Test.YtmlcmoaonaomfaaGreatDoorH6
namespace Go.Proofs.YtmlcmoaonaomfaaGreatDoor
open Go.RowKit
theorem ok_nb {α:Type} {q:Bool} {b:Oq α} {Q:α->Prop} (hq:q=false) (h:Ok b Q):Ok (brE q none b) Q:=by subst hq;exact h
set_option maxRecDepth 100000 in
theorem q1a5 (l:List S71) (b:List Int) (d:BA) (key:Int) (names:List BA) (h8:U8 b) (hd:d.size<=60) (hn:names.length<=20) (hs:∀ s∈names,s.size<=60):Ok (q17l l b d key names) λ_=>True:=.via q17k (by
 unfold q17m
 try simp only [gL,dL,lN,aL,dQ]
 simp only [x25q,x26q,x27q,qj,maxI]
 have hs2:∀ s∈names,s.size<=2000000:=λs h=>by have:=hs s h;omega
 refine qu7 (λ_=>?_) (λh12=>?_)
 ·refine qu6 (qu8 (qgd _ _)) λr0 h0=>qu9 rfl (qu9 rfl (qu6 (qh7 l names hs2) λr1 hr1=>qu6 (qu8 (qgb _ _)) λr2 h2=>qu7 (λhne=>?_) (λ_=>qua trivial)))
  rw [h2,h0] at hne
  cases hne
 ·have hb:b.length<=12000:=by have:=of_decide_eq_false h12;omega
  refine qu9 rfl (qu6 (q7y b h8 (by omega)) λr0 hr0=>qu6 qtj λr1 _=>qu9 rfl (qu9 rfl (qu6 (qh7 l names hs2) λr2 hr2=>qu6 (qu8 (qgb _ _)) λr3 _=>qu7 (λ_=>?_) (λ_=>qua trivial))))
  have c1:(ByteArray.mk (List.toArray [100,61])).size=2:=rfl
  have c2:(ByteArray.mk (List.toArray [59,32,104,61])).size=4:=rfl
  have c3:(ByteArray.mk (List.toArray [59,32,98,61])).size=4:=rfl
  have c4:(ByteArray.mk (List.toArray [59,32,115,61])).size=4:=rfl
  refine qu6 (qu8 (qgb _ _)) λr4 _=>qu7 (λ_=>qua trivial) (λ_=>?_)
  refine ok_nb (decide_eq_false (by (try simp only [ByteArray.size_append]);omega)) (ok_nb (decide_eq_false (by (try simp only [ByteArray.size_append]);omega)) (qu9 rfl (qu6 (qp6 names _ hn hs rfl) λr5 h5=>?_)))
  refine ok_nb (decide_eq_false (by (try simp only [ByteArray.size_append]);omega)) (ok_nb (decide_eq_false (by (try simp only [ByteArray.size_append]);omega)) (qu9 rfl (qu6 (sum_ok key r0 (by omega)) λr6 _=>qu6 (hex_ok r6) λr7 h7=>?_)))
  refine ok_nb (decide_eq_false (by (try simp only [ByteArray.size_append]);omega)) (ok_nb (decide_eq_false (by (try simp only [ByteArray.size_append]);omega)) ?_)
  simp only [bmap,qdf,x25q,x26q,x27q,q3k,qo9,ByteArray.size_append]
  obtain ⟨g1,g2⟩:=hr2
  refine qu9 (by simp;omega) (qu9 rfl (qu6 (sum_ok key _ (by simp only [x12q,qo9,ByteArray.size_append];omega)) λr8 _=>qu6 (hex_ok r8) λr9 h9=>?_))
  exact ok_nb (decide_eq_false (by omega)) (qua trivial))
theorem qb2 (b:List Int) (hb:b.length<=2000000):qb3 b=some (b.length,b):=by
 cases b with
 |nil=>exact qb1
 |cons x xs =>
  have:Ok (qb3 (x::xs)) λr=>r=((x::xs).length,x::xs):=.via qb0 (by
   unfold qb4
   try simp only [gL,dL,lN,aL,dQ,dM]
   simp only [x25q,x26q,x27q,q3k]
   exact qu9 rfl (qu9 (by simp at hb ⊢;omega) (qu9 rfl (qua rfl))))
  obtain ⟨r,e,rfl⟩:=this
  exact e
theorem qjt (l:List S71) (hl:l.length<=60) (b:List Int) (hb:b.length<=2000000) (n v:BA):Ok (q1dm l b n v) λr=>r.1=(l.length+1,b.length)/\r.2=(⟨n,v⟩::l,b):=.via q1dl (by
 unfold q1dn
 try simp only [gL,dL]
 have e:([[(C.sl [[(C.str n),(C.str v)]])],[(C.sl (EC.encL qd0 l))]]:List (List C))=qct.encL [[⟨n,v⟩],l]:=rfl
 simp only [e,x25q,x26q]
 have hc:catS [[⟨n,v⟩],l]=some (l.length+1,⟨n,v⟩::l):=by
  unfold catS
  have:([[(⟨n,v⟩:S71)],l]:List (List S71)).flatten=⟨n,v⟩::l:=by simp
  rw [this,if_pos (by simp;omega)]
  rfl
 refine qu9 rfl (qu6 (qu8 hc) λr0 h0=>qu9 rfl (qu6 (qu8 (qb2 b hb)) λr1 h1=>qu9 rfl (qu9 rfl (qua ?_))))
 subst h0
 subst h1
 exact ⟨rfl,rfl⟩)
def sigN:BA:=ByteArray.mk (List.toArray [77,97,105,108,45,83,105,103,110,97,116,117,114,101])
theorem q17g (l:List S71) (b:List Int) (d:BA) (key:Int) (names:List BA) (h8:U8 b) (hb:b.length<=2000000):Ok (q16v l b d key names) λr=>r.1.2.1=0->∃ v c,r.1.1=(l.length+1,b.length)/\r.2=(⟨sigN,v⟩::l,b)/\qrw (⟨sigN,v⟩::l) b=some (0,c)/\HdrOk (⟨sigN,v⟩::l):=.via q16u (by
 unfold q16w
 try simp only [gL,dL]
 simp only [x25q,x26q,x27q,qj]
 obtain ⟨r0,e0,p0⟩:=qsx l b hb
 refine qu9 rfl (qu9 rfl (qu6 (qu8 e0) λr hr=>?_))
 subst hr
 refine qu6 (qu8 (qgb _ _)) λr1 h1=>qu7 (λhf=>qua λh=>?_) (λhf=>?_)
 ·have h:r.1=0:=h
  rw [h1,h] at hf
  cases hf
 have h0:r.1=0:=by rw [h1] at hf;simpa using hf
 have hok:=p0 h0
 refine qu6 (q17s d) λr2 h2=>qu7 (λ_=>qu6 (qu8 (qgd _ _)) λr3 h3=>qua λh=>?_) (λhsm=>?_)
 ·rw [h3] at h;cases h
 have hd:=h2 (by simpa using hsm)
 refine qu9 rfl (qu6 (qt2 names) λr3 h3=>qu7 (λ_=>qu6 (qu8 (qgd _ _)) λr4 h4=>qua λh=>?_) (λhnm=>?_))
 ·rw [h4] at h;cases h
 obtain ⟨hn,hs⟩:=h3 (by simpa using hnm)
 refine qu9 rfl (qu9 rfl (qu9 rfl (qu6 (q1a5 l b d key names h8 hd hn hs) λr4 _=>qu7 (λ_=>qu6 (qu8 (qgd _ _)) λr5 h5=>qua λh=>?_) (λ_=>?_))))
 ·rw [h5] at h;cases h
 refine qu9 rfl (qu9 rfl (qu6 (qjt l hok.len b hb _ r4.1) λr5 h5=>?_))
 obtain ⟨g1,g2⟩:=h5
 rw [g2]
 obtain ⟨r6,e6,p6⟩:=qsx (⟨sigN,r4.1⟩::l) b hb
 refine qu9 rfl (qu9 rfl (qu6 (qu8 e6) λr7 h7=>qu6 (qu8 (qgb _ _)) λr8 h8'=>qu7 (λhf=>qu6 (qu8 (qgd _ _)) λr9 h9=>qua λh=>?_) (λhf=>?_)))
 ·rw [h9] at h
  have h:r7.1=0:=h
  rw [h8',h] at hf
  cases hf
 subst h7
 have hz:r7.1=0:=by rw [h8'] at hf;simpa using hf
 refine qu6 (qu8 none_s) λr9 h9=>qu9 rfl (qu9 rfl (qua λ_=>⟨r4.1,r7.2,g1,rfl,?_,p6 hz⟩))
 rw [e6,←hz])
end Go.Proofs.YtmlcmoaonaomfaaGreatDoor
namespace Go.Proofs.YtmlcmoaonaomfaaGreatDoor
open Go.RowKit
mutual
def szR:S38->Nat
 |⟨_,_,_,_,_,_,_,t,e,_,_,_,_⟩=>1+szL t+szL e
def szL:List S38->Nat
 |[]=>0
 |r::l=>szR r+szL l
end
def letterB (c:UInt8):Bool:=decide (97<=c.toNat)&&decide (c.toNat<=122)
def digitB (c:UInt8):Bool:=decide (48<=c.toNat)&&decide (c.toNat<=57)
def smallB (c:UInt8):Bool:=letterB c||digitB c
theorem qc0 (s:BA) {k:Nat} (h:k<s.size):s.data.toList.drop k=s.data.getD k 0::s.data.toList.drop (k+1):=by
 have h':k<s.data.toList.length:=by simpa using h
 rw [qcs h']
 congr 1
 have:k<s.data.size:=h
 show _=if h:k<s.data.size then s.data[k] else 0
 rw [dif_pos this]
 simp
def txtB (act:Int):Bool:=act==2||act==4||act==5||act==7
theorem q1d7 (act:Int):q142 act=some (txtB act):=by
 refine q141 ?_
 simp only [q143,q85,txtB]
 cases act==2 <;> cases act==4 <;> cases act==5 <;> cases act==7 <;> rfl
noncomputable def scriptF (l:List S38):Int×Int:=(qyw l).getD (0,0)
structure Tok where
 k:Nat
 s:List UInt8
 o:Nat
def wsB (c:UInt8):Bool:=c==32||c==9||c==13||c==10
def wsN (l:List UInt8):Nat:=(l.takeWhile wsB).length
def strq:List UInt8->Oq (List UInt8×Nat)
 |[]=>none
 |[c]=>if c=34 then some ([],1) else none
 |c::d::r=>if c=34 then some ([],1) else if c=92 then (if d=34∨d=92 then (strq r).map λx=>(d::x.1,x.2+2) else none) else (strq (d::r)).map λx=>(c::x.1,x.2+1)
def lexT:List UInt8->(Nat×List UInt8)×Nat
 |[]=>((0,[]),0)
 |c::r=>if c=34 then (match strq r with|some x=>((1,x.1),x.2+1)|none=>((5,[]),0))
  else if letterB c=true then ((2,c::r.takeWhile smallB),(r.takeWhile smallB).length+1)
  else if digitB c=true then ((3,c::r.takeWhile digitB),(r.takeWhile digitB).length+1)
  else ((4,[c]),1)
def endK (k:Nat):Bool:=k==0||k==5
def toks:Nat->List UInt8->Nat->List Tok
 |0,_,_=>[]
 |f+1,l,o=>⟨(lexT (l.drop (wsN l))).1.1,(lexT (l.drop (wsN l))).1.2,o+wsN l⟩ ::
  (if endK (lexT (l.drop (wsN l))).1.1=true then [] else toks f (l.drop (wsN l+(lexT (l.drop (wsN l))).2)) (o+wsN l+(lexT (l.drop (wsN l))).2))
def thn {α β:Type} (x:Nat⊕α) (f:α->Nat⊕β):Nat⊕β:=match x with
 |.inl o=>.inl o
 |.inr a=>f a
def ofs:List Tok->Nat
 |x::_=>x.o
 |[]=>0
def isT (k:Nat) (s:List UInt8):List Tok->Bool
 |x::_=>x.k==k&&x.s==s
 |[]=>false
def sTake (k:Nat):List Tok->Nat⊕(List UInt8×List Tok)
 |x::r=>if x.k=k then .inr (x.s,r) else .inl x.o
 |[]=>.inl 0
def sNeed (s:List UInt8) (L:List Tok):Nat⊕List Tok:=if isT 4 s L=true then .inr L.tail else .inl (ofs L)
def numV (s:List UInt8):Nat:=s.foldl (λn c=>10*n+(c.toNat - 48)) 0
def numOk (s:List UInt8):Bool:=decide (s.length<=7)&&!(decide (1<s.length)&&s.head?==some 48)
def sNum:List Tok->Nat⊕(Nat×List Tok)
 |x::r=>if x.k=3/\numOk x.s=true then .inr (numV x.s,r) else .inl x.o
 |[]=>.inl 0
def wIs:List UInt8:=[105,115]
def wContains:List UInt8:=[99,111,110,116,97,105,110,115]
def wLike:List UInt8:=[108,105,107,101]
def wTrue:List UInt8:=[116,114,117,101]
def wNot:List UInt8:=[110,111,116]
def wAll:List UInt8:=[97,108,108]
def wAny:List UInt8:=[97,110,121]
def wHeader:List UInt8:=[104,101,97,100,101,114]
def wFrom:List UInt8:=[102,114,111,109]
def wTo:List UInt8:=[116,111]
def wSize:List UInt8:=[115,105,122,101]
def wExists:List UInt8:=[101,120,105,115,116,115]
def wKeep:List UInt8:=[107,101,101,112]
def wFile:List UInt8:=[102,105,108,101]
def wDiscard:List UInt8:=[100,105,115,99,97,114,100]
def wRedirect:List UInt8:=[114,101,100,105,114,101,99,116]
def wReject:List UInt8:=[114,101,106,101,99,116]
def wFlag:List UInt8:=[102,108,97,103]
def wReply:List UInt8:=[114,101,112,108,121]
def wIf:List UInt8:=[105,102]
def wElse:List UInt8:=[101,108,115,101]
def wSet:List UInt8:=[115,101,116]
def wStop:List UInt8:=[115,116,111,112]
def matchN (s:List UInt8):Nat:=if s=wIs then 1 else if s=wContains then 2 else if s=wLike then 3 else 0
def testN (s:List UInt8):Nat:=if s=wTrue then 1 else if s=wNot then 2 else if s=wAll then 3 else if s=wAny then 4 else if s=wHeader then 5 else if s=wFrom then 6 else if s=wTo then 7 else if s=wSize then 8 else if s=wExists then 9 else 0
def actN (s:List UInt8):Nat:=if s=wKeep then 1 else if s=wFile then 2 else if s=wDiscard then 3 else if s=wRedirect then 4 else if s=wReject then 5 else if s=wFlag then 6 else if s=wReply then 7 else 0
def sMatch:List Tok->Nat⊕((Nat×List UInt8)×List Tok)
 |x::r=>if x.k=2/\matchN x.s≠0 then thn (sTake 1 r) λy=>.inr ((matchN x.s,y.1),y.2) else .inl x.o
 |[]=>.inl 0
def baL (l:List UInt8):BA:=⟨l.toArray⟩
def tst (k:Nat) (ts:List S35) (nm:List UInt8) (p:Nat) (tx:List UInt8) (n:Nat):S35:=⟨k,ts,baL nm,p,baL tx,n⟩
mutual
def sTest:Nat->Nat->List Tok->Nat⊕(S35×List Tok)
 |0,_,L=>.inl (ofs L)
 |_+1,_,[]=>.inl 0
 |f+1,d,x::r=>if 8<d∨x.k≠2 then .inl x.o else match testN x.s with
  |0=>.inl x.o
  |1=>.inr (tst 1 [] [] 0 [] 0,r)
  |2=>thn (sTest f (d+1) r) λy=>.inr (tst 2 [y.1] [] 0 [] 0,y.2)
  |3=>thn (sNeed [40] r) λr1=>thn (sTests f (d+1) r1) λy=>thn (sNeed [41] y.2) λr2=>.inr (tst 3 y.1 [] 0 [] 0,r2)
  |4=>thn (sNeed [40] r) λr1=>thn (sTests f (d+1) r1) λy=>thn (sNeed [41] y.2) λr2=>.inr (tst 4 y.1 [] 0 [] 0,r2)
  |5=>thn (sTake 1 r) λy=>thn (sMatch y.2) λz=>.inr (tst 5 [] y.1 z.1.1 z.1.2 0,z.2)
  |6=>thn (sMatch r) λz=>.inr (tst 6 [] [] z.1.1 z.1.2 0,z.2)
  |7=>thn (sMatch r) λz=>.inr (tst 7 [] [] z.1.1 z.1.2 0,z.2)
  |8=>thn (sNum r) λz=>.inr (tst 8 [] [] 0 [] z.1,z.2)
  |_=>thn (sTake 1 r) λy=>.inr (tst 9 [] y.1 0 [] 0,y.2)
def sTests:Nat->Nat->List Tok->Nat⊕(List S35×List Tok)
 |0,_,L=>.inl (ofs L)
 |f+1,d,L=>thn (sTest f d L) λy=>if isT 4 [44] y.2=true then thn (sTests f d y.2.tail) λz=>.inr (y.1::z.1,z.2) else .inr ([y.1],y.2)
end
def rul (k:Nat) (t:S35) (th el:List S38) (act:Nat) (nm tx:List UInt8) (n:Nat):S38:=⟨k,t.Kind,t.Tests,t.Name,t.Pattern,t.Text,t.N,th,el,act,baL nm,baL tx,n⟩
def t0:S35:=tst 0 [] [] 0 [] 0
def stopB (x:Tok):Bool:=x.k==0||(x.k==4&&x.s==[125])
mutual
def sRule:Nat->Nat->Nat->List Tok->Nat⊕(S38×List Tok×Nat)
 |0,_,_,L=>.inl (ofs L)
 |_+1,_,_,[]=>.inl 0
 |f+1,d,m,x::r=>if 100<m+1∨8<d∨x.k≠2 then .inl x.o
  else if x.s=wIf then thn (sTest f 1 r) λt=>thn (sBlock f (d+1) (m+1) t.2) λb =>
   if isT 2 wElse b.2.1=true then thn (sBlock f (d+1) b.2.2 b.2.1.tail) λe=>.inr (rul 1 t.1 b.1 e.1 0 [] [] 0,e.2.1,e.2.2)
   else .inr (rul 1 t.1 b.1 [] 0 [] [] 0,b.2.1,b.2.2)
  else if x.s=wSet then thn (sTake 2 r) λa=>thn (sTake 1 a.2) λb=>thn (sNeed [59] b.2) λr1=>.inr (rul 3 t0 [] [] 0 a.1 b.1 0,r1,m+1)
  else if x.s=wStop then thn (sNeed [59] r) λr1=>.inr (rul 4 t0 [] [] 0 [] [] 0,r1,m+1)
  else if actN x.s=0 then .inl x.o
  else if actN x.s=6 then thn (sNum r) λa=>thn (sNeed [59] a.2) λr1=>.inr (rul 2 t0 [] [] 6 [] [] a.1,r1,m+1)
  else if txtB (actN x.s)=true then thn (sTake 1 r) λa=>thn (sNeed [59] a.2) λr1=>.inr (rul 2 t0 [] [] (actN x.s) [] a.1 0,r1,m+1)
  else thn (sNeed [59] r) λr1=>.inr (rul 2 t0 [] [] (actN x.s) [] [] 0,r1,m+1)
def sBlock:Nat->Nat->Nat->List Tok->Nat⊕(List S38×List Tok×Nat)
 |0,_,_,L=>.inl (ofs L)
 |f+1,d,m,L=>thn (sNeed [123] L) λr=>thn (sRules f d m r) λy=>thn (sNeed [125] y.2.1) λr2=>.inr (y.1,r2,y.2.2)
def sRules:Nat->Nat->Nat->List Tok->Nat⊕(List S38×List Tok×Nat)
 |0,_,_,L=>.inl (ofs L)
 |_+1,_,m,[]=>.inr ([],[],m)
 |f+1,d,m,x::r=>if stopB x=true then .inr ([],x::r,m) else thn (sRule f d m (x::r)) λy=>thn (sRules f d y.2.2 y.2.1) λz=>.inr (y.1::z.1,z.2.1,z.2.2)
end
def fuel (t:List UInt8):Nat:=4*t.length+16
def sScript (t:List UInt8):Nat⊕List S38:=thn (sRules (fuel t) 1 0 (toks (t.length+1) t 0)) λy=>match y.2.1 with
 |x::_=>if x.k=0 then .inr y.1 else .inl x.o
 |[]=>.inl 0
noncomputable def sParse (t:List UInt8):List S38×(Int×Int):=if 4000<t.length then ([],(1,-1)) else match sScript t with
 |.inl o=>([],(11,o))
 |.inr l=>if (scriptF l).1≠0 then ([],((scriptF l).1,-2)) else (l,(0,0))
def bl (s:BA):List UInt8:=s.data.toList
def er (x:Tok):Nat×List UInt8:=(x.k,x.s)
def toksF (l:List UInt8) (o:Nat):List Tok:=toks (l.length+1) l o
theorem q19x:∀ (n:Nat) (l:List UInt8),l.length<=n->∀ x,strq l=some x->1<=x.2/\x.2<=l.length
 |_,[],_,x,h=>by simp [strq] at h
 |_,[c],_,x,h=>by
  simp only [strq] at h
  split at h
  ·injection h with h;subst h;simp
  ·cases h
 |0,_::_::_,hl,_,_=>by simp at hl
 |n+1,c::d::r,hl,x,h=>by
  simp only [strq] at h
  simp only [x9q] at hl ⊢
  split at h
  ·injection h with h;subst h;simp
  ·split at h
   ·split at h
    ·cases hr:strq r with
     |none=>rw [hr] at h;cases h
     |some y =>
      rw [hr] at h
      injection h with h;subst h
      have:=q19x n r (by omega) y hr
      simp only;omega
    ·cases h
   ·cases hr:strq (d::r) with
    |none=>rw [hr] at h;cases h
    |some y =>
     rw [hr] at h
     injection h with h;subst h
     have:=q19x n (d::r) (by simp only [x9q];omega) y hr
     simp only [x9q] at this ⊢;omega
theorem q1cv {α:Type} (p:α->Bool):∀ l:List α,(l.takeWhile p).length<=l.length
 |[]=>by simp
 |a::l=>by
  rw [List.takeWhile_cons]
  split
  ·simp only [x9q];have:=q1cv p l;omega
  ·simp
theorem qqk (l:List UInt8):(lexT l).2<=l.length/\(endK (lexT l).1.1=false->1<=(lexT l).2):=by
 cases l with
 |nil=>simp [lexT,endK]
 |cons c r =>
  simp only [lexT,x9q]
  split
  ·cases hq:strq r with
   |none=>simp [endK]
   |some x =>
    have:=q19x _ r (Nat.le_refl _) x hq
    simp only;exact ⟨by omega,λ_=>by omega⟩
  ·split
   ·have:=q1cv smallB r
    exact ⟨by simp only;omega,λ_=>by simp only;omega⟩
   ·split
    ·have:=q1cv digitB r
     exact ⟨by simp only;omega,λ_=>by simp only;omega⟩
    ·exact ⟨by simp only;omega,λ_=>by simp only;omega⟩
theorem wsN_le (l:List UInt8):wsN l<=l.length:=q1cv wsB l
theorem q1df:∀ (f:Nat) (l:List UInt8) (o:Nat),l.length<f->∀ g,l.length<g->toks f l o=toks g l o
 |0,_,_,h,_,_=>by omega
 |f+1,l,o,h,0,hg=>by omega
 |f+1,l,o,h,g+1,hg=>by
  simp only [toks]
  congr 1
  split
  ·rfl
  ·rename_i hk
   have hk':endK (lexT (l.drop (wsN l))).1.1=false:=by simpa using hk
   have h1:=qqk (l.drop (wsN l))
   have h2:=h1.2 hk'
   have h3:=h1.1
   have h4:=wsN_le l
   rw [List.length_drop] at h3
   exact q1df f _ _ (by rw [List.length_drop];omega) g (by rw [List.length_drop];omega)
theorem q1dd (l:List UInt8) (o:Nat):toksF l o=⟨(lexT (l.drop (wsN l))).1.1,(lexT (l.drop (wsN l))).1.2,o+wsN l⟩ ::
  (if endK (lexT (l.drop (wsN l))).1.1=true then [] else toksF (l.drop (wsN l+(lexT (l.drop (wsN l))).2)) (o+wsN l+(lexT (l.drop (wsN l))).2)):=by
 unfold toksF
 conv=>lhs;unfold toks
 congr 1
 split
 ·rfl
 ·rename_i hk
  have hk':endK (lexT (l.drop (wsN l))).1.1=false:=by simpa using hk
  have h1:=qqk (l.drop (wsN l))
  have h2:=h1.2 hk'
  have h3:=h1.1
  have h4:=wsN_le l
  rw [List.length_drop] at h3
  exact q1df _ _ _ (by rw [List.length_drop];omega) _ (by omega)
theorem q1de (c:UInt8) (hc:wsB c=true) (l:List UInt8) (o:Nat):toksF (c::l) o=toksF l (o+1):=by
 have e:wsN (c::l)=wsN l+1:=by simp [wsN,List.takeWhile_cons,hc]
 rw [q1dd,q1dd l]
 rw [e,List.drop_succ_cons]
 have e2:(c::l).drop (wsN l+1+(lexT (l.drop (wsN l))).2)=l.drop (wsN l+(lexT (l.drop (wsN l))).2):=by
  rw [show wsN l+1+(lexT (l.drop (wsN l))).2=(wsN l+(lexT (l.drop (wsN l))).2)+1 by omega,List.drop_succ_cons]
 rw [e2,show o+(wsN l+1)=o+1+wsN l by omega]
theorem q19w:∀ (s rest:List UInt8),strq (esc s++34::rest)=some (s,(esc s).length+1)
 |[],rest=>by cases rest <;> simp [esc,strq]
 |c::s,rest=>by
  simp only [esc]
  split
  ·rename_i hc
   have ih:=q19w s rest
   have h1:¬ ((92:UInt8)=34):=by decide
   simp only [List.cons_append,strq,h1,x21q,x20q,hc,ih,x18q]
   simp
  ·rename_i hc
   have hc1:¬ c=34:=λe=>hc (.inl e)
   have hc2:¬ c=92:=λe=>hc (.inr e)
   have ih:=q19w s rest
   cases he:esc s++34::rest with
   |nil=>simp at he
   |cons d r =>
    rw [he] at ih
    simp only [List.cons_append,he,strq,hc1,hc2,x21q,ih,x18q]
    simp
theorem tk {l:List UInt8} (w:Nat) {k n:Nat} {s:List UInt8} (l':List UInt8) {o:Nat} (hw:wsN l=w) (hl:lexT (l.drop w)=((k,s),n)) (he:endK k=false) (hd:l.drop (w+n)=l'):toksF l o=⟨k,s,o+w⟩::toksF l' (o+w+n):=by
 rw [q1dd,hw,hl,hd]
 simp only [he,x1q,x21q]
def sgL:List UInt8:=[109,97,105,108,45,115,105,103,110,97,116,117,114,101]
def preL:List UInt8:=[105,102,32,110,111,116,32,101,120,105,115,116,115,32,34,109,97,105,108,45,115,105,103,110,97,116,117,114,101,34,32,123,10,32,32,102,105,108,101,32]
def txtL (s:List UInt8):List UInt8:=preL++(34::(esc s++34::[59,10,125,10]))
theorem q1ds (s:List UInt8):toksF (txtL s) 0=[⟨2,wIf,0⟩,⟨2,wNot,3⟩,⟨2,wExists,7⟩,⟨1,sgL,14⟩,⟨4,[123],31⟩,⟨2,wFile,35⟩,⟨1,s,40⟩,⟨4,[59],(esc s).length+42⟩,⟨4,[125],(esc s).length+44⟩,⟨0,[],(esc s).length+46⟩]:=by
 unfold txtL preL
 have hs:=q19w s [59,10,125,10]
 have e1:lexT (34::(esc s++34::[59,10,125,10]))=((1,s),(esc s).length+2):=by simp only [lexT,x20q,hs]
 have e2:(34::(esc s++34::[59,10,125,10])).drop ((esc s).length+2)=[59,10,125,10]:=by simp
 have e3:∀ o,toksF [59,10,125,10] o=[⟨4,[59],o⟩,⟨4,[125],o+2⟩,⟨0,[],o+4⟩]:=by
  intro o
  rw [tk 0 [10,125,10] rfl rfl rfl rfl,tk 1 [10] rfl rfl rfl rfl,q1dd]
  rfl
 have hq:wsN (34::(esc s++34::[59,10,125,10]))=0:=rfl
 generalize 34::(esc s++34::[59,10,125,10])=q at e1 e2 hq
 have h:toksF ([105,102,32,110,111,116,32,101,120,105,115,116,115,32,34,109,97,105,108,45,115,105,103,110,97,116,117,114,101,34,32,123,10,32,32,102,105,108,101,32]++q) 0=[⟨2,wIf,0⟩,⟨2,wNot,3⟩,⟨2,wExists,7⟩,⟨1,sgL,14⟩,⟨4,[123],31⟩,⟨2,wFile,35⟩]++toksF (32::q) 39:=by
  simp only [List.cons_append,List.nil_append]
  rw [tk 0 (k:=2) (s:=wIf) (n:=2) _ rfl rfl rfl rfl]
  simp only [List.drop_succ_cons,x10q,x13q]
  rw [tk 1 (k:=2) (s:=wNot) (n:=3) _ rfl rfl rfl rfl]
  simp only [List.drop_succ_cons,x10q]
  rw [tk 1 (k:=2) (s:=wExists) (n:=6) _ rfl rfl rfl rfl]
  simp only [List.drop_succ_cons,x10q]
  rw [tk 1 (k:=1) (s:=sgL) (n:=16) _ rfl rfl rfl rfl]
  simp only [List.drop_succ_cons,x10q]
  rw [tk 1 (k:=4) (s:=[123]) (n:=1) _ rfl rfl rfl rfl]
  simp only [List.drop_succ_cons,x10q]
  rw [tk 3 (k:=2) (s:=wFile) (n:=4) _ rfl rfl rfl rfl]
  simp only [List.drop_succ_cons,x10q]
 rw [h,q1de 32 rfl]
 rw [tk 0 [59,10,125,10] hq e1 rfl (by rw [x13q];exact e2),e3]
 simp only [List.cons_append,List.nil_append,Nat.add_zero,x13q]
 rw [show 40+((esc s).length+2)=(esc s).length+42 by omega]
def scr (b:BA):List S38:=[⟨1,2,[⟨9,[],baL sgL,0,baL [],0⟩],baL [],0,baL [],0,[⟨2,0,[],baL [],0,baL [],0,[],[],2,baL [],b,0⟩],[],0,baL [],baL [],0⟩]
theorem q1dr (s:List UInt8):sScript (txtL s)=.inr (scr (baL s)):=by
 unfold sScript
 rw [show toks ((txtL s).length+1) (txtL s) 0=_ from q1ds s]
 unfold fuel
 generalize 4*(txtL s).length=n
 simp [scr,sgL,sRules,sRule,sTest,sBlock,sNeed,sTake,thn,isT,stopB,testN,actN,txtB,ofs,tst,rul,t0,wIf,wNot,wExists,wFile,wKeep,wSet,wStop,wElse,wTrue,wAll,wAny,wHeader,wFrom,wTo,wSize]
theorem q156 (b:BA):scrE b=qcw.encL (scr b):=by
 simp only [scr,EC.encL,List.map_cons,List.map_nil,qdc,qdb]
 rfl
theorem qg6 {P:Program} {live:FuncId->Nat->List Nat} {X:XT} {τ τ' ρ:Type} {f:FuncId} {ca:Cod (List V) τ} {ca':Cod (List V) τ'} {cr:Cod (V×List B) ρ} {x:τ} {x':τ'} (h:ca.enc x=ca'.enc x'):fS P live X f ca cr x=fS P live X f ca' cr x':=by
 unfold fS
 rw [h]
theorem expN:∀ (n:Nat) (s out:List UInt8),s.length<n->out.length+s.length<=100000000->∃ r,expF [] n s out=some r:=by
 intro n
 induction n with
 |zero=>intro s out h;omega
 |succ n ih =>
  intro s out hn ho
  rw [expF]
  split
  ·rw [if_pos (by omega)]
   exact ⟨_,rfl⟩
  ·rename_i hc
   have h1:(Lib.cut s [36,123]).2.2=true:=by
    cases hh:(Lib.cut s [36,123]).2.2 with
    |true=>rfl
    |false=>exact absurd (.inl hh) hc
   have h2:(Lib.cut (Lib.cut s [36,123]).2.1 [125]).2.2=true:=by
    cases hh:(Lib.cut (Lib.cut s [36,123]).2.1 [125]).2.2 with
    |true=>rfl
    |false=>exact absurd (.inr hh) hc
   have c1:=qbv s [36,123] h1
   have c2:=qbv (Lib.cut s [36,123]).2.1 [125] h2
   have hv:(getM [] (Lib.cut (Lib.cut s [36,123]).2.1 [125]).1).length=0:=rfl
   simp only [x9q,x8q] at c1 c2
   rw [if_pos (by omega)]
   refine ih _ _ (by omega) ?_
   simp only [x12q]
   omega
theorem exp_ok (s:BA) (hs:s.size<=2000000):Ok (expP [] s) λ_=>True:=by
 have e:s.data.toList.length=s.size:=by rw [x24q];rfl
 obtain ⟨r,h⟩:=expN (s.size+1) s.data.toList [] (by omega) (by simp;omega)
 unfold expP
 rw [if_pos (by omega),h]
 exact ⟨_,rfl,trivial⟩
theorem isScr (b:BA):EC.isL qcw (scrE b)=true:=by rw [q156,x26q]
theorem decScr (b:BA):EC.decL qcw (scrE b)=scr b:=by rw [q156,x25q]
structure MlOk (f:BA) (rc:List S73) (bd:List Int):Prop where
 fr:f.size<=2000000
 rl:rc.length<=2000000
 ad:∀ x∈rc,x.Address.size<=2000000
 bl:bd.length<=2000000
theorem qsz (l:List S71) (b:List Int) (hb:b.length<=2000000):Ok (qs2 l b) λr=>(r.1.2.1=0->HdrOk l)/\r.1.1=r.2.length:=.via qs1 (by
 unfold qs3
 try simp only [gL,dL]
 simp only [x25q,x26q,x27q,qj]
 refine qu9 rfl (qu9 rfl (qu6 (qsx l b hb) λr hr=>qu6 (qu8 (qgb _ _)) λr1 hr1=>?_))
 subst hr1
 refine qu7 (λhb=>qua ⟨hr,rfl⟩) (λhb0=>?_)
 have h0:r.1=0:=by simpa using hb0
 have hok:=hr h0
 exact qu9 rfl (qu9 rfl (qu6 (q1ev l hok.len b hb) λr2 h2=>qu6 qtj λr3 _=>qu9 rfl (qua ⟨λ_=>hok,h2⟩))))
theorem qsy {l:List S71} {b:List Int} (hb:b.length<=2000000) {c:Int} (h:qrw l b=some (0,c)):Ok (qs2 l b) λr=>r.1.2.1=0:=.via qs1 (by
 obtain ⟨r,e,p⟩:=qsx l b hb
 have hl:HdrOk l:=p (by rw [h] at e;injection e with e;rw [←e])
 unfold qs3
 try simp only [gL,dL]
 simp only [x25q,x26q,x27q,qj]
 refine qu9 rfl (qu9 rfl (qu6 (qu8 h) λr hr=>qu6 (qu8 (qgb _ _)) λr1 hr1=>?_))
 subst hr
 subst hr1
 refine qu7 (λhb=>by cases hb) (λ_=>?_)
 exact qu9 rfl (qu9 rfl (qu6 (q1ev l hl.len b hb) λr2 h2=>qu6 (qu8 none_s) λr3 h3=>qu9 rfl (qua (by rw [h3])))))
theorem sgS:sigL.size<=2000000:=by decide
theorem q14m (s f:BA) (rc:List S73) (e:BA) (fs:List S71) (bd:List Int) (h:MlOk f rc bd) (hs:s.size<=2000000) (hv:∃ z,qyw (scr s)=some z) :
  Ok (q14f s f rc e fs bd) λr=>r.1.2.1=0->(∃ i,qf4 f rc e=some (0,i))/\(valsL fs sigL=[]->r.1.1=1/\∃ x,r.2=[⟨2,x,0⟩]):=.via q14e (by
 obtain ⟨z,hz⟩:=hv
 unfold q14g
 try simp only [gL,dL]
 simp only [x25q,x26q,x27q,qj]
 refine qu9 (isScr s) ?_
 rw [decScr]
 refine qu6 (qu8 hz) λr0 h0=>qu6 (qu8 (qgb _ _)) λr1 h1=>qu7 (λhf=>qua λh=>?_) (λ_=>?_)
 ·have h:r0.1=0:=h
  rw [h1,h] at hf
  cases hf
 obtain ⟨r2,e2,_⟩:=env_ok f rc e h.fr h.rl h.ad
 refine qu9 rfl (qu6 (qu8 e2) λr2' h2=>qu6 (qu8 (qgb _ _)) λr3 h3=>?_)
 subst h2
 refine qu7 (λhf=>qu6 (qu8 (qgd _ _)) λr4 h4=>qua λh=>?_) (λhf0=>?_)
 ·rw [h4] at h
  have h:r2'.1=0:=h
  rw [h3,h] at hf
  cases hf
 have he:qf4 f rc e=some (0,r2'.2):=by
  have:r2'.1=0:=by rw [h3] at hf0;simpa using hf0
  rw [e2,←this]
 refine qu9 rfl (qu9 rfl (qu6 (qsz fs bd h.bl) λr4 h4=>qu6 (qu8 (qgb _ _)) λr5 h5=>qu7 (λhf=>qu6 (qu8 (qgd _ _)) λr6 h6=>qua λh=>?_) (λhf1=>?_)))
 ·rw [h6] at h
  have h:r4.1.2.1=0:=h
  rw [h5,h] at hf
  cases hf
 have hl:=h4.1 (by rw [h5] at hf1;simpa using hf1)
 refine qu9 rfl (qu6 (get_s hl sigL sgS) λr6 h6=>qu7 (λhq=>qu6 qtj λr7 _=>qua λ_=>⟨⟨_,he⟩,λhn=>?_⟩) (λ_=>?_))
 ·rw [hn] at h6
  have h7:r6.1.1=0:=by rw [h6.2,h6.1];rfl
  rw [h7] at hq
  cases hq
 ·exact qu6 (exp_ok s hs) λr7 _=>qu6 qtj λr8 _=>qua λ_=>⟨⟨_,he⟩,λ_=>⟨rfl,r7,rfl⟩⟩)
theorem q150 (s f:BA) (rc:List S73) (e:BA) (fs:List S71) (bd:List Int) (h:MlOk f rc bd) (hs:s.size<=2000000) {z:Int} (hz:qyw (scr s)=some (0,z)) {i:Int} (he:qf4 f rc e=some (0,i)) {c:Int} (hm:qrw fs bd=some (0,c)) (hn:valsL fs sigL≠[]) :
  Ok (q14f s f rc e fs bd) λr=>r=((1,(0,0)),[⟨1,ByteArray.mk (List.toArray []),0⟩]):=.via q14e (by
 unfold q14g
 try simp only [gL,dL]
 simp only [x25q,x26q,x27q,qj]
 refine qu9 (isScr s) ?_
 rw [decScr]
 refine qu6 (qu8 hz) λr0 h0=>qu6 (qu8 (qgb _ _)) λr1 h1=>qu7 (λhf=>?_) (λ_=>?_)
 ·rw [h1,h0] at hf
  cases hf
 refine qu9 rfl (qu6 (qu8 he) λr2 h2=>qu6 (qu8 (qgb _ _)) λr3 h3=>qu7 (λhf=>?_) (λ_=>?_))
 ·rw [h3,h2] at hf
  cases hf
 obtain ⟨q,eq,pq⟩:=qsy h.bl hm
 obtain ⟨q',eq',pq',_⟩:=qsz fs bd h.bl
 have hl:HdrOk fs:=pq' (by rw [eq] at eq';injection eq' with eq';rw [←eq'];exact pq)
 refine qu9 rfl (qu9 rfl (qu6 (qu8 eq) λr4 h4=>qu6 (qu8 (qgb _ _)) λr5 h5=>qu7 (λhf=>?_) (λ_=>?_)))
 ·rw [h5,h4,pq] at hf
  cases hf
 refine qu9 rfl (qu6 (get_s hl sigL sgS) λr6 h6=>qu7 (λhq=>qu6 (qu8 none_s) λr7 h7=>qua ?_) (λhq=>?_))
 ·rw [h7]
  rfl
 ·exfalso
  have:0<r6.1.1:=by
   rw [h6.2,h6.1]
   exact List.length_pos_iff.2 hn
  have h9:decide (((r6.1.1:Nat):Int)>0)=true:=by simp;omega
  rw [h9] at hq
  cases hq)
set_option maxRecDepth 100000 in
theorem val_ok (b:BA) (hv:∀ {x:BA},qyw (scr x)=q1e7 x):∃ z,qyw (scr b)=some z:=by
 rw [hv]
 have:Ok (q1e7 b) λ_=>True:=.via q1e6 (by
  unfold q1e8
  try simp only [wI]
  repeat' (first
   |exact qua trivial
   |refine qu6 qtj λ_ _=>?_
   |refine qu6 (qgc _ _) λ_ _=>?_
   |refine qu6 (qu8 (qgb _ _)) λ_ _=>?_
   |refine qu7 (λ_=>?_) (λ_=>?_)))
 obtain ⟨z,h,_⟩:=this
 exact ⟨z,h⟩
theorem valS (b:BA):qyw (scr b)=q1e7 b:=qg6 (by
 show [V.c (C.sl (qcw.encL (scr b)))]=[V.c (C.sl (scrE b))]
 rw [q156])
theorem prn1 (s:BA):(List.getD [(ByteArray.mk (List.toArray [107,101,101,112])),(ByteArray.mk (List.toArray [102,105,108,101])),(ByteArray.mk (List.toArray [100,105,115,99,97,114,100])),(ByteArray.mk (List.toArray [114,101,100,105,114,101,99,116])),(ByteArray.mk (List.toArray [114,101,106,101,99,116])),(ByteArray.mk (List.toArray [102,108,97,103])),(ByteArray.mk (List.toArray [114,101,112,108,121]))] (Int.toNat (Go.IntKind.wrap Go.IntKind.i64 ((qo4 (List.getD (List.getD (slOf (List.getD (List.getD (scrE s) (Int.toNat (0:Int)) []) (7:Nat) C.ne)) (Int.toNat (0:Int)) []) (9:Nat) C.ne)) - (1:Int)))) ByteArray.empty)=baL wFile:=rfl
theorem prn2:List.flatten (List.replicate (Int.toNat (Go.IntKind.wrap Go.IntKind.i64 ((0:Int)+(1:Int)))) [(32:UInt8),(32:UInt8)])=[32,32]:=rfl
theorem prn3 (s:BA):(ByteArray.mk (List.toArray (quoL (Array.toList (ByteArray.data (q18t (List.getD (List.getD (slOf (List.getD (List.getD (scrE s) (Int.toNat (0:Int)) []) (2:Nat) C.ne)) (Int.toNat (0:Int)) []) (2:Nat) C.ne)))))))=baL (34::(sgL++[34])):=rfl
theorem prn4:List.flatten (List.replicate (Int.toNat (0:Int)) [(32:UInt8),(32:UInt8)])=[]:=rfl
theorem prn5 (s:BA):(q18t (List.getD (List.getD (slOf (List.getD (List.getD (scrE s) (Int.toNat (0:Int)) []) (7:Nat) C.ne)) (Int.toNat (0:Int)) []) (11:Nat) C.ne))=s:=rfl
theorem prn6 (l:List UInt8):ByteArray.mk (List.toArray l)=baL l:=rfl
theorem baS (l:List UInt8):(baL l).size=l.length:=rfl
theorem baA (a b:List UInt8):baL a++baL b=baL (a++b):=BA_ext (by simp [L,baL])
theorem escN:∀ s:List UInt8,(esc s).length<=2*s.length
 |[]=>by simp [esc]
 |c::s=>by
  have:=escN s
  simp only [esc]
  split <;> (simp only [x9q];omega)
theorem hsz {x y:Nat} (h:x+y<=1000000000):decide (((x+y:Nat):Int)>IntKind.max .i64)=false:=decide_eq_false (by
 show ¬ (_>(9223372036854775807:Int))
 omega)
theorem qx2 (s:BA) (hs:s.size<=2000000):Ok (qx0 s) λr=>r.2.1=0->r.1=baL (txtL (bl s))/\(txtL (bl s)).length<=4000/\∃ z,qyw (scr s)=some (0,z):=.via qwz (by
 obtain ⟨z,hz⟩:=val_ok s (valS _)
 have hl:(bl s).length=s.size:=by simp [bl]
 have hq:quoP s=some (baL (34::(esc (bl s)++[34]))):=by unfold quoP;rw [if_pos (by omega)];rfl
 have he:=escN (bl s)
 unfold qx1
 try simp only [wI]
 simp only [prn1,prn3,decScr]
 simp only [prn2,prn4,prn5,prn6]
 refine qu9 (isScr s) (qu6 (qu8 hz) λr0 h0=>qu6 (qu8 (qgb _ _)) λr1 h1=>qu7 (λhf=>qua λh=>?_) (λhf=>qu6 (qu8 hq) λr2 h2=>?_))
 ·have h:r0.1=0:=h
  rw [h1,h] at hf
  cases hf
 subst h2
 have l1:wFile.length=4:=rfl
 have l2:sgL.length=14:=rfl
 simp only [baA,baS]
 iterate 9 refine ok_nb (hsz (by simp only [x12q,x9q,x8q,l1,l2];omega)) ?_
 refine qu7 (λ_=>qu6 (qu8 (qgd _ _)) λr3 h3=>qua λh=>?_) (λh4=>qu6 (qu8 none_s) λr3 h3=>qua λ_=>?_)
 ·rw [h3] at h
  cases h
 ·have e:∀ t:List UInt8,t=txtL (bl s)->decide (((t.length:Nat):Int)>4000)=false->baL t=baL (txtL (bl s))/\(txtL (bl s)).length<=4000:=by
   intro t ht hd
   subst ht
   exact ⟨rfl,by have:=of_decide_eq_false hd;omega⟩
  have g:=e _ (by simp [txtL,preL,sgL,wFile]) h4
  refine ⟨g.1,g.2,r0.2,?_⟩
  have:r0.1=0:=by rw [h1] at hf;simpa using hf
  rw [hz,←h0,←this])
end Go.Proofs.YtmlcmoaonaomfaaGreatDoor
