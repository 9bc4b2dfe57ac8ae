/- Parse and the reference's Parsed: both are sParse. -/
import Derived.Test.YtognhcibcocbkaaGreatDoorZ29
import Derived.Test.YtognhcibcocbkaaGreatDoorZ24
import Derived.Test.YtognhcibcocbkaaGreatDoorZ22
import Derived.Test.YtognhcibcocbkaaGreatDoorZ25
import Derived.Test.YtognhcibcocbkaaGreatDoorZ01
import Derived.Test.YtognhcibcocbkaaGreatDoorChecked
import Derived.ProofKit
import Derived.OpenShut
import Derived.JoinedCond
import Derived.Deep.Slices
import Derived.Deep.Fields
import Derived.Lib.SmallJoins
import Derived.Test.YtognhcibcocbkaaGreatDoorRows
namespace Go.Proofs.YtognhcibcocbkaaGreatDoor
open Go.RowKit
theorem q111 (b:ByteArray):sParse (bl b)=if 4000<b.size then ([],(1,-1)) else match sScript (bl b) with
  |.inl o=>([],(11,(o:Int)))
  |.inr l=>if (scriptF l).1≠0 then ([],((scriptF l).1,-2)) else (l,(0,0)):=by
 unfold sParse
 rw [show (bl b).length=b.size by simp [bl]]
 rfl
theorem qe1 (b:ByteArray):qsd b=some (sParse (bl b)) :=
 qe2 b fun hb l h=>q11a (by rw [show (bl b).length=b.size by simp [bl]];exact hb) h
end Go.Proofs.YtognhcibcocbkaaGreatDoor
namespace Go.Proofs.YtognhcibcocbkaaGreatDoor
open Go.RowKit
theorem q113 (k:Int) (ts:List S57) (nm:ByteArray) (p:Int) (tx:ByteArray) (n:Int) (hl:ts.length≤big)
  (ih:∀ t∈ts,qkk t.Kind t.Tests t.Name t.Pattern t.Text t.N t.Kind t.Tests t.Name t.Pattern t.Text t.N=some true) :
  ∀ m i,i+m=ts.length→∃ z,qkc (i:Int) k ts nm p tx n k ts nm p tx n=some (.inr z):=by
 intro m
 induction m with
 |zero =>
  intro i hi
  have hi:i=ts.length:=by omega
  subst hi
  refine ⟨_,qke (r:=.inr (((),((),((ts.length:Int),false))),((k,(ts,(nm,(p,(tx,n))))),(k,(ts,(nm,(p,(tx,n))))))) ) ?_⟩
  simp only [qkj,zu,zw,gL,dL,lN,eC,wI,p0,uL,q3w,q8t,EC.decL_encL,EC.isL_encL,EC.encL_length,qaa,q2a,q2b,q2c,q2d,q2e,q2f,show ¬ ((ts.length:Int)<(ts.length:Int)) by omega,decide_false,Bool.false_eq_true,if_false,if_true]
 |succ m ihm =>
  intro i hi
  have hlt:i<ts.length:=by omega
  have h1:=ih _ (List.getElem_mem hlt)
  have w1:IntKind.i64.wrap ((i:Int)+1)=((i+1:Nat):Int):=q168 hlt (by unfold big at hl;omega)
  obtain ⟨z,hz⟩:=ihm (i+1) (by omega)
  refine ⟨z,qke ?_⟩
  simp only [qkj,zu,zw,gL,dL,lN,eC,wI,p0,uL,q3w,q8t,EC.decL_encL,EC.isL_encL,EC.encL_length,qaa,q2a,q2b,q2c,q2d,q2e,q2f,show ((i:Int)<(ts.length:Int)) by omega,show (0:Int)≤(i:Int) by omega,decide_true,Int.toNat_natCast,hlt,Bool.and_self,if_true,q8w hlt,h1,Option.bind_some,Bool.not_true,Bool.false_eq_true,if_false,w1,hz]
theorem q116:∀ (q:Nat) (t:S57),tzT t=q→okT t→qkk t.Kind t.Tests t.Name t.Pattern t.Text t.N t.Kind t.Tests t.Name t.Pattern t.Text t.N=some true:=by
 intro q
 induction q using Nat.strongRecOn with
 |_ q ih =>
  intro t hq ho
  obtain ⟨h1,h2⟩:=(okT_eq t).1 ho
  obtain ⟨z,hz⟩:=q113 t.Kind t.Tests t.Name t.Pattern t.Text t.N h1 (fun u hu=>ih (tzT u) (by have:=tz_mem hu;rw [q1ay] at hq;omega) u rfl (qdp h2 hu)) t.Tests.length 0 (by omega)
  have hz:qkc 0 t.Kind t.Tests t.Name t.Pattern t.Text t.N t.Kind t.Tests t.Name t.Pattern t.Text t.N=some (.inr z):=hz
  have hg:qk5 t.Kind t.Tests t.Name t.Pattern t.Text t.N t.Kind t.Tests t.Name t.Pattern t.Text t.N=some (true,()):=by
   refine qk7 ?_
   simp only [qkb,gL,dL,q8t,EC.decL_encL,EC.isL_encL,if_true,hz,Option.bind_some,Sum.elim_inr]
  refine qk4 ?_
  simp only [qkl,gL,dL,lN,q3w,q8t,EC.decL_encL,EC.isL_encL,EC.encL_length,bne_self_eq_false,beq_self_eq_true,Bool.not_true,if_true,Bool.false_eq_true,if_false,hg,Option.bind_some]
theorem q114 (l:List S59) (hl:l.length≤big) (ho:okL l) (ih:∀ r∈l,qjz r.Then r.Then=some true∧qjz r.Else r.Else=some true) :
  ∀ m i,i+m=l.length→∃ z,qjr l l (i:Int)=some (.inr z):=by
 intro m
 induction m with
 |zero =>
  intro i hi
  have hi:i=l.length:=by omega
  subst hi
  refine ⟨_,qjt (r:=.inr ((l,(l,((l.length:Int),false))),())) ?_⟩
  simp only [qjy,zx,zy,gL,dL,lN,eC,wI,p0,uL,q3w,q8t,EC.decL_encL,EC.isL_encL,EC.encL_length,qab,q2g,q2h,q2l,q2m,q2n,q2o,q2p,q2q,q2r,q2s,q2i,q2j,q2k,show ¬ ((l.length:Int)<(l.length:Int)) by omega,decide_false,Bool.false_eq_true,if_false,if_true]
 |succ m ihm =>
  intro i hi
  have hlt:i<l.length:=by omega
  obtain ⟨h1,h2⟩:=ih _ (List.getElem_mem hlt)
  have w1:IntKind.i64.wrap ((i:Int)+1)=((i+1:Nat):Int):=q168 hlt (by unfold big at hl;omega)
  have o:=(qdo _).1 (qdn ho (List.getElem_mem hlt))
  have ht:=q116 _ ⟨l[i].Test_Kind,l[i].Test_Tests,l[i].Test_Name,l[i].Test_Pattern,l[i].Test_Text,l[i].Test_N⟩ rfl ((okT_eq _).2 o.1)
  have ht:qkk l[i].Test_Kind l[i].Test_Tests l[i].Test_Name l[i].Test_Pattern l[i].Test_Text l[i].Test_N l[i].Test_Kind l[i].Test_Tests l[i].Test_Name l[i].Test_Pattern l[i].Test_Text l[i].Test_N=some true:=ht
  obtain ⟨z,hz⟩:=ihm (i+1) (by omega)
  refine ⟨z,qjt ?_⟩
  simp only [qjy,zx,zy,gL,dL,lN,eC,wI,p0,uL,q3w,q8t,EC.decL_encL,EC.isL_encL,EC.encL_length,qab,q2g,q2h,q2l,q2m,q2n,q2o,q2p,q2q,q2r,q2s,q2i,q2j,q2k,show ((i:Int)<(l.length:Int)) by omega,show (0:Int)≤(i:Int) by omega,decide_true,Int.toNat_natCast,hlt,Bool.and_self,if_true,q8w hlt,bne_self_eq_false,beq_self_eq_true,h1,h2,ht,Option.bind_some,Bool.not_true,Bool.false_eq_true,if_false,w1,hz]
theorem q115:∀ (q:Nat) (l:List S59),szL l=q→l.length≤big→okL l→qjz l l=some true:=by
 intro q
 induction q using Nat.strongRecOn with
 |_ q ih =>
  intro l hq hl ho
  obtain ⟨z,hz⟩:=q114 l hl ho (fun r hr=>by
   have:=(qdo r).1 (qdn ho hr)
   exact ⟨ih _ (hq ▸ q13j hr) r.Then rfl this.2.1.1 this.2.1.2,ih _ (hq ▸ q13i hr) r.Else rfl this.2.2.1.1 this.2.2.1.2⟩) l.length 0 (by omega)
  have hz:qjr l l 0=some (.inr z):=hz
  refine qjq ?_
  simp only [qk0,gL,dL,lN,q3w,q8t,EC.decL_encL,EC.isL_encL,EC.encL_length,bne_self_eq_false,Bool.false_eq_true,if_false,if_true,hz,Option.bind_some,Sum.elim_inr]
theorem same_s {l:List S59} (hl:l.length≤big) (ho:okL l):qjz l l=some true:=q115 _ l rfl hl ho
theorem q112 (b:ByteArray):(sParse (bl b)).1.length≤big∧okL (sParse (bl b)).1:=by
 rw [q111]
 split
 ·exact ⟨Nat.zero_le _,trivial⟩
 ·rename_i h
  cases hs:sScript (bl b) with
  |inl o=>exact ⟨Nat.zero_le _,trivial⟩
  |inr l =>
   have:=q11a (by rw [show (bl b).length=b.size by simp [bl]];omega) hs
   simp only
   split
   ·exact ⟨Nat.zero_le _,trivial⟩
   ·exact this
section
variable (tk:Int) (tts:List S57) (tnm:ByteArray) (tp:Int) (ttx:ByteArray) (tn:Int) (th el:List S59) (act:Int) (nm tx:ByteArray) (n d d1:Int) (I T A E:List UInt8)
 (hI:I.length≤1000) (hT:T.length≤10000000000000) (hA:A.length≤10000000000000) (hrep:repP (baL [32,32]) d=some (baL I)) (ht:q1a3 tk tts tnm tp ttx tn=some (baL T)) (w1:IntKind.i64.wrap (d+1)=d1) (iht:q19x th d1=some (baL A))
include hI hT hA hrep ht w1 iht
end
theorem thn_id {α:Type} (x:Nat⊕α):thn x (fun z=>.inr z)=x:=by cases x <;> rfl
theorem q1br:∀ f d m L l L' m',sRules f d m L=.inr (l,L',m')→∃ C,noElse C∧L.map er=C++L'.map er∧∀ f2 m2 L2 M2,L2.map er=C++M2→noElse M2→m2+szL l≤100→2*L2.length+4≤f2 →
  ∃ L2' f3,L2'.map er=M2∧2*L2'.length+4≤f3∧sRules f2 d m2 L2=thn (sRules f3 d (m2+szL l) L2') fun z=>.inr (l++z.1,z.2)
 |0,d,m,L,l,L',m',h=>by simp [sRules] at h
 |f+1,d,m,[],l,L',m',h=>by
  simp only [sRules] at h
  injection h with h
  injection h with h4 h5
  injection h5 with h5 h6
  subst h4 h5 h6
  exact ⟨[],(by intro x r e;cases e),rfl,fun f2 m2 L2 M2 e hM hm hf=>⟨L2,f2,e,hf,by
   have:szL ([]:List S59)=0:=rfl
   simp only [this,Nat.add_zero,List.nil_append];exact (thn_id _).symm⟩⟩
 |f+1,d,m,x::r,l,L',m',h=>by
  simp only [sRules] at h
  split at h
  ·injection h with h
   injection h with h4 h5
   injection h5 with h5 h6
   subst h4 h5 h6
   exact ⟨[],(by intro x r e;cases e),rfl,fun f2 m2 L2 M2 e hM hm hf=>⟨L2,f2,e,hf,by
    have:szL ([]:List S59)=0:=rfl
    simp only [this,Nat.add_zero,List.nil_append];exact (thn_id _).symm⟩⟩
  ·rename_i hs
   obtain ⟨⟨u,L1,n1⟩,h1,h⟩:=q158 h
   obtain ⟨⟨l',L2,n2⟩,h2,h⟩:=q158 h
   injection h with h
   injection h with h4 h5
   injection h5 with h5 h6
   subst h4 h5 h6
   obtain ⟨e1,w,C,hw,c1,c2⟩:=(q78 f).1 _ _ _ _ _ _ h1
   obtain ⟨D,dn,d1,d2⟩:=q1br f _ _ _ _ _ _ h2
   simp only at h2 e1 c1 c2 d1 d2 ⊢
   have hsz:szL (u::l')=szR u+szL l':=rfl
   refine ⟨(2,w)::(C++D),?_,by rw [c1,d1];simp,fun f2 m2 L3 M2 e hM hm2 hf=>?_⟩
   ·intro y r' e e'
    injection e with e
    rw [←e] at e'
    injection e' with _ e'
    exact hw e'
   rw [hsz] at hm2 ⊢
   cases f2 with
   |zero=>omega
   |succ g =>
    simp only [List.cons_append,List.append_assoc] at e
    have hne:noElse (D++M2):=by
     intro y r' e'
     cases D with
     |nil=>exact hM y r' e'
     |cons z D' =>
      simp only [List.cons_append] at e'
      injection e' with e' _
      exact dn y D' (by rw [←e'])
    obtain ⟨w1,v1,v2,v3⟩:=c2 g m2 L3 _ e hne (by omega) (by omega)
    obtain ⟨w2,f3,u1,u2,u3⟩:=d2 g (m2+szR u) w1 M2 v2 hM (by omega) (by omega)
    refine ⟨w2,f3,u1,u2,?_⟩
    obtain ⟨y,r0,rfl,k1,k2,k3⟩:=qcl e
    have hs2:stopB y=false:=by
     have k1':y.k=2:=k1
     unfold stopB;simp [k1']
    simp only [sRules,hs2,Bool.false_eq_true,if_false,v1,thn,u3,Nat.add_assoc,List.cons_append]
    cases sRules f3 d (m2+(szR u+szL l')) w2 <;> rfl
theorem q1bq {a:List UInt8} {C R:List (Nat×List UInt8)} {s:List UInt8} (h:(toksF a 0).map er=C++(0,s)::R):∀ o,(toksF a o).map er=C++[(0,[])]:=by
 intro o
 obtain ⟨ts,k,k1,k2⟩:=q1bu _ a (Nat.le_refl _) 0
 obtain ⟨q1,q2⟩:=q1be C ts _ k s (by rw [←h,k1]) k2
 subst q1 q2
 have sh:(toksF a o).map er=(toksF a 0).map er:=q1bv _ _ _ _
 rw [sh,k1]
theorem q1bn {a b:List UInt8} {s t u:List S59} (ha:sScript a=.inr s) (hb:sScript b=.inr t) (hu:sScript (a++10::b)=.inr u) (hs:szL s≤100) (hn:szL u≤100):u=s++t:=by
 obtain ⟨D,d1,d2,_⟩:=q1bp hb
 unfold sScript at ha hu
 obtain ⟨⟨l,L',m'⟩,h1,h2⟩:=q158 ha
 cases L' with
 |nil=>cases h2
 |cons x r =>
 simp only at h2
 split at h2
 case isFalse=>cases h2
 rename_i hk
 injection h2 with h2;subst h2
 obtain ⟨C,e3,e4,e5⟩:=q1br _ _ _ _ _ _ _ h1
 have e4:(toksF a 0).map er=C++(0,x.s)::r.map er:=by
  have:(toksF a 0).map er=C++(x::r).map er:=e4
  rw [this,List.map_cons]
  simp only [er,hk]
 have c1:=q1bq e4
 have e:=q1b6 _ a (Nat.le_refl _) 0 C (c1 0) b 0
 rw [d1] at e
 have e0:(a++[10])++b=a++10::b:=by simp
 rw [e0] at e
 have hl:=q15g ((a++10::b).length+1) (a++10::b) 0
 have hne:noElse (D++[(0,[])]):=by
  intro y r' e'
  cases D with
  |nil=>injection e' with e' _;subst e';simp
  |cons z D'=>injection e' with e' _;exact d2 y D' (by rw [e'])
 obtain ⟨w1,f3,v1,v2,v3⟩:=e5 (fuel (a++10::b)) 0 (toksF (a++10::b) 0) _ e hne (by omega) (by unfold fuel toksF;omega)
 obtain ⟨⟨u',Lu,mu⟩,g1,g2⟩:=q158 hu
 have g1:sRules (fuel (a++10::b)) 1 0 (toksF (a++10::b) 0)=.inr (u',Lu,mu):=g1
 cases Lu with
 |nil=>cases g2
 |cons x' r' =>
 simp only at g2
 split at g2
 case isFalse=>cases g2
 rename_i hk'
 injection g2 with g2;subst g2
 obtain ⟨hmu,_⟩:=(q78 _).2.2 _ _ _ _ _ _ g1
 rw [v3] at g1
 obtain ⟨⟨z,Lz,mz⟩,j1,j2⟩:=q158 g1
 injection j2 with j2
 injection j2 with j2 j3
 injection j3 with j3 j4
 subst j2 j3 j4
 obtain ⟨i1,i2,E,i3,i4,i5⟩:=(q78 _).2.2 _ _ _ _ _ _ j1
 congr 1
 -- what b is read as
 have hz:szL z≤100:=by omega
 have hlb:=q15g (b.length+1) b 0
 obtain ⟨w3,x1,x2,x3⟩:=i5 (fuel b) 0 (toksF b 0) ((x'::r').map er) (by rw [d1 0,←v1];exact i4) (qd7 i2) (by omega) (by unfold fuel toksF;omega)
 obtain ⟨L4,y1,y2⟩:=x3 [] (0+szL z) (fun L=>L=w3) fun f4 hf4=>⟨w3,q12x (by rw [x1];exact i2) hf4,rfl⟩
 rw [List.append_nil] at y1
 subst y2
 obtain ⟨y,r2,rfl,k1,k2,k3⟩:=qcl x1
 have hky:y.k=0:=by rw [k1];exact hk'
 unfold sScript at hb
 have y1:sRules (fuel b) 1 0 (toks (b.length+1) b 0)=.inr (z,y::r2,0+szL z):=y1
 rw [y1] at hb
 simp only [thn,hky,if_true] at hb
 injection hb
theorem q1bg {b:ByteArray} (h:(sParse (bl b)).2.1=0):b.size≤4000∧∃ l,sScript (bl b)=.inr l∧(scriptF l).1=0∧sParse (bl b)=(l,(0,0)):=by
 have hsp:=q111 b
 have h4:¬ 4000<b.size:=fun h'=>by rw [if_pos h'] at hsp;rw [hsp] at h;cases h
 rw [if_neg h4] at hsp
 refine ⟨by omega,?_⟩
 cases hs:sScript (bl b) with
 |inl o=>rw [hs] at hsp;rw [hsp] at h;cases h
 |inr l =>
  rw [hs] at hsp
  simp only at hsp
  by_cases h0:(scriptF l).1=0
  case neg=>rw [if_pos h0] at hsp;rw [hsp] at h;exact absurd h h0
  rw [if_neg (by simp [h0])] at hsp
  exact ⟨l,rfl,h0,hsp⟩
theorem sz_le (l:List S59):l.length≤szL l:=by
 induction l with
 |nil=>exact Nat.zero_le _
 |cons r l ih =>
  have hsz:szL (r::l)=szR r+szL l:=rfl
  have:=szR_eq r
  rw [hsz,List.length_cons];omega
theorem q1bf:∀ {s t:List S59},okL s→okL t→okL (s++t)
 |[],_,_,h=>h
 |_::_,_,h,h'=>⟨h.1,q1bf h.2 h'⟩
theorem q1b4 (a b:ByteArray):bl ((a++ByteArray.mk (List.toArray [(10:UInt8)]))++b)=bl a++10::bl b:=by
 simp [bl]
theorem q1b7 {τ:Type} (e:EC τ) (s t:List τ):e.encL s++e.encL t=e.encL (s++t):=List.map_append.symm
theorem num44 {x y:Nat} (hx:x≤100) (hy:y≤100):(x+x / 4+192)*184≤281474976710656∧(x+y+(x+y) / 4+192)*184≤281474976710656∧x≤9223372036854775807∧x+y≤9223372036854775807:=by
 refine ⟨?_,?_,?_,?_⟩ <;> omega
theorem law44 (a b:ByteArray) (hz:a.size+1+b.size≤9223372036854775807):q1bk a b=some true:=by
 have p0:=qe1 a
 have p1:=qe1 b
 have p2:=qe1 ((a++ByteArray.mk (List.toArray [(10:UInt8)]))++b)
 have hs1:ByteArray.size (ByteArray.mk (List.toArray [(10:UInt8)]))=1:=rfl
 have hs2:ByteArray.size (a++ByteArray.mk (List.toArray [(10:UInt8)]))=a.size+1:=by rw [ByteArray.size_append];rfl
 have hsz:ByteArray.size ((a++ByteArray.mk (List.toArray [(10:UInt8)]))++b)=a.size+1+b.size:=by rw [ByteArray.size_append,hs2]
 have hj:=q1b4 a b
 have k1:¬ (((a.size+1:Nat):Int)>IntKind.max .i64):=by show ¬ (_>(9223372036854775807:Int));omega
 have k2:¬ (((a.size+1+b.size:Nat):Int)>IntKind.max .i64):=by show ¬ (_>(9223372036854775807:Int));omega
 obtain ⟨a1,a2⟩:=q112 a
 obtain ⟨b1,b2⟩:=q112 b
 refine q1bj ?_
 simp only [q1bl,z10,gL,dL,lN,aL,dQ,dM,↓q3w,↓q8t,↓reduceIte,EC.decL_encL,EC.isL_encL,EC.encL_length,q1m,p0,p1,p2,Option.bind_some,hs1,hs2,k1,k2,decide_false,Bool.false_eq_true]
 by_cases ha:(sParse (bl a)).2.1=0
 ·obtain ⟨ha4,s,s1,s2,s3⟩:=q1bg ha
  rw [s3] at a1 a2 ⊢
  by_cases hb:(sParse (bl b)).2.1=0
  ·obtain ⟨hb4,t,t1,t2,t3⟩:=q1bg hb
   rw [t3] at b1 b2 ⊢
   simp only at a1 a2 b1 b2
   obtain ⟨_,_,_,sc⟩:=q1aa s2
   obtain ⟨_,_,_,tc⟩:=q1aa t2
   have ls:=sz_le s
   have lt:=sz_le t
   have cs:=q51 s a1 a2
   have ct:=q51 t b1 b2
   have w1:IntKind.i64.wrap ((a.size:Int)+(b.size:Int))=(a.size:Int)+(b.size:Int):=q167 (by omega)
   have w2:IntKind.i64.wrap ((szL s:Int)+(szL t:Int))=(szL s:Int)+(szL t:Int):=q167 (by omega)
   have w3:IntKind.i64.wrap (szL s:Int)=(szL s:Int):=q167 (by omega)
   have w4:IntKind.i64.wrap (szL t:Int)=(szL t:Int):=q167 (by omega)
   by_cases hc:(sParse (bl ((a++ByteArray.mk (List.toArray [(10:UInt8)]))++b))).2.1=0
   ·obtain ⟨hc4,u,u1,u2,u3⟩:=q1bg hc
    rw [u3]
    rw [hj] at u1
    obtain ⟨_,_,_,uc⟩:=q1aa u2
    have hu:=q1bn s1 t1 u1 sc uc
    subst hu
    have same:=same_s (l:=s++t) (by rw [List.length_append];unfold big;omega) (q1bf a2 b2)
    obtain ⟨g1,g2,g3,g4⟩:=num44 (Nat.le_trans ls sc) (Nat.le_trans lt tc)
    simp [same,q1b7,EC.isL_encL,EC.decL_encL,g1,g2,g3,g4]
   ·by_cases hn:szL s+szL t≤100
    ·have hr:=q1bm s1 t1 hn
     have hsa:=q1bo s2 t2 hn
     have hp:=q111 ((a++ByteArray.mk (List.toArray [(10:UInt8)]))++b)
     rw [hsz] at hp
     rw [hj,hr] at hp
     have h4:4000≤a.size+b.size:=by
      apply Nat.le_of_not_lt
      intro h4
      have h5:¬ 4000<a.size+1+b.size:=by omega
      rw [if_neg h5] at hp
      simp only [hsa,ne_eq,not_true_eq_false,if_false] at hp
      rw [hj,hp] at hc
      exact hc rfl
     simp [hc,cs,ct,w1,w2,w3,w4]
     omega
    ·simp [hc,cs,ct,w1,w2,w3,w4]
     omega
  ·simp [hb]
 ·simp [ha]
end Go.Proofs.YtognhcibcocbkaaGreatDoor
namespace Go.Proofs.YtognhcibcocbkaaGreatDoor
open Go.ChangeShapes Go.WideShapes Go.ChangeAt Go.RowKit Go.Deep
theorem qk:ownKnob Tryz.prog.godebug=none:=by kernel_rfl
theorem qj:laidOutB Tryz.prog=true:=by kernel_rfl
section
variable {H:Type} {enc:TypeId×Value→H} {P:Program}
theorem q15i (hl:laidOutB P=true) {W W':World} (hb:Bel W W'):∀ {ts:List TypeId} {vs:List Value} {ds:List (DataW H)} {ps:List MemPlace},ts.all (fun t=>P.readableRec t&&decide (t<P.types.size))=true →
  DataW.TrodAll enc P W 0 (fun _=>true) true ts vs ds ps→(∀ x∈ps,x.block<W.heap.size)→DataW.TrodAll enc P W' 0 (fun b=>decide (b<W.heap.size)) true ts vs ds ps
 |[],[],[],_,_,h,_=>h
 |[],[],_::_,_,_,h,_=>h.elim
 |[],_::_,_,_,_,h,_=>h.elim
 |_::_,[],_,_,_,h,_=>h.elim
 |_::_,_::_,[],_,_,h,_=>h.elim
 |t::ts,v::vs,d::ds,ps,hr,h,hlt=>by
  obtain ⟨p,q,h1,h2,rfl⟩:=h
  simp only [List.all_cons,Bool.and_eq_true,decide_eq_true_eq] at hr
  exact ⟨p,q,Below.trod hl hr.1.1 hr.1.2 h1 hb (fun x hx=>hlt x (List.mem_append_left _ hx)),q15i hl hb hr.2 h2 (fun x hx=>hlt x (List.mem_append_right _ hx)),rfl⟩
theorem qbm {fn:Func} {s:ChangeSpec} {W W':World} {args:Array Value} {ds gs:List (DataW H)} {before:List MemPlace} {tb:TypeId} (hl:laidOutB P=true)
  (hr:fn.params.toList.all (fun t=>P.readableRec t&&decide (t<P.types.size))=true) (hrt:fn.resultTypes=#[tb]) (htb:P.underlying tb=some .bool) (hvars:s.vars=[])
  (hfn:s.fn H ds={ results:=[.lit (.bool true)],args:=ds })
  (hW:DataW.Whole enc P fn.params.toList s.vars false W args.toList ds gs before) (hb:Bel W W'):s.post enc P fn false true false false W args (.bool true) W':=by
 have hW':=hW
 have hlt:∀ x∈before,x.block<W.heap.size:=fun x hx=>hW.lt x hx
 obtain ⟨p,q,hA,hV,rfl,hfz,hnd⟩:=hW
 rw [hvars] at hV
 obtain ⟨rfl,rfl⟩:=trodVars_none hV
 have e:s.fn H (ds++[])={ results:=[.lit (.bool true)],args:=ds }:=by rw [List.append_nil];exact hfn
 refine ⟨ds,[],p++[],[],p,[],hW',?_,?_,?_,hb.frame _,fun h=>by cases h⟩
 ·rw [e,hrt]
  exact trodAll_mk1 (shut_bool htb true)
 ·rw [e]
  exact q15i hl hb hr hA (fun x hx=>hlt x (by simpa using hx))
 ·rw [e,hvars]
  rfl
end
def Zw (w:World):ZMap:=fun b o=>w.cell? ⟨b,o,none⟩
def RepL (Z:ZMap):List Value→List C→Prop
 |[],[]=>True
 |u::us,x::xs=>RepC Z u x∧RepL Z us xs
 |_,_=>False
section
variable {H:Type} {enc:TypeId×Value→H} {P:Program}
end
section
variable {H:Type} {enc:TypeId×Value→H} {w:World}
theorem qdy {d:DataW H} {p:List MemPlace} {v:Value} (hv:∃ s,v=.string s) (h:DataW.Trod enc Tryz.prog w 0 (fun _=>true) true 9 v d p) :
  ∃ x:ByteArray,v=.string x∧d=.lit (.string x.data.toList):=by
 obtain ⟨s,rfl⟩:=hv
 obtain ⟨fuel,h⟩:=h
 obtain ⟨a,e,z,_⟩:=DataW.trod_string Tryz.underlying9 h
 injection e with e
 injection e with e
 subst e
 injection z with z _
 exact ⟨s,rfl,z⟩
end
end Go.Proofs.YtognhcibcocbkaaGreatDoor
