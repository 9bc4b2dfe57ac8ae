/- Texts in order; addresses: plain laws. -/
import Derived.Test.YtepmpilapglklaaGreatZ23
namespace Go.Proofs.YtepmpilapglklaaGreat
theorem lt_irr:∀ a:List UInt8,Go.Op.bytesLess a a=false
 |[]=>rfl
 |x::a=>by
  have h:¬ x<x:=UInt8.lt_irrefl x
  simp [Go.Op.bytesLess,lt_irr a,h]
theorem q1la {x y:UInt8} {a b:List UInt8}:Go.Op.bytesLess (x::a) (y::b)=true ↔ x<y∨(x=y∧Go.Op.bytesLess a b=true):=by
 simp [Go.Op.bytesLess]
theorem q1lb:∀ {a b c:List UInt8},Go.Op.bytesLess a b=true→Go.Op.bytesLess b c=true→Go.Op.bytesLess a c=true
 |_,[],_,h,_=>by
  rename_i a c
  cases a <;> simp [Go.Op.bytesLess] at h
 |_,_::_,[],_,h=>by simp [Go.Op.bytesLess] at h
 |[],_::_,_::_,_,_=>rfl
 |x::a,y::b,z::c,h1,h2=>by
  rw [q1la] at *
  rcases h1 with h1|⟨rfl,h1⟩
  ·rcases h2 with h2|⟨rfl,h2⟩
   ·exact .inl (UInt8.lt_trans h1 h2)
   ·exact .inl h1
  ·rcases h2 with h2|⟨rfl,h2⟩
   ·exact .inl h2
   ·exact .inr ⟨rfl,q1lb h1 h2⟩
theorem lt_asy {a b:List UInt8} (h:Go.Op.bytesLess a b=true):Go.Op.bytesLess b a=false:=by
 cases h1:Go.Op.bytesLess b a with
 |false=>rfl
 |true=>have:=q1lb h h1;rw [lt_irr] at this;cases this
theorem lt_tri:∀ (a b:List UInt8),Go.Op.bytesLess a b=true∨a=b∨Go.Op.bytesLess b a=true
 |[],[]=>.inr (.inl rfl)
 |[],_::_=>.inl rfl
 |_::_,[]=>.inr (.inr rfl)
 |x::a,y::b=>by
  simp only [q1la]
  by_cases h:x=y
  ·subst h
   rcases lt_tri a b with h|h|h
   ·exact .inl (.inr ⟨rfl,h⟩)
   ·exact .inr (.inl (by rw [h]))
   ·exact .inr (.inr (.inr ⟨rfl,h⟩))
  ·by_cases h1:x<y
   ·exact .inl (.inl h1)
   ·exact .inr (.inr (.inl (UInt8.lt_of_le_of_ne (UInt8.not_lt.1 h1) (Ne.symm h))))
theorem q1cm:∀ (a b:List UInt8),(Go.Lib.compareBytes a b<0 ↔ Go.Op.bytesLess a b=true)∧(Go.Lib.compareBytes a b=0 ↔ a=b)
 |[],[]=>by simp [Go.Lib.compareBytes,Go.Op.bytesLess]
 |[],_::_=>by simp [Go.Lib.compareBytes,Go.Op.bytesLess]
 |_::_,[]=>by simp [Go.Lib.compareBytes,Go.Op.bytesLess]
 |x::a,y::b=>by
  rw [q1la]
  unfold Go.Lib.compareBytes
  by_cases h1:x<y
  ·have:x≠y:=UInt8.ne_of_lt h1
   simp [h1,this]
  ·by_cases h2:y<x
   ·have:x≠y:=Ne.symm (UInt8.ne_of_lt h2)
    simp [h1,h2,this]
   ·have:x=y:=UInt8.le_antisymm (UInt8.not_lt.1 h2) (UInt8.not_lt.1 h1)
    subst this
    have ih:=q1cm a b
    simp [h1,ih.1,ih.2]
def spA (c:UInt8):List UInt8→List UInt8→List (List UInt8)
 |p,[]=>[p]
 |p,x::l=>if x=c then p::spA c [] l else spA c (p++[x]) l
theorem q1k2 (x:UInt8) (l s:List UInt8):(0≤Go.Lib.index (x::l) s ↔ s.isPrefixOf (x::l)=true∨0≤Go.Lib.index l s):=by
 have h:=Go.Lib.index_ge l s
 rw [Go.Lib.index]
 split
 ·rename_i h1;simp [h1]
 ·rename_i h1
  split
  ·rename_i h2
   have h2:Go.Lib.index l s=-1:=by simpa using h2
   simp [h1,h2]
  ·rename_i h2
   have h2:Go.Lib.index l s≠-1:=by simpa using h2
   simp only [h1,Bool.false_eq_true,false_or]
   omega
theorem q1d2 (c:UInt8):Go.Lib.cut [] [c]=([],[],false):=rfl
theorem q1d1 (c x:UInt8) (l:List UInt8):Go.Lib.cut (x::l) [c]=if x=c then ([],l,true) else if (Go.Lib.cut l [c]).2.2=true then (x::(Go.Lib.cut l [c]).1,(Go.Lib.cut l [c]).2.1,true) else (x::l,[],false):=by
 have h:=Go.Lib.index_ge l [c]
 unfold Go.Lib.cut
 rw [Go.Lib.index]
 by_cases hx:x=c
 ·subst hx
  simp
 ·have h0:(c==x)=false:=by simpa using Ne.symm hx
  have h1:List.isPrefixOf [c] (x::l)=false:=by simp [List.isPrefixOf,h0]
  simp only [h1,Bool.false_eq_true,if_false,hx]
  by_cases h2:Go.Lib.index l [c]=-1
  ·simp [h2]
  ·have h3:0≤Go.Lib.index l [c]:=by omega
   have h4:0≤Go.Lib.index l [c]+1:=by omega
   have h5:(Go.Lib.index l [c]==-1)=false:=by simpa using h2
   have h6:(Go.Lib.index l [c]+1).toNat=(Go.Lib.index l [c]).toNat+1:=by omega
   have h7:(Go.Lib.index l [c]).toNat+1+1=(Go.Lib.index l [c]).toNat+1+[c].length:=rfl
   simp only [h5,Bool.false_eq_true,if_false,h3,h4,if_true,h6,List.take_succ_cons]
   rfl
theorem q1oy (c:UInt8):∀ (l p:List UInt8),spA c p l=if (Go.Lib.cut l [c]).2.2=true then (p++(Go.Lib.cut l [c]).1)::spA c [] (Go.Lib.cut l [c]).2.1 else [p++l]
 |[],p=>by simp [spA,q1d2]
 |x::l,p=>by
  rw [spA,q1d1]
  by_cases hx:x=c
  ·simp [hx]
  ·rw [if_neg hx,if_neg hx,q1oy c l (p++[x])]
   by_cases h:(Go.Lib.cut l [c]).2.2=true
   ·simp [h]
   ·simp [h]
theorem q1d4 (c:UInt8):∀ (l:List UInt8),(Go.Lib.cut l [c]).2.2=true→c∈l
 |[],h=>by rw [q1d2] at h;cases h
 |x::l,h=>by
  rw [q1d1] at h
  by_cases hx:x=c
  ·simp [hx]
  ·rw [if_neg hx] at h
   by_cases h1:(Go.Lib.cut l [c]).2.2=true
   ·exact List.mem_cons_of_mem _ (q1d4 c l h1)
   ·rw [if_neg h1] at h;cases h
def dm (f:UInt8→Bool):Bool→List UInt8→Bool
 |e,[]=>e
 |e,x::l=>if x=46 then e&&dm f false l else f x&&dm f true l
theorem spA_dm (f:UInt8→Bool):∀ (l p:List UInt8),(spA 46 p l).all (fun q=>!q.isEmpty&&q.all f)=(p.all f&&dm f (!p.isEmpty) l)
 |[],p=>by simp [spA,dm,Bool.and_comm]
 |x::l,p=>by
  rw [spA,dm]
  by_cases hx:x=46
  ·rw [if_pos hx,if_pos hx,List.all_cons,spA_dm f l []]
   cases p.all f <;> cases p.isEmpty <;> simp
  ·rw [if_neg hx,if_neg hx,spA_dm f l (p++[x])]
   have:(p++[x]).isEmpty=false:=by cases p <;> rfl
   rw [this,List.all_append]
   cases p.all f <;> simp
def sfx (e:Bool) (l:List UInt8):Bool:=match l.getLast? with|none=>e|some y=>y != 46
theorem q1ob (e:Bool) (x:UInt8) (l:List UInt8):sfx e (x::l)=sfx (x != 46) l:=by
 unfold sfx
 cases l with
 |nil=>rfl
 |cons y l=>rw [List.getLast?_cons_cons];cases h:(y::l).getLast? with
  |none=>simp at h
  |some z=>rfl
theorem q1dg (x:UInt8) (l:List UInt8):Go.Lib.contains (x::l) [46,46]=(([46,46]:List UInt8).isPrefixOf (x::l)||Go.Lib.contains l [46,46]):=by
 unfold Go.Lib.contains
 rw [Bool.eq_iff_iff,decide_eq_true_iff,q1k2,Bool.or_eq_true,decide_eq_true_iff]
def pfx (l:List UInt8):Bool:=l.take 1==[46]
theorem dm_eq (f:UInt8→Bool):∀ (l:List UInt8) (e:Bool),dm f e l=(l.all (fun x=>f x||x==46)&&(sfx e l&&(!Go.Lib.contains l [46,46]&&(e||!pfx l))))∨f 46=true
 |[],e=>.inl (by simp [dm,sfx,pfx,Go.Lib.contains,Go.Lib.index])
 |x::l,e=>by
  rw [dm,q1ob,q1dg,List.all_cons]
  by_cases hx:x=46
  ·subst hx
   rcases dm_eq f l false with h|h
   ·left
    rw [if_pos rfl,h]
    have h1:pfx ((46:UInt8)::l)=true:=rfl
    have h2:([46,46]:List UInt8).isPrefixOf (46::l)=pfx l:=by
     cases l with
     |nil=>rfl
     |cons y l =>
      by_cases hy:y=46
      ·subst hy;rfl
      ·have h5:((46:UInt8)==y)=false:=by simpa using Ne.symm hy
       have h6:(y==(46:UInt8))=false:=by simpa using hy
       simp [pfx,List.isPrefixOf,h5,h6]
    rw [h1,h2]
    have h3:((46:UInt8) != 46)=false:=rfl
    rw [h3]
    cases e <;> cases l.all (fun x=>f x||x==46) <;> cases sfx false l <;> cases Go.Lib.contains l [46,46] <;> cases pfx l <;> simp
   ·exact .inr h
  ·rcases dm_eq f l true with h|h
   ·left
    rw [if_neg hx,h]
    have h1:pfx (x::l)=false:=by simp [pfx,hx]
    have h2:([46,46]:List UInt8).isPrefixOf (x::l)=false:=by
     have h5:((46:UInt8)==x)=false:=by simpa using Ne.symm hx
     simp [List.isPrefixOf,h5]
    have h3:(x != 46)=true:=by simpa using hx
    have h4:(x==46)=false:=by simpa using hx
    rw [h1,h2,h3,h4]
    cases f x <;> cases e <;> cases l.all (fun x=>f x||x==46) <;> cases sfx true l <;> cases Go.Lib.contains l [46,46] <;> simp
   ·exact .inr h
def addrL (lf df:UInt8→Bool) (l:List UInt8):Bool:=match spA 64 [] l with
 |[a,b]=>(decide (1≤a.length)&&decide (a.length≤60))&&((decide (1≤b.length)&&decide (b.length≤60))&&(a.all lf&&(spA 46 [] b).all (fun q=>!q.isEmpty&&q.all df)))
 |_=>false
theorem q17g (lf df:UInt8→Bool) (h46:df 46=false) (h64:df 64=false) (l:List UInt8):addrL lf df l=((Go.Lib.cut l [64]).2.2&&(!(Go.Lib.cut l [64]).1.isEmpty&&(decide ((Go.Lib.cut l [64]).1.length≤60)&&((Go.Lib.cut l [64]).1.all lf &&
  (!(Go.Lib.cut l [64]).2.1.isEmpty&&(decide ((Go.Lib.cut l [64]).2.1.length≤60)&&((Go.Lib.cut l [64]).2.1.all (fun x=>df x||x==46)&&(!pfx (Go.Lib.cut l [64]).2.1&&(sfx false (Go.Lib.cut l [64]).2.1&&!Go.Lib.contains (Go.Lib.cut l [64]).2.1 [46,46]))))))))):=by
 unfold addrL
 rw [q1oy]
 cases h:(Go.Lib.cut l [64]).2.2 with
 |false=>simp
 |true =>
  rw [if_pos rfl]
  generalize (Go.Lib.cut l [64]).1=a
  generalize (Go.Lib.cut l [64]).2.1=b
  rw [List.nil_append,q1oy]
  cases hb:(Go.Lib.cut b [64]).2.2 with
  |true =>
   have hm:=q1d4 64 b hb
   have:b.all (fun x=>df x||x==46)=false:=by
    rw [List.all_eq_false]
    exact ⟨64,hm,by rw [h64];decide⟩
   rw [if_pos rfl,this]
   have hne:spA 64 [] (Go.Lib.cut b [64]).2.1≠[]:=by
    rw [q1oy];split <;> simp
   cases h9:spA 64 [] (Go.Lib.cut b [64]).2.1 with
   |nil=>exact absurd h9 hne
   |cons y ys=>simp
  |false =>
   rw [if_neg (by decide)]
   simp only [List.nil_append]
   rw [spA_dm,(dm_eq df b _).resolve_right (by rw [h46];decide)]
   have ha:decide (1≤a.length)=!a.isEmpty:=by cases a <;> simp
   have hb1:decide (1≤b.length)=!b.isEmpty:=by cases b <;> simp
   rw [ha,hb1]
   simp only [List.all_nil,List.isEmpty_nil,Bool.not_true,Bool.false_or,Bool.true_and]
   cases a.isEmpty <;> cases decide (a.length≤60) <;> cases a.all lf <;> cases b.isEmpty <;> cases decide (b.length≤60) <;> cases b.all (fun x=>df x||x==46) <;> cases pfx b <;> cases sfx false b <;> cases Go.Lib.contains b [46,46] <;> rfl
end Go.Proofs.YtepmpilapglklaaGreat
namespace Go.Proofs.YtepmpilapglklaaGreat
open Go.RowKit
def inI (c a b:Int):Bool:=decide (a≤c)&&decide (c≤b)
def locF (c:Int):Bool:=inI (lowI c) 97 122||(inI c 48 57||(c==45||(c==95||(c==46||(c==43||c==61)))))
def domF (c:Int):Bool:=inI c 97 122||(inI c 48 57||c==45)
def letF (c:Int):Bool:=inI c 97 122||(inI c 65 90||inI c 48 57)
def locU (b:UInt8):Bool:=locF (nb b)
def domU (b:UInt8):Bool:=domF (nb b)
theorem q1ku:∀ n:Nat,n<256→q1ar (n:Int)=some (letF n):=by decide +kernel
theorem q1kw (b:UInt8):q1aq (nb b)=some (letF (nb b)):=q1ap (q1ku b.toNat b.toNat_lt)
def locK (c:Int):Option Bool:=brE (letF c==false) (some (decide ((Go.Lib.indexByte (Array.toList (List.toArray [(45:UInt8),(95:UInt8),(46:UInt8),(43:UInt8),(61:UInt8)])) (Nat.toUInt8 (Int.toNat c)))≥(0:Int)))) (some true)
theorem loc_n:∀ n:Nat,n<256→locK (n:Int)=some (locF n):=by decide +kernel
theorem loc_s (b:UInt8):q1ew (nb b)=some (locU b):=q1ev (by
 unfold q1ex
 rw [q1kw]
 exact loc_n b.toNat b.toNat_lt)
theorem dom_n:∀ n:Nat,n<256→q1e1 (n:Int)=some (domF n||(n:Int)==46):=by decide +kernel
theorem nb_eq (a b:UInt8):(nb a==nb b)=(a==b):=by
 rw [Bool.eq_iff_iff,beq_iff_eq,beq_iff_eq]
 unfold nb
 constructor
 ·intro h;exact UInt8.toNat_inj.1 (by omega)
 ·intro h;rw [h]
theorem dom_s (b:UInt8):q1e0 (nb b)=some (domU b||b==46):=by
 have h:q1e0 (nb b)=some (domF (nb b)||nb b==46):=q1dz (dom_n b.toNat b.toNat_lt)
 rw [h,←nb_eq b 46];rfl
theorem q191 (s:ByteArray) (hs:s.size≤2000000):q18y s=some ((L s).all locU):=by
 rw [q18z s (by omega)]
 congr 2
 funext b
 simp only [q18x,loc_s,Option.getD_some]
theorem q182 (s:ByteArray) (hs:s.size≤2000000):q17z s=some ((L s).all fun b=>domU b||b==46):=by
 rw [q180 s (by omega)]
 congr 2
 funext b
 simp only [q17y,dom_s,Option.getD_some]
theorem hasP_s (s p:ByteArray):q1p5 s p=some ((L s).take p.size==L p):=q1p4 (by
 unfold q1p6
 have:q1pn s p=some ((L s).take p.size==L p):=q1pm (by
  unfold q1po
  simp only [q3l,q8h,q1rq,L_ext]
  by_cases h:p.size≤s.size
  ·have h1:((s.size:Int)≥(p.size:Int)):=by omega
   simp [h1]
  ·have h1:¬ ((s.size:Int)≥(p.size:Int)):=by omega
   rw [if_neg (by simpa using h1)]
   congr 1
   symm
   rw [beq_eq_false_iff_ne]
   intro h2
   have:=congrArg List.length h2
   rw [List.length_take,q17d,q17d] at this
   omega)
 rw [this];rfl)
def sufB (l p:List UInt8):Bool:=decide (p.length≤l.length)&&l.drop (l.length - p.length)==p
theorem hasS_s (s p:ByteArray) (hs:s.size≤2000000):q1pb s p=some (sufB (L s) (L p)):=q1pa (by
 unfold q1pc
 have:q1pt s p=some (sufB (L s) (L p)):=q1ps (by
  unfold q1pu sufB
  simp only [q3l,q8h,q1rq,L_ext,q17d]
  by_cases h:p.size≤s.size
  ·have h1:((s.size:Int)≥(p.size:Int)):=by omega
   have h2:IntKind.i64.wrap ((s.size:Int) - (p.size:Int))=((s.size - p.size:Nat):Int):=by rw [qvs (by omega)];omega
   have h3:(L s).drop (s.size - p.size)=((L s).drop (s.size - p.size)).take (s.size - (s.size - p.size)):=by
    rw [List.take_of_length_le];rw [List.length_drop,q17d];omega
   rw [h2]
   simp only [Int.toNat_natCast,←h3]
   simp [h1,h]
  ·have h1:¬ ((s.size:Int)≥(p.size:Int)):=by omega
   rw [if_neg (by simpa using h1)]
   simp [h])
 rw [this];rfl)
theorem q1q2 {l:List UInt8} (h:l≠[]):sufB l [46]=!sfx false l:=by
 obtain ⟨a,y,rfl⟩:∃ a y,l=a++[y]:=⟨l.dropLast,l.getLast h,(List.dropLast_concat_getLast h).symm⟩
 unfold sufB sfx
 have e1:(a++[y]).length - ([46]:List UInt8).length=a.length:=by simp
 have e2:([46]:List UInt8).length≤(a++[y]).length:=by simp
 rw [e1,List.drop_left,List.getLast?_concat,decide_eq_true e2,Bool.true_and]
 by_cases hy:y=46
 ·subst hy;rfl
 ·have:(y==(46:UInt8))=false:=by simpa using hy
  simp [bne,this]
theorem em_L (s:ByteArray):em s=(L s).isEmpty:=by
 rw [q5p]
 have:=q17d s
 cases h:L s with
 |nil=>rw [h] at this;simp at this;simp [←this]
 |cons x l=>rw [h] at this;simp only [List.length_cons] at this;simp only [List.isEmpty_cons,decide_eq_false_iff_not];omega
theorem q1df (s:ByteArray):q1e6 s=some (!(L s).isEmpty&&(decide ((L s).length≤60)&&((L s).all (fun b=>domU b||b==46)&&(!pfx (L s)&&(sfx false (L s)&&!Go.Lib.contains (L s) [46,46]))))):=q1e5 (by
 unfold q1e7
 simp only [qwb,em_L,q3l,beq_t]
 cases h0:(L s).isEmpty with
 |true=>rfl
 |false =>
  have hne:L s≠[]:=by intro h;rw [h] at h0;cases h0
  by_cases h1:s.size≤60
  ·have h2:decide ((s.size:Int)≤60)=true:=by simp;omega
   have h3:decide ((L s).length≤60)=true:=by rw [q17d];simp [h1]
   have h4:contP s (ByteArray.mk (List.toArray [(46:UInt8),(46:UInt8)]))=some (Go.Lib.contains (L s) [46,46]):=by unfold contP;rw [if_pos (by omega)];rfl
   have h5:q1p5 s (ByteArray.mk (List.toArray [(46:UInt8)]))=some (pfx (L s)):=hasP_s s _
   have h6:q1pb s (ByteArray.mk (List.toArray [(46:UInt8)]))=some (!sfx false (L s)):=by rw [hasS_s s _ (by omega)];exact congrArg some (q1q2 hne)
   simp only [h2,h3,h4,h5,h6,q182 s (by omega),Option.bind_some,Bool.not_false,if_true,Bool.true_and]
   cases (L s).all (fun b=>domU b||b==46) <;> cases pfx (L s) <;> cases sfx false (L s) <;> cases Go.Lib.contains (L s) [46,46] <;> rfl
  ·have h2:decide ((s.size:Int)≤60)=false:=by simp;omega
   have h3:decide ((L s).length≤60)=false:=by rw [q17d];simp [h1]
   rw [h2,h3];rfl)
def addrB (s:ByteArray):Bool:=addrL locU domU (L s)
theorem addr_x (s:ByteArray) (hs:s.size≤2000000):q1du s=some (addrB s):=q1dt (by
 unfold q1dv
 have hb:addrB s=_:=q17g locU domU (by decide +kernel) (by decide +kernel) (L s)
 obtain ⟨r,h,e⟩:∃ r:ByteArray×ByteArray×Bool,q1f2 s=some r∧r.2.2=addrB s:=by
  rw [hb]
  have hc:=q1d5 s.data.toList [64]
  have hcs:cutP s (ByteArray.mk (List.toArray [(64:UInt8)]))=some (⟨(Lib.cut (L s) [64]).1.toArray⟩,⟨(Lib.cut (L s) [64]).2.1.toArray⟩,(Lib.cut (L s) [64]).2.2):=by unfold cutP;rw [if_pos (by omega)];rfl
  have hsz:(L s).length=s.size:=q17d s
  have g:∀ (a b:List UInt8) (q:Bool),(q=true→a.length+1+b.length=s.size)→∃ r:ByteArray×ByteArray×Bool,(brE (q==true)
  (brE ((!((ByteArray.toList ⟨a.toArray⟩)==(ByteArray.toList (ByteArray.mk (List.toArray [])))))==true)
   (brE ((decide ((((ByteArray.size ⟨a.toArray⟩):Nat):Int)≤(60:Int)))==true)
    (Option.bind (q18y ⟨a.toArray⟩) fun r1 =>
     (brE (r1==true)
      (Option.bind (q1e6 ⟨b.toArray⟩) fun r2 =>
       (some ((⟨a.toArray⟩:ByteArray),((⟨b.toArray⟩:ByteArray),r2))))
      (some (⟨a.toArray⟩,(⟨b.toArray⟩,false)))))
    (some (⟨a.toArray⟩,(⟨b.toArray⟩,false))))
   (some (⟨a.toArray⟩,(⟨b.toArray⟩,false))))
  (some (⟨a.toArray⟩,(⟨b.toArray⟩,false))))=some r∧r.2.2=(q&&(!a.isEmpty&&(decide (a.length≤60)&&(a.all locU &&
  (!b.isEmpty&&(decide (b.length≤60)&&(b.all (fun x=>domU x||x==46)&&(!pfx b&&(sfx false b&&!Go.Lib.contains b [46,46]))))))))):=by
   intro a b q hq
   have hLa:L ⟨a.toArray⟩=a:=by simp [L]
   have hLb:L ⟨b.toArray⟩=b:=by simp [L]
   have hsa:ByteArray.size ⟨a.toArray⟩=a.length:=by rw [←q17d,hLa]
   cases q with
   |false=>exact ⟨_,rfl,rfl⟩
   |true =>
    have hq:=hq rfl
    simp only [qwb,em_L,q3l,beq_t,if_true,hLa,hsa,Bool.true_and]
    cases a.isEmpty with
    |true=>exact ⟨_,rfl,rfl⟩
    |false =>
     have h7:decide ((a.length:Int)≤60)=decide (a.length≤60):=by rw [Bool.eq_iff_iff,decide_eq_true_iff,decide_eq_true_iff];omega
     rw [h7]
     cases decide (a.length≤60) with
     |false=>exact ⟨_,rfl,rfl⟩
     |true =>
      simp only [Bool.not_false,if_true,Bool.true_and,q191 ⟨a.toArray⟩ (by rw [hsa];omega),hLa,Option.bind_some]
      cases a.all locU with
      |false=>exact ⟨_,rfl,rfl⟩
      |true =>
       simp only [if_true,q1df,hLb,Option.bind_some,Bool.true_and]
       exact ⟨_,rfl,rfl⟩
  obtain ⟨r,h1,h2⟩:=g (Lib.cut (L s) [64]).1 (Lib.cut (L s) [64]).2.1 (Lib.cut (L s) [64]).2.2 (fun h=>by have:=hc h;rw [←hsz];exact this)
  refine ⟨r,q1f1 ?_,h2⟩
  unfold q1f3
  rw [hcs]
  exact h1
 rw [h,←e];rfl)
def mkB1 (l:List UInt8):ByteArray:=⟨l.toArray⟩
theorem L_mkB (l:List UInt8):L (mkB1 l)=l:=by simp [L,mkB1]
theorem q1ma (l:List UInt8):(mkB1 l).size=l.length:=by rw [←q17d,L_mkB]
def tim (t:Int):Bool:=decide (-68719476736≤t)&&decide (t≤68719476736)
theorem time_s (t:Int):q1br t=some (tim t):=q1bq (by
 unfold q1bs tim
 simp only [q3l,beq_t]
 by_cases h:t≥-68719476736
 ·simp [h]
 ·have:¬ (-68719476736:Int)≤t:=h
  simp [this])
theorem le_lt (a b:List UInt8):(Go.Op.bytesLess a b||a==b)=!Go.Op.bytesLess b a:=by
 rcases lt_tri a b with h|h|h
 ·rw [h,lt_asy h];rfl
 ·subst h;rw [lt_irr];simp
 ·rw [h,lt_asy h]
  have:(a==b)=false:=by
   rw [beq_eq_false_iff_ne]
   intro h1;rw [h1,lt_irr] at h;cases h
  rw [this];rfl
def ltR (a b:ByteArray):Bool:=Go.Op.bytesLess (L a) (L b)
def lateR (p:Option ByteArray) (s:ByteArray):Bool:=match p with|none=>false|some q=>!ltR q s
def rfs:Option ByteArray→Nat→List S44→Int×Int
 |_,_,[]=>(0,0)
 |p,k,x::l=>if addrB x.Sender=false then (10,(k:Int)) else if tim x.At=false then (3,(k:Int)) else
   if lateR p x.Sender=true then (19,(k:Int)) else rfs (some x.Sender) (k+1) l
def rfL (l:List S44):Int×Int:=if l.length>300 then (2,-1) else rfs none 0 l
def prevR (l:List S44) (k:Nat) (p:Option ByteArray):Prop:=(k=0→p=none)∧(∀ j,j+1=k→∀ h:j<l.length,p=some l[j].Sender)
theorem q1nl (l:List S44) {k:Nat} (h:k<l.length):prevR l (k+1) (some l[k].Sender):=by
 refine ⟨fun h=>by omega,fun j hj h=>?_⟩
 have e:j=k:=by omega
 subst e;rfl
def szR (l:List S44):Prop:=∀ x∈l,x.Sender.size≤2000000
theorem q1tq (l:List S44) (hl:l.length≤300) (hs:szR l) (c d:Int):∀ (m k:Nat) (p:Option ByteArray),k+m=l.length→prevR l k p→Ok (q1s2 l l l.length k c d) fun x=>Sum.elim (fun r=>r.2) (fun _=>(0,0)) x=rfs p k (l.drop k):=by
 intro m
 induction m with
 |zero =>
  intro k p hk hp
  refine .via q1s4 ?_
  unfold q1s9
  simp only [EC.decL_encL,EC.isL_encL,EC.encL_length,q1ka,q19t,q19u]
  refine q1ml (fun h=>absurd (of_decide_eq_true h) (by omega)) (fun _=>q1mn rfl (q1mn rfl (q1mo ?_)))
  rw [List.drop_eq_nil_of_le (by omega)];rfl
 |succ m ih =>
  intro k p hk hp
  have hlt:k<l.length:=by omega
  have e2:IntKind.i64.wrap ((k:Int)+1)=((k+1:Nat):Int):=by rw [qvs (by omega)];rfl
  refine .via q1s4 ?_
  unfold q1s9
  simp only [EC.decL_encL,EC.isL_encL,EC.encL_length,q1ka,q19t,q19u,Int.toNat_natCast,e2]
  refine q1ml (fun _=>?_) (fun h=>absurd (of_decide_eq_false h) (by omega))
  refine q1mn (by simp) (q1mn (by simp [hlt]) ?_)
  rw [q8k hlt,q5h hlt,rfs]
  have hz:=hs _ (List.getElem_mem hlt)
  refine q1mk (q1mm (addr_x _ hz)) fun r0 hr0=>?_
  subst hr0
  refine q1ml (fun hb=>q1mk (q1fg _ _) fun r1 hr1=>q1mo ?_) (fun hb=>?_)
  ·subst hr1
   rw [if_pos (by simpa using hb)];rfl
  rw [if_neg (by simpa using hb)]
  refine q1mk (q1mm (time_s _)) fun r1 hr1=>?_
  subst hr1
  refine q1ml (fun hb=>q1mk (q1fg _ _) fun r1 hr1=>q1mo ?_) (fun hb=>?_)
  ·subst hr1
   rw [if_pos (by simpa using hb)];rfl
  rw [if_neg (by simpa using hb)]
  have hn:=q1nl l hlt
  have hi:=ih (k+1) (some l[k].Sender) (by omega) hn
  refine q1ml (fun hb=>?_) (fun hb=>?_)
  ·have h0:0<k:=by simpa using hb
   have e3:IntKind.i64.wrap ((k:Int) - 1)=((k - 1:Nat):Int):=by rw [qvs (by omega)];omega
   have hlt1:k - 1<l.length:=by omega
   have hp1:p=some l[k - 1].Sender:=hp.2 (k - 1) (by omega) hlt1
   subst hp1
   simp only [e3,Int.toNat_natCast]
   refine q1mn (by simp) (q1mn (by simp [hlt1]) ?_)
   rw [q8k hlt1,q1rq,q1rq,le_lt]
   refine q1ml (fun hb=>q1mk (q1fg _ _) fun r1 hr1=>q1mo ?_) (fun hb=>?_)
   ·subst hr1
    rw [if_pos (show lateR (some l[k - 1].Sender) l[k].Sender=true from hb)];rfl
   ·rw [if_neg (show ¬ lateR (some l[k - 1].Sender) l[k].Sender=true from fun h9=>by
     have h9:(!Go.Op.bytesLess (L l[k - 1].Sender) (L l[k].Sender))=true:=h9
     rw [hb] at h9;cases h9)]
    exact q1mn rfl (q1mn rfl hi)
  ·have h0:k=0:=by simpa using hb
   have hp1:=hp.1 h0
   subst hp1
   rw [if_neg (show ¬ lateR none l[k].Sender=true from fun h9=>by cases h9)]
   exact q1mn rfl (q1mn rfl hi)
theorem qvf (l:List S44) (hs:szR l):q1sa l=some (rfL l):=q1s1 (by
 unfold q1sb rfL
 simp only [EC.decL_encL,EC.isL_encL,EC.encL_length]
 by_cases hl:l.length>300
 ·rw [if_pos hl]
  have:decide ((l.length:Int)>300)=true:=by simp;omega
  rw [this,q72];rfl
 ·rw [if_neg hl]
  have:decide ((l.length:Int)>300)=false:=by simp;omega
  rw [this]
  obtain ⟨x,h1,h2⟩:=q1tq l (by omega) hs 0 0 l.length 0 none (by omega) ⟨fun _=>rfl,fun j h=>by omega⟩
  have h1:q1s2 l l l.length 0 0 0=some x:=h1
  rw [List.drop_zero] at h2
  simp only [q3l,q8h,if_true,h1,Option.bind_some,←h2,none_s]
  rcases x with x|x <;> rfl)
def srt (l:List S44):Prop:=l.Pairwise fun x y=>ltR x.Sender y.Sender=true
theorem q1ny:∀ (l:List S44) (p:Option ByteArray) (k:Nat),(rfs p k l).1=0→srt l∧(∀ x∈l,addrB x.Sender=true∧tim x.At=true)∧∀ q,p=some q→∀ x∈l,ltR q x.Sender=true
 |[],p,k,_=>⟨.nil,(fun x hx=>by cases hx),(fun q _ x hx=>by cases hx)⟩
 |y::l,p,k,h=>by
  rw [rfs] at h
  by_cases h1:addrB y.Sender=false
  ·rw [if_pos h1] at h;cases h
  rw [if_neg h1] at h
  by_cases h2:tim y.At=false
  ·rw [if_pos h2] at h;cases h
  rw [if_neg h2] at h
  split at h
  ·cases h
  ·rename_i h3
   obtain ⟨g1,g2,g3⟩:=q1ny l _ _ h
   refine ⟨.cons (fun x hx=>g3 _ rfl x hx) g1,?_,?_⟩
   ·intro x hx
    rcases List.mem_cons.1 hx with rfl|hx
    ·exact ⟨by simpa using h1,by simpa using h2⟩
    ·exact g2 x hx
   ·intro q hq x hx
    subst hq
    have h4:ltR q y.Sender=true:=by
     have h3:¬ (!ltR q y.Sender)=true:=h3
     cases h5:ltR q y.Sender with
     |true=>rfl
     |false=>rw [h5] at h3;exact absurd rfl h3
    rcases List.mem_cons.1 hx with rfl|hx
    ·exact h4
    ·exact q1lb h4 (g3 _ rfl x hx)
theorem rfL_ok {l:List S44} (h:(rfL l).1=0):l.length≤300∧srt l∧∀ x∈l,addrB x.Sender=true∧tim x.At=true:=by
 unfold rfL at h
 split at h
 ·cases h
 ·obtain ⟨h1,h2,_⟩:=q1ny l none 0 h
  exact ⟨by omega,h1,h2⟩
theorem mid_s {i j:Nat} (h:i+j≤9223372036854775807):IntKind.i64.wrap (Int.fdiv (IntKind.u64.wrap (IntKind.i64.wrap ((i:Int)+(j:Int)))) ((2:Int) ^ (Min.min (Int.toNat (1:Int)) (IntKind.bits IntKind.u64))))=(((i+j) / 2:Nat):Int):=by
 have e1:((2:Int) ^ (Min.min (Int.toNat (1:Int)) (IntKind.bits IntKind.u64)))=2:=rfl
 rw [e1,IntWalk.i64_in ((i:Int)+(j:Int)) (by omega),IntWalk.u64_in _ (by omega),Int.fdiv_eq_ediv_of_nonneg _ (by omega),IntWalk.i64_in _ (by omega)]
 omega
def lb (l:List S44) (t:ByteArray):Nat:=(l.takeWhile fun x=>ltR x.Sender t).length
theorem lb_le (l:List S44) (t:ByteArray):lb l t≤l.length:=(List.takeWhile_sublist _).length_le
theorem q1kt:∀ {l:List S44} (_:srt l) (t:ByteArray) (k:Nat) (h:k<l.length),(k<lb l t ↔ ltR l[k].Sender t=true)
 |x::l,hs,t,k,h=>by
  obtain ⟨h1,h2⟩:=List.pairwise_cons.1 hs
  unfold lb
  rw [List.takeWhile_cons]
  cases hx:ltR x.Sender t with
  |true =>
   rw [if_pos rfl,List.length_cons]
   cases k with
   |zero=>simp [hx]
   |succ k =>
    have h:k<l.length:=by simpa using h
    have:=q1kt h2 t k h
    simp only [List.getElem_cons_succ]
    rw [←this]
    unfold lb
    omega
  |false =>
   rw [if_neg (by decide),List.length_nil]
   constructor
   ·intro h;omega
   ·intro h3
    exfalso
    cases k with
    |zero=>simp [hx] at h3
    |succ k =>
     have h:k<l.length:=by simpa using h
     simp only [List.getElem_cons_succ] at h3
     have:=q1lb (h1 _ (List.getElem_mem h)) h3
     unfold ltR at hx
     rw [hx] at this;cases this
theorem cmp1_s (x:S44) (t:ByteArray):q1su x.Sender x.At t=some (Go.Lib.compareBytes (L x.Sender) (L t)):=q1st rfl
theorem q1c6 {l:List S44} (hs:srt l) (hl:l.length≤2000000) (t:ByteArray):∀ (m i j:Nat),j - i≤m→i≤lb l t→lb l t≤j→j≤l.length→Ok (bsR_l3 l t l.length i j) fun r=>r.1.1=l∧r.1.2.1=t∧r.1.2.2.2.1=(l.length:Int)∧r.1.2.2.2.2.1=(lb l t:Int):=by
 intro m
 induction m with
 |zero =>
  intro i j hm h1 h2 h3
  refine .via q1c1 ?_
  unfold q1c5
  simp only [EC.decL_encL,EC.isL_encL,EC.encL_length,q1ka,q19t,q19u]
  refine q1ml (fun h=>absurd (of_decide_eq_true h) (by omega)) (fun _=>q1mn rfl (q1mo ⟨rfl,rfl,rfl,?_⟩))
  show (i:Int)=_
  omega
 |succ m ih =>
  intro i j hm h1 h2 h3
  refine .via q1c1 ?_
  unfold q1c5
  simp only [EC.decL_encL,EC.isL_encL,EC.encL_length,q1ka,q19t,q19u]
  refine q1ml (fun h=>?_) (fun h=>q1mn rfl (q1mo ⟨rfl,rfl,rfl,?_⟩))
  ·have hij:i<j:=by have:=of_decide_eq_true h;omega
   have hk:(i+j) / 2<l.length:=by omega
   have e2:IntKind.i64.wrap ((((i+j) / 2:Nat):Int)+1)=(((i+j) / 2+1:Nat):Int):=by rw [qvs (by omega)];rfl
   simp only [mid_s (i:=i) (j:=j) (by omega),Int.toNat_natCast,e2]
   refine q1mn (decide_eq_true (by omega)) (q1mn (by simp [hk]) ?_)
   rw [q8k hk]
   refine q1mk (q1mm (cmp1_s _ _)) fun r0 hr0=>?_
   subst hr0
   have hc:=(q1cm (L l[(i+j) / 2].Sender) (L t)).1
   have hsp:=q1kt hs t _ hk
   refine q1ml (fun h=>q1mn rfl ?_) (fun h=>q1mn rfl ?_)
   ·have:=hsp.2 (hc.1 (of_decide_eq_true h))
    exact ih _ _ (by omega) (by omega) h2 h3
   ·have:¬ (i+j) / 2<lb l t:=fun h9=>(of_decide_eq_false h) (hc.2 (hsp.1 h9))
    exact ih _ _ (by omega) h1 (by omega) (by omega)
  ·have:=of_decide_eq_false h
   show (i:Int)=_
   omega
def atB (l:List S44) (t:ByteArray):Bool:=match l[lb l t]? with|none=>false|some x=>L x.Sender==L t
theorem find_s {l:List S44} (hs:srt l) (hl:l.length≤2000000) (t:ByteArray):q1t0 l t=some ((lb l t:Int),atB l t):=q1sz (by
 unfold q1t1
 have hb:bsR_s l t=some ((lb l t:Int),atB l t):=bsR_eq (by
  unfold bsR_t
  simp only [EC.decL_encL,EC.isL_encL,EC.encL_length,q1ka,q19t,q19u]
  obtain ⟨r,h,h1,h2,h3,h4⟩:=q1c6 hs hl t l.length 0 l.length (by omega) (by omega) (lb_le l t) (Nat.le_refl _)
  have h:bsR_l3 l t l.length 0 l.length=some r:=h
  rw [h]
  simp only [q8h,q3l,if_true,Option.bind_some,h1,h2,h3,h4,beq_t,Int.toNat_natCast]
  unfold atB
  by_cases hk:lb l t<l.length
  ·have e1:decide ((lb l t:Int)<(l.length:Int))=true:=by simp;omega
   have e2:decide ((0:Int)≤(lb l t:Int))=true:=by simp
   rw [List.getElem?_eq_getElem hk]
   simp only [e1,e2,if_true,decide_eq_true hk,Bool.true_and,q8k hk,cmp1_s,Option.bind_some]
   have hc:=(q1cm (L l[lb l t].Sender) (L t)).2
   have:(Go.Lib.compareBytes (L l[lb l t].Sender) (L t)==0)=(L l[lb l t].Sender==L t):=by
    rw [Bool.eq_iff_iff,beq_iff_eq,beq_iff_eq,hc]
   rw [this]
  ·have e1:decide ((lb l t:Int)<(l.length:Int))=false:=by simp;omega
   rw [List.getElem?_eq_none (by omega),e1]
   rfl)
 simp only [EC.decL_encL,EC.isL_encL,hb,Option.bind_some,q8h,if_true])
theorem q19s {l:List S44} {t:ByteArray} (h:atB l t=true):∃ h:lb l t<l.length,L l[lb l t].Sender=L t:=by
 unfold atB at h
 split at h
 ·cases h
 ·rename_i x hx
  obtain ⟨h1,h2⟩:=List.getElem?_eq_some_iff.1 hx
  refine ⟨h1,?_⟩
  rw [h2];simpa using h
end Go.Proofs.YtepmpilapglklaaGreat
