/- Texts in order; addresses: plain laws. -/
import Derived.Test.YtepmpilapglklaaGreatZ24
namespace Go.Proofs.YtepmpilapglklaaGreat
theorem lt_irr:∀ a:List UInt8,Go.Op.bytesLess a a=false
 |[]=>rfl
 |x::a=>by
  have h:¬ x<x:=UInt8.lt_irrefl x
  simp [Go.Op.bytesLess,lt_irr a,h]
theorem ql4 {x y:UInt8} {a b:List UInt8}:Go.Op.bytesLess (x::a) (y::b)=true ↔ x<y∨(x=y∧Go.Op.bytesLess a b=true):=by
 simp [Go.Op.bytesLess]
theorem ql5:∀ {a b c:List UInt8},Go.Op.bytesLess a b=true→Go.Op.bytesLess b c=true→Go.Op.bytesLess a c=true
 |_,[],_,h,_=>by
  rename_i a c
  cases a <;> simp [Go.Op.bytesLess] at h
 |_,_::_,[],_,h=>by simp [Go.Op.bytesLess] at h
 |[],_::_,_::_,_,_=>rfl
 |x::a,y::b,z::c,h1,h2=>by
  rw [ql4] at *
  rcases h1 with h1|⟨rfl,h1⟩
  ·rcases h2 with h2|⟨rfl,h2⟩
   ·exact .inl (UInt8.lt_trans h1 h2)
   ·exact .inl h1
  ·rcases h2 with h2|⟨rfl,h2⟩
   ·exact .inl h2
   ·exact .inr ⟨rfl,ql5 h1 h2⟩
theorem lt_asy {a b:List UInt8} (h:Go.Op.bytesLess a b=true):Go.Op.bytesLess b a=false:=by
 cases h1:Go.Op.bytesLess b a with
 |false=>rfl
 |true=>have:=ql5 h h1;rw [lt_irr] at this;cases this
theorem lt_tri:∀ (a b:List UInt8),Go.Op.bytesLess a b=true∨a=b∨Go.Op.bytesLess b a=true
 |[],[]=>.inr (.inl rfl)
 |[],_::_=>.inl rfl
 |_::_,[]=>.inr (.inr rfl)
 |x::a,y::b=>by
  simp only [ql4]
  by_cases h:x=y
  ·subst h
   rcases lt_tri a b with h|h|h
   ·exact .inl (.inr ⟨rfl,h⟩)
   ·exact .inr (.inl (by rw [h]))
   ·exact .inr (.inr (.inr ⟨rfl,h⟩))
  ·by_cases h1:x<y
   ·exact .inl (.inl h1)
   ·exact .inr (.inr (.inl (UInt8.lt_of_le_of_ne (UInt8.not_lt.1 h1) (Ne.symm h))))
theorem q81:∀ (a b:List UInt8),(Go.Lib.compareBytes a b<0 ↔ Go.Op.bytesLess a b=true)∧(Go.Lib.compareBytes a b=0 ↔ a=b)
 |[],[]=>by simp [Go.Lib.compareBytes,Go.Op.bytesLess]
 |[],_::_=>by simp [Go.Lib.compareBytes,Go.Op.bytesLess]
 |_::_,[]=>by simp [Go.Lib.compareBytes,Go.Op.bytesLess]
 |x::a,y::b=>by
  rw [ql4]
  unfold Go.Lib.compareBytes
  by_cases h1:x<y
  ·have:x≠y:=UInt8.ne_of_lt h1
   simp [h1,this]
  ·by_cases h2:y<x
   ·have:x≠y:=Ne.symm (UInt8.ne_of_lt h2)
    simp [h1,h2,this]
   ·have:x=y:=UInt8.le_antisymm (UInt8.not_lt.1 h2) (UInt8.not_lt.1 h1)
    subst this
    have ih:=q81 a b
    simp [h1,ih.1,ih.2]
def spA (c:UInt8):List UInt8→List UInt8→List (List UInt8)
 |p,[]=>[p]
 |p,x::l=>if x=c then p::spA c [] l else spA c (p++[x]) l
theorem qio (x:UInt8) (l s:List UInt8):(0≤Go.Lib.index (x::l) s ↔ s.isPrefixOf (x::l)=true∨0≤Go.Lib.index l s):=by
 have h:=Go.Lib.index_ge l s
 rw [Go.Lib.index]
 split
 ·rename_i h1;simp [h1]
 ·rename_i h1
  split
  ·rename_i h2
   have h2:Go.Lib.index l s=-1:=by simpa using h2
   simp [h1,h2]
  ·rename_i h2
   have h2:Go.Lib.index l s≠-1:=by simpa using h2
   simp only [h1,Bool.false_eq_true,false_or]
   omega
theorem q8n (c:UInt8):Go.Lib.cut [] [c]=([],[],false):=rfl
theorem q8m (c x:UInt8) (l:List UInt8):Go.Lib.cut (x::l) [c]=if x=c then ([],l,true) else if (Go.Lib.cut l [c]).2.2=true then (x::(Go.Lib.cut l [c]).1,(Go.Lib.cut l [c]).2.1,true) else (x::l,[],false):=by
 have h:=Go.Lib.index_ge l [c]
 unfold Go.Lib.cut
 rw [Go.Lib.index]
 by_cases hx:x=c
 ·subst hx
  simp
 ·have h0:(c==x)=false:=by simpa using Ne.symm hx
  have h1:List.isPrefixOf [c] (x::l)=false:=by simp [List.isPrefixOf,h0]
  simp only [h1,Bool.false_eq_true,if_false,hx]
  by_cases h2:Go.Lib.index l [c]=-1
  ·simp [h2]
  ·have h3:0≤Go.Lib.index l [c]:=by omega
   have h4:0≤Go.Lib.index l [c]+1:=by omega
   have h5:(Go.Lib.index l [c]==-1)=false:=by simpa using h2
   have h6:(Go.Lib.index l [c]+1).toNat=(Go.Lib.index l [c]).toNat+1:=by omega
   have h7:(Go.Lib.index l [c]).toNat+1+1=(Go.Lib.index l [c]).toNat+1+[c].length:=rfl
   simp only [h5,Bool.false_eq_true,if_false,h3,h4,if_true,h6,List.take_succ_cons]
   rfl
theorem qqt (c:UInt8):∀ (l p:List UInt8),spA c p l=if (Go.Lib.cut l [c]).2.2=true then (p++(Go.Lib.cut l [c]).1)::spA c [] (Go.Lib.cut l [c]).2.1 else [p++l]
 |[],p=>by simp [spA,q8n]
 |x::l,p=>by
  rw [spA,q8m]
  by_cases hx:x=c
  ·simp [hx]
  ·rw [if_neg hx,if_neg hx,qqt c l (p++[x])]
   by_cases h:(Go.Lib.cut l [c]).2.2=true
   ·simp [h]
   ·simp [h]
theorem q8p (c:UInt8):∀ (l:List UInt8),(Go.Lib.cut l [c]).2.2=true→c∈l
 |[],h=>by rw [q8n] at h;cases h
 |x::l,h=>by
  rw [q8m] at h
  by_cases hx:x=c
  ·simp [hx]
  ·rw [if_neg hx] at h
   by_cases h1:(Go.Lib.cut l [c]).2.2=true
   ·exact List.mem_cons_of_mem _ (q8p c l h1)
   ·rw [if_neg h1] at h;cases h
def dm (f:UInt8→Bool):Bool→List UInt8→Bool
 |e,[]=>e
 |e,x::l=>if x=46 then e&&dm f false l else f x&&dm f true l
theorem spA_dm (f:UInt8→Bool):∀ (l p:List UInt8),(spA 46 p l).all (fun q=>!q.isEmpty&&q.all f)=(p.all f&&dm f (!p.isEmpty) l)
 |[],p=>by simp [spA,dm,Bool.and_comm]
 |x::l,p=>by
  rw [spA,dm]
  by_cases hx:x=46
  ·rw [if_pos hx,if_pos hx,List.all_cons,spA_dm f l []]
   cases p.all f <;> cases p.isEmpty <;> simp
  ·rw [if_neg hx,if_neg hx,spA_dm f l (p++[x])]
   have:(p++[x]).isEmpty=false:=by cases p <;> rfl
   rw [this,List.all_append]
   cases p.all f <;> simp
def sfx (e:Bool) (l:List UInt8):Bool:=match l.getLast? with|none=>e|some y=>y != 46
theorem qq2 (e:Bool) (x:UInt8) (l:List UInt8):sfx e (x::l)=sfx (x != 46) l:=by
 unfold sfx
 cases l with
 |nil=>rfl
 |cons y l=>rw [List.getLast?_cons_cons];cases h:(y::l).getLast? with
  |none=>simp at h
  |some z=>rfl
theorem q9b (x:UInt8) (l:List UInt8):Go.Lib.contains (x::l) [46,46]=(([46,46]:List UInt8).isPrefixOf (x::l)||Go.Lib.contains l [46,46]):=by
 unfold Go.Lib.contains
 rw [Bool.eq_iff_iff,decide_eq_true_iff,qio,Bool.or_eq_true,decide_eq_true_iff]
def pfx (l:List UInt8):Bool:=l.take 1==[46]
theorem dm_eq (f:UInt8→Bool):∀ (l:List UInt8) (e:Bool),dm f e l=(l.all (fun x=>f x||x==46)&&(sfx e l&&(!Go.Lib.contains l [46,46]&&(e||!pfx l))))∨f 46=true
 |[],e=>.inl (by simp [dm,sfx,pfx,Go.Lib.contains,Go.Lib.index])
 |x::l,e=>by
  rw [dm,qq2,q9b,List.all_cons]
  by_cases hx:x=46
  ·subst hx
   rcases dm_eq f l false with h|h
   ·left
    rw [if_pos rfl,h]
    have h1:pfx ((46:UInt8)::l)=true:=rfl
    have h2:([46,46]:List UInt8).isPrefixOf (46::l)=pfx l:=by
     cases l with
     |nil=>rfl
     |cons y l =>
      by_cases hy:y=46
      ·subst hy;rfl
      ·have h5:((46:UInt8)==y)=false:=by simpa using Ne.symm hy
       have h6:(y==(46:UInt8))=false:=by simpa using hy
       simp [pfx,List.isPrefixOf,h5,h6]
    rw [h1,h2]
    have h3:((46:UInt8) != 46)=false:=rfl
    rw [h3]
    cases e <;> cases l.all (fun x=>f x||x==46) <;> cases sfx false l <;> cases Go.Lib.contains l [46,46] <;> cases pfx l <;> simp
   ·exact .inr h
  ·rcases dm_eq f l true with h|h
   ·left
    rw [if_neg hx,h]
    have h1:pfx (x::l)=false:=by simp [pfx,hx]
    have h2:([46,46]:List UInt8).isPrefixOf (x::l)=false:=by
     have h5:((46:UInt8)==x)=false:=by simpa using Ne.symm hx
     simp [List.isPrefixOf,h5]
    have h3:(x != 46)=true:=by simpa using hx
    have h4:(x==46)=false:=by simpa using hx
    rw [h1,h2,h3,h4]
    cases f x <;> cases e <;> cases l.all (fun x=>f x||x==46) <;> cases sfx true l <;> cases Go.Lib.contains l [46,46] <;> simp
   ·exact .inr h
def addrL (lf df:UInt8→Bool) (l:List UInt8):Bool:=match spA 64 [] l with
 |[a,b]=>(decide (1≤a.length)&&decide (a.length≤60))&&((decide (1≤b.length)&&decide (b.length≤60))&&(a.all lf&&(spA 46 [] b).all (fun q=>!q.isEmpty&&q.all df)))
 |_=>false
theorem qs (lf df:UInt8→Bool) (h46:df 46=false) (h64:df 64=false) (l:List UInt8):addrL lf df l=((Go.Lib.cut l [64]).2.2&&(!(Go.Lib.cut l [64]).1.isEmpty&&(decide ((Go.Lib.cut l [64]).1.length≤60)&&((Go.Lib.cut l [64]).1.all lf &&
  (!(Go.Lib.cut l [64]).2.1.isEmpty&&(decide ((Go.Lib.cut l [64]).2.1.length≤60)&&((Go.Lib.cut l [64]).2.1.all (fun x=>df x||x==46)&&(!pfx (Go.Lib.cut l [64]).2.1&&(sfx false (Go.Lib.cut l [64]).2.1&&!Go.Lib.contains (Go.Lib.cut l [64]).2.1 [46,46]))))))))):=by
 unfold addrL
 rw [qqt]
 cases h:(Go.Lib.cut l [64]).2.2 with
 |false=>simp
 |true =>
  rw [if_pos rfl]
  generalize (Go.Lib.cut l [64]).1=a
  generalize (Go.Lib.cut l [64]).2.1=b
  rw [List.nil_append,qqt]
  cases hb:(Go.Lib.cut b [64]).2.2 with
  |true =>
   have hm:=q8p 64 b hb
   have:b.all (fun x=>df x||x==46)=false:=by
    rw [List.all_eq_false]
    exact ⟨64,hm,by rw [h64];decide⟩
   rw [if_pos rfl,this]
   have hne:spA 64 [] (Go.Lib.cut b [64]).2.1≠[]:=by
    rw [qqt];split <;> simp
   cases h9:spA 64 [] (Go.Lib.cut b [64]).2.1 with
   |nil=>exact absurd h9 hne
   |cons y ys=>simp
  |false =>
   rw [if_neg (by decide)]
   simp only [List.nil_append]
   rw [spA_dm,(dm_eq df b _).resolve_right (by rw [h46];decide)]
   have ha:decide (1≤a.length)=!a.isEmpty:=by cases a <;> simp
   have hb1:decide (1≤b.length)=!b.isEmpty:=by cases b <;> simp
   rw [ha,hb1]
   simp only [List.all_nil,List.isEmpty_nil,Bool.not_true,Bool.false_or,Bool.true_and]
   cases a.isEmpty <;> cases decide (a.length≤60) <;> cases a.all lf <;> cases b.isEmpty <;> cases decide (b.length≤60) <;> cases b.all (fun x=>df x||x==46) <;> cases pfx b <;> cases sfx false b <;> cases Go.Lib.contains b [46,46] <;> rfl
end Go.Proofs.YtepmpilapglklaaGreat
namespace Go.Proofs.YtepmpilapglklaaGreat
open Go.RowKit
def inI (c a b:Int):Bool:=decide (a≤c)&&decide (c≤b)
def locF (c:Int):Bool:=inI (lowI c) 97 122||(inI c 48 57||(c==45||(c==95||(c==46||(c==43||c==61)))))
def domF (c:Int):Bool:=inI c 97 122||(inI c 48 57||c==45)
def letF (c:Int):Bool:=inI c 97 122||(inI c 65 90||inI c 48 57)
def locU (b:UInt8):Bool:=locF (nb b)
def domU (b:UInt8):Bool:=domF (nb b)
theorem qka:∀ n:Nat,n<256→q4z (n:Int)=some (letF n):=by decide +kernel
theorem qkc (b:UInt8):q4y (nb b)=some (letF (nb b)):=q4x (qka b.toNat b.toNat_lt)
def locK (c:Int):Option Bool:=brE (letF c==false) (some (decide ((Go.Lib.indexByte (Array.toList (List.toArray [(45:UInt8),(95:UInt8),(46:UInt8),(43:UInt8),(61:UInt8)])) (Nat.toUInt8 (Int.toNat c)))≥(0:Int)))) (some true)
theorem loc_n:∀ n:Nat,n<256→locK (n:Int)=some (locF n):=by decide +kernel
theorem loc_s (b:UInt8):qb1 (nb b)=some (locU b):=qb0 (by
 unfold qb2
 rw [qkc]
 exact loc_n b.toNat b.toNat_lt)
theorem dom_n:∀ n:Nat,n<256→qa6 (n:Int)=some (domF n||(n:Int)==46):=by decide +kernel
theorem nb_eq (a b:UInt8):(nb a==nb b)=(a==b):=by
 rw [Bool.eq_iff_iff,beq_iff_eq,beq_iff_eq]
 unfold nb
 constructor
 ·intro h;exact UInt8.toNat_inj.1 (by omega)
 ·intro h;rw [h]
theorem dom_s (b:UInt8):qa5 (nb b)=some (domU b||b==46):=by
 have h:qa5 (nb b)=some (domF (nb b)||nb b==46):=qa4 (dom_n b.toNat b.toNat_lt)
 rw [h,←nb_eq b 46];rfl
theorem q2m (s:ByteArray) (hs:s.size≤2000000):q2j s=some ((L s).all locU):=by
 rw [q2k s (by omega)]
 congr 2
 funext b
 simp only [q2i,loc_s,Option.getD_some]
theorem q1m (s:ByteArray) (hs:s.size≤2000000):q1j s=some ((L s).all fun b=>domU b||b==46):=by
 rw [q1k s (by omega)]
 congr 2
 funext b
 simp only [q1i,dom_s,Option.getD_some]
theorem hasP_s (s p:ByteArray):qrq s p=some ((L s).take p.size==L p):=qrp (by
 unfold qrr
 have:qs8 s p=some ((L s).take p.size==L p):=qs7 (by
  unfold qs9
  simp only [q6m,qfz,quh,L_ext]
  by_cases h:p.size≤s.size
  ·have h1:((s.size:Int)≥(p.size:Int)):=by omega
   simp [h1]
  ·have h1:¬ ((s.size:Int)≥(p.size:Int)):=by omega
   rw [if_neg (by simpa using h1)]
   congr 1
   symm
   rw [beq_eq_false_iff_ne]
   intro h2
   have:=congrArg List.length h2
   rw [List.length_take,qj,qj] at this
   omega)
 rw [this];rfl)
def sufB (l p:List UInt8):Bool:=decide (p.length≤l.length)&&l.drop (l.length - p.length)==p
theorem hasS_s (s p:ByteArray) (hs:s.size≤2000000):qrw s p=some (sufB (L s) (L p)):=qrv (by
 unfold qrx
 have:qse s p=some (sufB (L s) (L p)):=qsd (by
  unfold qsf sufB
  simp only [q6m,qfz,quh,L_ext,qj]
  by_cases h:p.size≤s.size
  ·have h1:((s.size:Int)≥(p.size:Int)):=by omega
   have h2:IntKind.i64.wrap ((s.size:Int) - (p.size:Int))=((s.size - p.size:Nat):Int):=by rw [qxb (by omega)];omega
   have h3:(L s).drop (s.size - p.size)=((L s).drop (s.size - p.size)).take (s.size - (s.size - p.size)):=by
    rw [List.take_of_length_le];rw [List.length_drop,qj];omega
   rw [h2]
   simp only [Int.toNat_natCast,←h3]
   simp [h1,h]
  ·have h1:¬ ((s.size:Int)≥(p.size:Int)):=by omega
   rw [if_neg (by simpa using h1)]
   simp [h])
 rw [this];rfl)
theorem qsp {l:List UInt8} (h:l≠[]):sufB l [46]=!sfx false l:=by
 obtain ⟨a,y,rfl⟩:∃ a y,l=a++[y]:=⟨l.dropLast,l.getLast h,(List.dropLast_concat_getLast h).symm⟩
 unfold sufB sfx
 have e1:(a++[y]).length - ([46]:List UInt8).length=a.length:=by simp
 have e2:([46]:List UInt8).length≤(a++[y]).length:=by simp
 rw [e1,List.drop_left,List.getLast?_concat,decide_eq_true e2,Bool.true_and]
 by_cases hy:y=46
 ·subst hy;rfl
 ·have:(y==(46:UInt8))=false:=by simpa using hy
  simp [bne,this]
theorem em_L (s:ByteArray):em s=(L s).isEmpty:=by
 rw [q9n]
 have:=qj s
 cases h:L s with
 |nil=>rw [h] at this;simp at this;simp [←this]
 |cons x l=>rw [h] at this;simp only [List.length_cons] at this;simp only [List.isEmpty_cons,decide_eq_false_iff_not];omega
theorem q9a (s:ByteArray):qab s=some (!(L s).isEmpty&&(decide ((L s).length≤60)&&((L s).all (fun b=>domU b||b==46)&&(!pfx (L s)&&(sfx false (L s)&&!Go.Lib.contains (L s) [46,46]))))):=qaa (by
 unfold qac
 simp only [qxx,em_L,q6m,beq_t]
 cases h0:(L s).isEmpty with
 |true=>rfl
 |false =>
  have hne:L s≠[]:=by intro h;rw [h] at h0;cases h0
  by_cases h1:s.size≤60
  ·have h2:decide ((s.size:Int)≤60)=true:=by simp;omega
   have h3:decide ((L s).length≤60)=true:=by rw [qj];simp [h1]
   have h4:contP s (ByteArray.mk (List.toArray [(46:UInt8),(46:UInt8)]))=some (Go.Lib.contains (L s) [46,46]):=by unfold contP;rw [if_pos (by omega)];rfl
   have h5:qrq s (ByteArray.mk (List.toArray [(46:UInt8)]))=some (pfx (L s)):=hasP_s s _
   have h6:qrw s (ByteArray.mk (List.toArray [(46:UInt8)]))=some (!sfx false (L s)):=by rw [hasS_s s _ (by omega)];exact congrArg some (qsp hne)
   simp only [h2,h3,h4,h5,h6,q1m s (by omega),Option.bind_some,Bool.not_false,if_true,Bool.true_and]
   cases (L s).all (fun b=>domU b||b==46) <;> cases pfx (L s) <;> cases sfx false (L s) <;> cases Go.Lib.contains (L s) [46,46] <;> rfl
  ·have h2:decide ((s.size:Int)≤60)=false:=by simp;omega
   have h3:decide ((L s).length≤60)=false:=by rw [qj];simp [h1]
   rw [h2,h3];rfl)
def addrB (s:ByteArray):Bool:=addrL locU domU (L s)
theorem addr_x (s:ByteArray) (hs:s.size≤2000000):q9z s=some (addrB s):=q9y (by
 unfold qa0
 have hb:addrB s=_:=qs locU domU (by decide +kernel) (by decide +kernel) (L s)
 obtain ⟨r,h,e⟩:∃ r:ByteArray×ByteArray×Bool,qb7 s=some r∧r.2.2=addrB s:=by
  rw [hb]
  have hc:=q8q s.data.toList [64]
  have hcs:cutP s (ByteArray.mk (List.toArray [(64:UInt8)]))=some (⟨(Lib.cut (L s) [64]).1.toArray⟩,⟨(Lib.cut (L s) [64]).2.1.toArray⟩,(Lib.cut (L s) [64]).2.2):=by unfold cutP;rw [if_pos (by omega)];rfl
  have hsz:(L s).length=s.size:=qj s
  have g:∀ (a b:List UInt8) (q:Bool),(q=true→a.length+1+b.length=s.size)→∃ r:ByteArray×ByteArray×Bool,(brE (q==true)
  (brE ((!((ByteArray.toList ⟨a.toArray⟩)==(ByteArray.toList (ByteArray.mk (List.toArray [])))))==true)
   (brE ((decide ((((ByteArray.size ⟨a.toArray⟩):Nat):Int)≤(60:Int)))==true)
    (Option.bind (q2j ⟨a.toArray⟩) fun r1 =>
     (brE (r1==true)
      (Option.bind (qab ⟨b.toArray⟩) fun r2 =>
       (some ((⟨a.toArray⟩:ByteArray),((⟨b.toArray⟩:ByteArray),r2))))
      (some (⟨a.toArray⟩,(⟨b.toArray⟩,false)))))
    (some (⟨a.toArray⟩,(⟨b.toArray⟩,false))))
   (some (⟨a.toArray⟩,(⟨b.toArray⟩,false))))
  (some (⟨a.toArray⟩,(⟨b.toArray⟩,false))))=some r∧r.2.2=(q&&(!a.isEmpty&&(decide (a.length≤60)&&(a.all locU &&
  (!b.isEmpty&&(decide (b.length≤60)&&(b.all (fun x=>domU x||x==46)&&(!pfx b&&(sfx false b&&!Go.Lib.contains b [46,46]))))))))):=by
   intro a b q hq
   have hLa:L ⟨a.toArray⟩=a:=by simp [L]
   have hLb:L ⟨b.toArray⟩=b:=by simp [L]
   have hsa:ByteArray.size ⟨a.toArray⟩=a.length:=by rw [←qj,hLa]
   cases q with
   |false=>exact ⟨_,rfl,rfl⟩
   |true =>
    have hq:=hq rfl
    simp only [qxx,em_L,q6m,beq_t,if_true,hLa,hsa,Bool.true_and]
    cases a.isEmpty with
    |true=>exact ⟨_,rfl,rfl⟩
    |false =>
     have h7:decide ((a.length:Int)≤60)=decide (a.length≤60):=by rw [Bool.eq_iff_iff,decide_eq_true_iff,decide_eq_true_iff];omega
     rw [h7]
     cases decide (a.length≤60) with
     |false=>exact ⟨_,rfl,rfl⟩
     |true =>
      simp only [Bool.not_false,if_true,Bool.true_and,q2m ⟨a.toArray⟩ (by rw [hsa];omega),hLa,Option.bind_some]
      cases a.all locU with
      |false=>exact ⟨_,rfl,rfl⟩
      |true =>
       simp only [if_true,q9a,hLb,Option.bind_some,Bool.true_and]
       exact ⟨_,rfl,rfl⟩
  obtain ⟨r,h1,h2⟩:=g (Lib.cut (L s) [64]).1 (Lib.cut (L s) [64]).2.1 (Lib.cut (L s) [64]).2.2 (fun h=>by have:=hc h;rw [←hsz];exact this)
  refine ⟨r,qb6 ?_,h2⟩
  unfold qb8
  rw [hcs]
  exact h1
 rw [h,←e];rfl)
def mkB1 (l:List UInt8):ByteArray:=⟨l.toArray⟩
theorem L_mkB (l:List UInt8):L (mkB1 l)=l:=by simp [L,mkB1]
theorem qxw (s:ByteArray) (c:UInt8) (hs:s.size≤2000000):∀ (m k f:Nat) (acc:List ByteArray),k+m=s.size→f≤k→acc.length≤k →
  Ok (qzm s (ByteArray.mk (List.toArray [c])) acc.length f k acc) fun r=>r.1.1=s∧r.1.2.2.1=r.2.length∧r.2.length≤s.size∧∃ g:Nat,r.1.2.2.2.1=g∧g≤s.size∧r.2++[s.extract g s.size]=acc++(spA c (((L s).drop f).take (k - f)) ((L s).drop k)).map mkB1:=by
 have hc:(ByteArray.mk (List.toArray [c])).size=1:=rfl
 have hL:=qj s
 intro m
 induction m with
 |zero =>
  intro k f acc hk hf ha
  refine .via qzo ?_
  unfold qzs
  simp only [EC.decL_encL,EC.isL_encL,qxp,qxr,hc]
  have e1:IntKind.i64.wrap ((k:Int)+((1:Nat):Int))=((k+1:Nat):Int):=by rw [qxb (by omega)];omega
  rw [e1]
  refine qmz (fun h=>?_) (fun _=>qn1 rfl (qn2 ⟨rfl,rfl,(show acc.length≤s.size by omega),f,rfl,by omega,?_⟩))
  ·have:=of_decide_eq_true h
   omega
  ·congr 1
   rw [List.drop_eq_nil_of_le (show (L s).length≤k by omega),spA,List.map_cons,List.map_nil]
   congr 1
   refine BA_ext ?_
   rw [L_mkB,L_ext]
   have:k=s.size:=by omega
   rw [this]
 |succ m ih =>
  intro k f acc hk hf ha
  have hlt:k<(L s).length:=by omega
  have e1:IntKind.i64.wrap ((k:Int)+((1:Nat):Int))=((k+1:Nat):Int):=by rw [qxb (by omega)];omega
  have e2:IntKind.i64.wrap ((k:Int)+1)=((k+1:Nat):Int):=by rw [qxb (by omega)];rfl
  have e3:L (s.extract k (k+1))=[(L s)[k]]:=by
   rw [L_ext,q9e hlt]
   have:k+1 - k=1:=by omega
   rw [this];rfl
  refine .via qzo ?_
  unfold qzs
  simp only [EC.decL_encL,EC.isL_encL,qxp,qxr,hc,e1,e2,Int.toNat_natCast,quh,e3]
  refine qmz (fun _=>?_) (fun h=>absurd (of_decide_eq_false h) (by omega))
  refine qmz (fun _=>?_) (fun h=>absurd h (by simp;omega))
  refine qn1 (by simp;omega) (qn1 (by simp;omega) ?_)
  have e5:((L s).drop f).take (k+1 - f)=((L s).drop f).take (k - f)++[(L s)[k]]:=by
   have e7:k+1 - f=(k - f)+1:=by omega
   have e8:k - f<((L s).drop f).length:=by rw [List.length_drop];omega
   have e9:((L s).drop f)[k - f]=(L s)[k]:=by
    rw [List.getElem_drop]
    congr 1;omega
   rw [e7,List.take_succ_eq_append_getElem e8,e9]
  rw [q9e hlt,spA]
  refine qmz (fun hb=>?_) (fun hb=>?_)
  ·have hb:(L s)[k]=c:=by
    have hb:([(L s)[k]]==[c])=true:=hb
    simpa using hb
   rw [if_pos hb]
   refine qn1 (by simp;omega) (qn1 (by simp;omega) (qn1 (by simp;omega) (qn1 rfl ?_)))
   have:=ih (k+1) (k+1) (acc++[s.extract f k]) (by omega) (by omega) (by simp;omega)
   rw [List.length_append] at this
   refine this.mono ?_
   rintro r ⟨h1,h2,h3,g,h4,h5,h6⟩
   refine ⟨h1,h2,h3,g,h4,h5,?_⟩
   rw [h6,Nat.sub_self,List.take_zero,List.append_assoc,List.map_cons]
   congr 2
   rw [List.cons_append,List.nil_append]
   congr 1
   refine BA_ext ?_
   rw [L_mkB,L_ext]
  ·have hb:¬ (L s)[k]=c:=by
    have hb:([(L s)[k]]==[c])=false:=hb
    simpa using hb
   rw [if_neg hb,←e5]
   exact qn1 rfl (ih (k+1) f acc (by omega) (by omega) (by omega))
theorem cut_s (s:ByteArray) (c:UInt8) (hs:s.size≤2000000):qzt s (ByteArray.mk (List.toArray [c]))=some ((spA c [] (L s)).length,(spA c [] (L s)).map mkB1):=qzl (by
 unfold qzu
 simp only [EC.decL_encL,EC.isL_encL,qxp,qxr,qe]
 obtain ⟨r,h,h1,h2,h3,g,h4,h5,h6⟩:=qxw s c hs s.size 0 0 [] (by omega) (Nat.le_refl 0) (Nat.le_refl 0)
 rw [List.nil_append,Nat.sub_self,List.take_zero,List.drop_zero] at h6
 have h:qzm s (ByteArray.mk (List.toArray [c])) 0 0 0 []=some r:=h
 rw [h,Option.bind_some,h1,h2,h4]
 simp only [qfz,Int.toNat_natCast]
 have e1:(decide ((0:Int)≤(g:Int))&&decide ((g:Int)≤(s.size:Int)))=true:=by simp;omega
 rw [e1,if_pos rfl]
 have e2:∀ x:ByteArray,(r.2++[x]).length=r.2.length+1:=by intro x;simp
 have e3:(spA c [] (L s)).length=r.2.length+1:=by
  have:=congrArg List.length h6
  rw [List.length_map,e2] at this
  exact this.symm
 rw [←h6,e3]
 simp
 omega)
theorem nb_wr (b:UInt8):IntKind.i64.wrap (nb b)=nb b:=by have:=qyo b;rw [qxb (by omega)]
theorem low_wr (b:UInt8):IntKind.i64.wrap (lowI (nb b))=lowI (nb b):=by have:=qyo b;have:=ql0 this.1 this.2;rw [qxb (by omega)]
theorem qyl (b:List ByteArray) (h0:0<b.length) (hs:b[0].size≤2000000):∀ (m k:Nat),k+m=b[0].size→Ok (q11u b.length k b) fun x=>x=if ((L b[0]).drop k).all locU=true then .inr ((b.length,((b[0].size:Int),false)),b) else .inl (false,()):=by
 have hL:=qj b[0]
 have e0:((q9l.encL b).getD 0 []).length=1:=by rw [EC.getD_lt _ _ h0];rfl
 intro m
 induction m with
 |zero =>
  intro k hk
  refine .via q11w ?_
  unfold q121
  have ez:Int.toNat (0:Int)=0:=rfl
  simp only [EC.decL_encL,EC.isL_encL,EC.encL_length,qxs,ez,qg7 h0]
  refine qn1 (by simp;omega) (qn1 (by rw [e0];simp [h0]) (qn1 (qj7 b 0 h0) ?_))
  refine qmz (fun h=>absurd (of_decide_eq_true h) (by omega)) (fun _=>qn1 rfl (qn2 ?_))
  rw [List.drop_eq_nil_of_le (by omega)]
  have:k=b[0].size:=by omega
  rw [this];rfl
 |succ m ih =>
  intro k hk
  have hlt:k<(L b[0]).length:=by omega
  have e2:IntKind.i64.wrap ((k:Int)+1)=((k+1:Nat):Int):=by rw [qxb (by omega)];rfl
  refine .via q11w ?_
  unfold q121
  have ez:Int.toNat (0:Int)=0:=rfl
  simp only [EC.decL_encL,EC.isL_encL,EC.encL_length,qxs,ez,qg7 h0,Int.toNat_natCast,e2]
  refine qn1 (by simp;omega) (qn1 (by rw [e0];simp [h0]) (qn1 (qj7 b 0 h0) ?_))
  refine qmz (fun _=>?_) (fun h=>absurd (of_decide_eq_false h) (by omega))
  refine qn1 (by simp;omega) (qn1 (by rw [e0];simp [h0]) (qn1 (qj7 b 0 h0) (qn1 (by simp;omega) ?_)))
  simp only [q3t b[0] hlt,nb_wr]
  have hb:=qyo (L b[0])[k]
  rw [q9e hlt,List.all_cons]
  have hK:locU (L b[0])[k]=true→Ok (gdE true (q11u b.length ((k+1:Nat):Int) b)) fun x=>x=if (locU (L b[0])[k]&&((L b[0]).drop (k+1)).all locU)=true then .inr ((b.length,((b[0].size:Int),false)),b) else .inl (false,()):=by
   intro h
   rw [h,Bool.true_and]
   exact qn1 rfl (ih (k+1) (by omega))
  have hu:∀ q,locF (nb (L b[0])[k])=q→locU (L b[0])[k]=q:=fun q h=>h
  refine qmy (qn0 (low_s hb.1 hb.2)) fun r0 hr0=>?_
  subst hr0
  rw [low_wr]
  refine qmy (qn0 (qy5 _ _ _)) fun r1 hr1=>qmz (fun h1=>?_) (fun h1=>hK (hu _ ?_))
  ·subst hr1
   refine qmy (qn0 (qy5 _ _ _)) fun r1 hr1=>qmz (fun h2=>?_) (fun h2=>hK (hu _ ?_))
   ·subst hr1
    refine qmz (fun h3=>qmz (fun h4=>qmz (fun h5=>qmz (fun h6=>qmz (fun h7=>qn2 ?_) (fun h7=>hK (hu _ ?_))) (fun h6=>hK (hu _ ?_))) (fun h5=>hK (hu _ ?_))) (fun h4=>hK (hu _ ?_))) (fun h3=>hK (hu _ ?_))
    ·have hf:locU (L b[0])[k]=false:=hu _ (by
      unfold locF inI
      simp at h1 h2 h3 h4 h5 h6 h7
      simp [h3,h4,h5,h6,h7]
      omega)
     rw [hf];rfl
    all_goals
     unfold locF
     simp_all
   ·subst hr1
    unfold locF inI
    simp at h2
    simp [h2]
  ·subst hr1
   unfold locF inI
   simp at h1
   simp [h1]
theorem qy9 (b:List ByteArray) (i:Nat) (h0:i<b.length) (hs:b[i].size≤2000000):∀ (m k:Nat),k+m=b[i].size→Ok (q11m b.length i k b) fun x=>x=if ((L b[i]).drop k).all domU=true then .inr ((b.length,((i:Int),((b[i].size:Int),false))),b) else .inl (false,()):=by
 have hL:=qj b[i]
 have e0:((q9l.encL b).getD i []).length=1:=by rw [EC.getD_lt _ _ h0];rfl
 intro m
 induction m with
 |zero =>
  intro k hk
  refine .via q11o ?_
  unfold q11t
  simp only [EC.decL_encL,EC.isL_encL,EC.encL_length,qxs,Int.toNat_natCast,qg7 h0]
  refine qn1 (by simp;omega) (qn1 (by rw [e0];simp [h0]) (qn1 (qj7 b i h0) ?_))
  refine qmz (fun h=>absurd (of_decide_eq_true h) (by omega)) (fun _=>qn1 rfl (qn2 ?_))
  rw [List.drop_eq_nil_of_le (by omega)]
  have:k=b[i].size:=by omega
  rw [this];rfl
 |succ m ih =>
  intro k hk
  have hlt:k<(L b[i]).length:=by omega
  have e2:IntKind.i64.wrap ((k:Int)+1)=((k+1:Nat):Int):=by rw [qxb (by omega)];rfl
  refine .via q11o ?_
  unfold q11t
  simp only [EC.decL_encL,EC.isL_encL,EC.encL_length,qxs,qg7 h0,Int.toNat_natCast,e2]
  refine qn1 (by simp;omega) (qn1 (by rw [e0];simp [h0]) (qn1 (qj7 b i h0) ?_))
  refine qmz (fun _=>?_) (fun h=>absurd (of_decide_eq_false h) (by omega))
  refine qn1 (by simp;omega) (qn1 (by rw [e0];simp [h0]) (qn1 (qj7 b i h0) (qn1 (by simp;omega) ?_)))
  simp only [q3t b[i] hlt,nb_wr]
  rw [q9e hlt,List.all_cons]
  have hK:domU (L b[i])[k]=true→Ok (gdE true (q11m b.length i ((k+1:Nat):Int) b)) fun x=>x=if (domU (L b[i])[k]&&((L b[i]).drop (k+1)).all domU)=true then .inr ((b.length,((i:Int),((b[i].size:Int),false))),b) else .inl (false,()):=by
   intro h
   rw [h,Bool.true_and]
   exact qn1 rfl (ih (k+1) (by omega))
  have hu:∀ q,domF (nb (L b[i])[k])=q→domU (L b[i])[k]=q:=fun q h=>h
  refine qmy (qn0 (qy5 _ _ _)) fun r1 hr1=>qmz (fun h1=>?_) (fun h1=>hK (hu _ ?_))
  ·subst hr1
   refine qmy (qn0 (qy5 _ _ _)) fun r1 hr1=>qmz (fun h2=>?_) (fun h2=>hK (hu _ ?_))
   ·subst hr1
    refine qmz (fun h3=>qn2 ?_) (fun h3=>hK (hu _ ?_))
    ·have hf:domU (L b[i])[k]=false:=hu _ (by
      unfold domF inI
      simp at h1 h2 h3
      simp [h3]
      omega)
     rw [hf];rfl
    ·unfold domF
     simp at h3
     simp [h3]
   ·subst hr1
    unfold domF inI
    simp at h2
    simp [h2]
  ·subst hr1
   unfold domF inI
   simp at h1
   simp [h1]
def labB (s:ByteArray):Bool:=!(L s).isEmpty&&(L s).all domU
theorem qya (b:List ByteArray) (hs:∀ x∈b,x.size≤2000000) (hl:b.length≤2000001):∀ (m k:Nat),k+m=b.length→Ok (q11e b.length k b) fun x=>x=if (b.drop k).all labB=true then .inr ((b.length,((b.length:Int),false)),b) else .inl (false,()):=by
 intro m
 induction m with
 |zero =>
  intro k hk
  refine .via q11g ?_
  unfold q11l
  simp only [EC.decL_encL,EC.isL_encL,EC.encL_length,qxs]
  refine qmz (fun h=>absurd (of_decide_eq_true h) (by omega)) (fun _=>qn1 rfl (qn2 ?_))
  rw [List.drop_eq_nil_of_le (by omega)]
  have:k=b.length:=by omega
  rw [this];rfl
 |succ m ih =>
  intro k hk
  have hlt:k<b.length:=by omega
  have e2:IntKind.i64.wrap ((k:Int)+1)=((k+1:Nat):Int):=by rw [qxb (by omega)];rfl
  refine .via q11g ?_
  unfold q11l
  simp only [EC.decL_encL,EC.isL_encL,EC.encL_length,qxs]
  refine qmz (fun _=>qn1 rfl ?_) (fun h=>absurd (of_decide_eq_false h) (by omega))
  rw [q9e hlt,List.all_cons]
  refine qmy (qy9 b k hlt (hs _ (List.getElem_mem hlt)) b[k].size 0 (by omega)) fun r hr=>?_
  rw [List.drop_zero] at hr
  subst hr
  cases hd:(L b[k]).all domU with
  |false =>
   have:labB b[k]=false:=by unfold labB;rw [hd,Bool.and_false]
   rw [this]
   exact qn2 rfl
  |true =>
   rw [if_pos rfl]
   simp only [Sum.elim_inr,Int.toNat_natCast,qg7 hlt,qxx,em_L,e2]
   have e0:((q9l.encL b).getD k []).length=1:=by rw [EC.getD_lt _ _ hlt];rfl
   refine qn1 (by simp;omega) (qn1 (by rw [e0];simp [hlt]) (qn1 (qj7 b k hlt) ?_))
   refine qmz (fun h=>qn2 ?_) (fun h=>qn1 rfl ?_)
   ·have:labB b[k]=false:=by unfold labB;rw [h];rfl
    rw [this];rfl
   ·have:labB b[k]=true:=by unfold labB;rw [h,hd];rfl
    rw [this,Bool.true_and]
    exact ih (k+1) (by omega)
theorem q163 (c:UInt8):∀ (l p:List UInt8),∀ q∈spA c p l,q.length≤p.length+l.length
 |[],p,q,h=>by
  have:q=p:=by simpa [spA] using h
  rw [this];omega
 |x::l,p,q,h=>by
  rw [spA] at h
  split at h
  ·rcases List.mem_cons.1 h with rfl|h
   ·omega
   ·have:=q163 c l [] q h
    simp only [List.length_nil,List.length_cons] at *
    omega
  ·have:=q163 c l _ q h
   simp only [List.length_append,List.length_cons,List.length_nil] at *
   omega
theorem q162 (c:UInt8):∀ (l p:List UInt8),(spA c p l).length≤l.length+1
 |[],p=>by simp [spA]
 |x::l,p=>by
  rw [spA]
  split
  ·have:=q162 c l []
   simp only [List.length_cons]
   omega
  ·have:=q162 c l (p++[x])
   simp only [List.length_cons]
   omega
theorem qma (l:List UInt8):(mkB1 l).size=l.length:=by rw [←qj,L_mkB]
theorem addr_r (s:ByteArray) (hs:s.size≤2000000):q122 s=some (addrB s):=q11d (by
 unfold q123 addrB addrL
 rw [cut_s s 64 hs,Option.bind_some]
 simp only [EC.decL_encL,EC.isL_encL,EC.encL_length,qxs]
 have hz:=q163 64 (L s) []
 rw [List.length_nil,qj] at hz
 have g:∀ b:List ByteArray,b.length=2→(∀ x∈b,x.size≤s.size)→True:=fun _ _ _=>trivial
 match hsp:spA 64 [] (L s) with
 |[]=>rfl
 |[a]=>rfl
 |a::b::c::l =>
  have h1:((((List.length (a::b::c::l)):Nat):Int) != (2:Int))=true:=by simp;omega
  rw [h1];rfl
 |[a,b] =>
  rw [hsp] at hz
  have ha:a.length≤2000000:=by have:=hz a (by simp);omega
  have hb:b.length≤2000000:=by have:=hz b (by simp);omega
  have h1:((((List.length [a,b]):Nat):Int) != (2:Int))=false:=rfl
  rw [h1]
  have hla:(1≤(a.length:Int)) ↔ 1≤a.length:=by omega
  have hla2:((a.length:Int)≤60) ↔ a.length≤60:=by omega
  have hlb:(1≤(b.length:Int)) ↔ 1≤b.length:=by omega
  have hlb2:((b.length:Int)≤60) ↔ b.length≤60:=by omega
  obtain ⟨x5,h5,h5'⟩:=qyl [mkB1 a,mkB1 b] (by simp) (by show (mkB1 a).size≤_;rw [qma];exact ha) (mkB1 a).size 0 (by show 0+(mkB1 a).size=(mkB1 a).size;omega)
  subst h5'
  have h5:q11u 2 0 [mkB1 a,mkB1 b]=_:=h5
  have e5:((L (mkB1 a)).drop 0).all locU=a.all locU:=by rw [L_mkB,List.drop_zero]
  have h12:=cut_s (mkB1 b) 46 (by rw [qma];exact hb)
  rw [L_mkB] at h12
  have hn:(spA 46 [] b).length≤2000001:=by have:=q162 46 b [];omega
  obtain ⟨x7,h7,h7'⟩:=qya ((spA 46 [] b).map mkB1) (fun x hx=>by
   obtain ⟨q,hq,rfl⟩:=List.mem_map.1 hx
   have:=q163 46 b [] q hq
   rw [qma];simp only [List.length_nil] at this;omega) (by rw [List.length_map];exact hn) ((spA 46 [] b).map mkB1).length 0 (by omega)
  subst h7'
  rw [List.length_map] at h7
  have h7:q11e (spA 46 [] b).length 0 ((spA 46 [] b).map mkB1)=_:=h7
  have e7:(((spA 46 [] b).map mkB1).drop 0).all labB=(spA 46 [] b).all (fun q=>!q.isEmpty&&q.all domU):=by
   rw [List.drop_zero,List.all_map]
   congr 1
  have i0:([mkB1 a,mkB1 b]:List ByteArray).getD (Int.toNat 0) (q9l.dec [])=mkB1 a:=rfl
  have i1:([mkB1 a,mkB1 b]:List ByteArray).getD (Int.toNat 1) (q9l.dec [])=mkB1 b:=rfl
  have key:∀ (o:Option Bool) (T:Bool),Ok o (fun r=>r=T)→o=some T:=by rintro o T ⟨r,h,rfl⟩;exact h
  refine key _ _ ?_
  simp only [List.map_cons,List.map_nil,i0,i1,qma]
  have hA:∀ n:Nat,(decide ((1:Int)≤(n:Int))&&decide ((n:Int)≤60))=(decide (1≤n)&&decide (n≤60)):=by
   intro n
   congr 1 <;> rw [Bool.eq_iff_iff,decide_eq_true_iff,decide_eq_true_iff] <;> omega
  refine qmz (fun _=>qn1 rfl (qn1 rfl (qn1 rfl (qmy (qn0 (qy5 _ _ _)) fun r1 hr1=>?_)))) (fun h=>absurd h (by decide))
  rw [hA] at hr1
  rw [←hr1]
  refine qmz (fun g1=>qn1 rfl (qn1 rfl (qn1 rfl (qmy (qn0 (qy5 _ _ _)) fun r2 hr2=>?_)))) (fun g1=>qn2 ?_)
  ·have g1:r1=true:=by simpa using g1
   rw [hA] at hr2
   rw [←hr2,g1,Bool.true_and]
   refine qmz (fun g2=>qn2 ?_) (fun g2=>qn1 rfl ?_)
   ·have g2:r2=false:=by simpa using g2
    rw [g2];rfl
   ·have g2:r2=true:=by simpa using g2
    rw [g2,Bool.true_and,←e5,←e7]
    refine qmy (qn0 h5) fun r3 hr3=>?_
    cases h6:((L (mkB1 a)).drop 0).all locU with
    |false =>
     have h6':((L [mkB1 a,mkB1 b][0]).drop 0).all locU=false:=h6
     rw [h6'] at hr3
     subst hr3
     exact qn2 rfl
    |true =>
     have h6':((L [mkB1 a,mkB1 b][0]).drop 0).all locU=true:=h6
     rw [h6'] at hr3
     subst hr3
     rw [Bool.true_and]
     refine qn1 rfl (qn1 rfl (qn1 rfl (qmy (qn0 h12) fun r5 hr5=>?_)))
     subst hr5
     refine qn1 rfl (qmy (qn0 h7) fun r6 hr6=>?_)
     cases h8:(((spA 46 [] b).map mkB1).drop 0).all labB with
     |false =>
      rw [h8] at hr6
      subst hr6
      exact qn2 rfl
     |true =>
      rw [h8] at hr6
      subst hr6
      exact qn2 rfl
  ·have g1:r1=false:=by simpa using g1
   rw [g1];rfl)
end Go.Proofs.YtepmpilapglklaaGreat
