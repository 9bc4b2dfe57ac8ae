/- Addresses: what the code and the reference answer. -/
import Derived.Test.YtmacbkjehjbjeaaGreatDoorZ23
namespace Go.Proofs.YtmacbkjehjbjeaaGreatDoor
open Go.RowKit
def inI (c a b:Int):Bool:=decide (a≤c)&&decide (c≤b)
def locF (c:Int):Bool:=inI (lowI c) 97 122||(inI c 48 57||(c==45||(c==95||(c==46||(c==43||c==61)))))
def domF (c:Int):Bool:=inI c 97 122||(inI c 48 57||c==45)
def letF (c:Int):Bool:=inI c 97 122||(inI c 65 90||inI c 48 57)
def locU (b:UInt8):Bool:=locF (nb b)
def domU (b:UInt8):Bool:=domF (nb b)
theorem qka:∀ n:Nat,n<256→q4z (n:Int)=some (letF n):=by decide +kernel
theorem qkc (b:UInt8):q4y (nb b)=some (letF (nb b)):=q4x (qka b.toNat b.toNat_lt)
def locK (c:Int):Option Bool:=brE (letF c==false) (some (decide ((Go.Lib.indexByte (Array.toList (List.toArray [(45:UInt8),(95:UInt8),(46:UInt8),(43:UInt8),(61:UInt8)])) (Nat.toUInt8 (Int.toNat c)))≥(0:Int)))) (some true)
theorem loc_n:∀ n:Nat,n<256→locK (n:Int)=some (locF n):=by decide +kernel
theorem loc_s (b:UInt8):qb1 (nb b)=some (locU b):=qb0 (by
 unfold qb2
 rw [qkc]
 exact loc_n b.toNat b.toNat_lt)
theorem dom_n:∀ n:Nat,n<256→qa6 (n:Int)=some (domF n||(n:Int)==46):=by decide +kernel
theorem nb_eq (a b:UInt8):(nb a==nb b)=(a==b):=by
 rw [Bool.eq_iff_iff,beq_iff_eq,beq_iff_eq]
 unfold nb
 constructor
 ·intro h;exact UInt8.toNat_inj.1 (by omega)
 ·intro h;rw [h]
theorem dom_s (b:UInt8):qa5 (nb b)=some (domU b||b==46):=by
 have h:qa5 (nb b)=some (domF (nb b)||nb b==46):=qa4 (dom_n b.toNat b.toNat_lt)
 rw [h,←nb_eq b 46];rfl
theorem q2m (s:ByteArray) (hs:s.size≤2000000):q2j s=some ((L s).all locU):=by
 rw [q2k s (by omega)]
 congr 2
 funext b
 simp only [q2i,loc_s,Option.getD_some]
theorem q1m (s:ByteArray) (hs:s.size≤2000000):q1j s=some ((L s).all fun b=>domU b||b==46):=by
 rw [q1k s (by omega)]
 congr 2
 funext b
 simp only [q1i,dom_s,Option.getD_some]
theorem hasP_s (s p:ByteArray):qrq s p=some ((L s).take p.size==L p):=qrp (by
 unfold qrr
 have:qs8 s p=some ((L s).take p.size==L p):=qs7 (by
  unfold qs9
  simp only [q6m,qfz,quh,L_ext]
  by_cases h:p.size≤s.size
  ·have h1:((s.size:Int)≥(p.size:Int)):=by omega
   simp [h1]
  ·have h1:¬ ((s.size:Int)≥(p.size:Int)):=by omega
   rw [if_neg (by simpa using h1)]
   congr 1
   symm
   rw [beq_eq_false_iff_ne]
   intro h2
   have:=congrArg List.length h2
   rw [List.length_take,qj,qj] at this
   omega)
 rw [this];rfl)
def sufB (l p:List UInt8):Bool:=decide (p.length≤l.length)&&l.drop (l.length - p.length)==p
theorem hasS_s (s p:ByteArray) (hs:s.size≤2000000):qrw s p=some (sufB (L s) (L p)):=qrv (by
 unfold qrx
 have:qse s p=some (sufB (L s) (L p)):=qsd (by
  unfold qsf sufB
  simp only [q6m,qfz,quh,L_ext,qj]
  by_cases h:p.size≤s.size
  ·have h1:((s.size:Int)≥(p.size:Int)):=by omega
   have h2:IntKind.i64.wrap ((s.size:Int) - (p.size:Int))=((s.size - p.size:Nat):Int):=by rw [qxb (by omega)];omega
   have h3:(L s).drop (s.size - p.size)=((L s).drop (s.size - p.size)).take (s.size - (s.size - p.size)):=by
    rw [List.take_of_length_le];rw [List.length_drop,qj];omega
   rw [h2]
   simp only [Int.toNat_natCast,←h3]
   simp [h1,h]
  ·have h1:¬ ((s.size:Int)≥(p.size:Int)):=by omega
   rw [if_neg (by simpa using h1)]
   simp [h])
 rw [this];rfl)
theorem qsp {l:List UInt8} (h:l≠[]):sufB l [46]=!sfx false l:=by
 obtain ⟨a,y,rfl⟩:∃ a y,l=a++[y]:=⟨l.dropLast,l.getLast h,(List.dropLast_concat_getLast h).symm⟩
 unfold sufB sfx
 have e1:(a++[y]).length - ([46]:List UInt8).length=a.length:=by simp
 have e2:([46]:List UInt8).length≤(a++[y]).length:=by simp
 rw [e1,List.drop_left,List.getLast?_concat,decide_eq_true e2,Bool.true_and]
 by_cases hy:y=46
 ·subst hy;rfl
 ·have:(y==(46:UInt8))=false:=by simpa using hy
  simp [bne,this]
theorem em_L (s:ByteArray):em s=(L s).isEmpty:=by
 rw [q9n]
 have:=qj s
 cases h:L s with
 |nil=>rw [h] at this;simp at this;simp [←this]
 |cons x l=>rw [h] at this;simp only [List.length_cons] at this;simp only [List.isEmpty_cons,decide_eq_false_iff_not];omega
theorem q9a (s:ByteArray):qab s=some (!(L s).isEmpty&&(decide ((L s).length≤60)&&((L s).all (fun b=>domU b||b==46)&&(!pfx (L s)&&(sfx false (L s)&&!Go.Lib.contains (L s) [46,46]))))):=qaa (by
 unfold qac
 simp only [qxx,em_L,q6m,beq_t]
 cases h0:(L s).isEmpty with
 |true=>rfl
 |false =>
  have hne:L s≠[]:=by intro h;rw [h] at h0;cases h0
  by_cases h1:s.size≤60
  ·have h2:decide ((s.size:Int)≤60)=true:=by simp;omega
   have h3:decide ((L s).length≤60)=true:=by rw [qj];simp [h1]
   have h4:contP s (ByteArray.mk (List.toArray [(46:UInt8),(46:UInt8)]))=some (Go.Lib.contains (L s) [46,46]):=by unfold contP;rw [if_pos (by omega)];rfl
   have h5:qrq s (ByteArray.mk (List.toArray [(46:UInt8)]))=some (pfx (L s)):=hasP_s s _
   have h6:qrw s (ByteArray.mk (List.toArray [(46:UInt8)]))=some (!sfx false (L s)):=by rw [hasS_s s _ (by omega)];exact congrArg some (qsp hne)
   simp only [h2,h3,h4,h5,h6,q1m s (by omega),Option.bind_some,Bool.not_false,if_true,Bool.true_and]
   cases (L s).all (fun b=>domU b||b==46) <;> cases pfx (L s) <;> cases sfx false (L s) <;> cases Go.Lib.contains (L s) [46,46] <;> rfl
  ·have h2:decide ((s.size:Int)≤60)=false:=by simp;omega
   have h3:decide ((L s).length≤60)=false:=by rw [qj];simp [h1]
   rw [h2,h3];rfl)
def addrB (s:ByteArray):Bool:=addrL locU domU (L s)
theorem addr_x (s:ByteArray) (hs:s.size≤2000000):q9z s=some (addrB s):=q9y (by
 unfold qa0
 have hb:addrB s=_:=qs locU domU (by decide +kernel) (by decide +kernel) (L s)
 obtain ⟨r,h,e⟩:∃ r:ByteArray×ByteArray×Bool,qb7 s=some r∧r.2.2=addrB s:=by
  rw [hb]
  have hc:=q8q s.data.toList [64]
  have hcs:cutP s (ByteArray.mk (List.toArray [(64:UInt8)]))=some (⟨(Lib.cut (L s) [64]).1.toArray⟩,⟨(Lib.cut (L s) [64]).2.1.toArray⟩,(Lib.cut (L s) [64]).2.2):=by unfold cutP;rw [if_pos (by omega)];rfl
  have hsz:(L s).length=s.size:=qj s
  have g:∀ (a b:List UInt8) (q:Bool),(q=true→a.length+1+b.length=s.size)→∃ r:ByteArray×ByteArray×Bool,(brE (q==true)
  (brE ((!((ByteArray.toList ⟨a.toArray⟩)==(ByteArray.toList (ByteArray.mk (List.toArray [])))))==true)
   (brE ((decide ((((ByteArray.size ⟨a.toArray⟩):Nat):Int)≤(60:Int)))==true)
    (Option.bind (q2j ⟨a.toArray⟩) fun r1 =>
     (brE (r1==true)
      (Option.bind (qab ⟨b.toArray⟩) fun r2 =>
       (some ((⟨a.toArray⟩:ByteArray),((⟨b.toArray⟩:ByteArray),r2))))
      (some (⟨a.toArray⟩,(⟨b.toArray⟩,false)))))
    (some (⟨a.toArray⟩,(⟨b.toArray⟩,false))))
   (some (⟨a.toArray⟩,(⟨b.toArray⟩,false))))
  (some (⟨a.toArray⟩,(⟨b.toArray⟩,false))))=some r∧r.2.2=(q&&(!a.isEmpty&&(decide (a.length≤60)&&(a.all locU &&
  (!b.isEmpty&&(decide (b.length≤60)&&(b.all (fun x=>domU x||x==46)&&(!pfx b&&(sfx false b&&!Go.Lib.contains b [46,46]))))))))):=by
   intro a b q hq
   have hLa:L ⟨a.toArray⟩=a:=by simp [L]
   have hLb:L ⟨b.toArray⟩=b:=by simp [L]
   have hsa:ByteArray.size ⟨a.toArray⟩=a.length:=by rw [←qj,hLa]
   cases q with
   |false=>exact ⟨_,rfl,rfl⟩
   |true =>
    have hq:=hq rfl
    simp only [qxx,em_L,q6m,beq_t,if_true,hLa,hsa,Bool.true_and]
    cases a.isEmpty with
    |true=>exact ⟨_,rfl,rfl⟩
    |false =>
     have h7:decide ((a.length:Int)≤60)=decide (a.length≤60):=by rw [Bool.eq_iff_iff,decide_eq_true_iff,decide_eq_true_iff];omega
     rw [h7]
     cases decide (a.length≤60) with
     |false=>exact ⟨_,rfl,rfl⟩
     |true =>
      simp only [Bool.not_false,if_true,Bool.true_and,q2m ⟨a.toArray⟩ (by rw [hsa];omega),hLa,Option.bind_some]
      cases a.all locU with
      |false=>exact ⟨_,rfl,rfl⟩
      |true =>
       simp only [if_true,q9a,hLb,Option.bind_some,Bool.true_and]
       exact ⟨_,rfl,rfl⟩
  obtain ⟨r,h1,h2⟩:=g (Lib.cut (L s) [64]).1 (Lib.cut (L s) [64]).2.1 (Lib.cut (L s) [64]).2.2 (fun h=>by have:=hc h;rw [←hsz];exact this)
  refine ⟨r,qb6 ?_,h2⟩
  unfold qb8
  rw [hcs]
  exact h1
 rw [h,←e];rfl)
end Go.Proofs.YtmacbkjehjbjeaaGreatDoor
namespace Go.Proofs.YtmacbkjehjbjeaaGreatDoor
open Go.RowKit
def mkB1 (l:List UInt8):ByteArray:=⟨l.toArray⟩
theorem L_mkB (l:List UInt8):L (mkB1 l)=l:=by simp [L,mkB1]
theorem qma (l:List UInt8):(mkB1 l).size=l.length:=by rw [←qj,L_mkB]
def tim (t:Int):Bool:=decide (-68719476736≤t)&&decide (t≤68719476736)
theorem time_s (t:Int):q65 t=some (tim t):=q64 (by
 unfold q66 tim
 simp only [q6m,beq_t]
 by_cases h:t≥-68719476736
 ·simp [h]
 ·have:¬ (-68719476736:Int)≤t:=h
  simp [this])
theorem le_lt (a b:List UInt8):(Go.Op.bytesLess a b||a==b)=!Go.Op.bytesLess b a:=by
 rcases lt_tri a b with h|h|h
 ·rw [h,lt_asy h];rfl
 ·subst h;rw [lt_irr];simp
 ·rw [h,lt_asy h]
  have:(a==b)=false:=by
   rw [beq_eq_false_iff_ne]
   intro h1;rw [h1,lt_irr] at h;cases h
  rw [this];rfl
def ltR (a b:ByteArray):Bool:=Go.Op.bytesLess (L a) (L b)
def lateR (p:Option ByteArray) (s:ByteArray):Bool:=match p with|none=>false|some q=>!ltR q s
def rfs:Option ByteArray→Nat→List S44→Int×Int
 |_,_,[]=>(0,0)
 |p,k,x::l=>if addrB x.Sender=false then (10,(k:Int)) else if tim x.At=false then (3,(k:Int)) else
   if lateR p x.Sender=true then (19,(k:Int)) else rfs (some x.Sender) (k+1) l
def rfL (l:List S44):Int×Int:=if l.length>300 then (2,-1) else rfs none 0 l
def prevR (l:List S44) (k:Nat) (p:Option ByteArray):Prop:=(k=0→p=none)∧(∀ j,j+1=k→∀ h:j<l.length,p=some l[j].Sender)
theorem qnw (l:List S44) {k:Nat} (h:k<l.length):prevR l (k+1) (some l[k].Sender):=by
 refine ⟨fun h=>by omega,fun j hj h=>?_⟩
 have e:j=k:=by omega
 subst e;rfl
def szR (l:List S44):Prop:=∀ x∈l,x.Sender.size≤2000000
theorem qws (l:List S44) (hl:l.length≤300) (hs:szR l) (c d:Int):∀ (m k:Nat) (p:Option ByteArray),k+m=l.length→prevR l k p→Ok (qv4 l l l.length k c d) fun x=>Sum.elim (fun r=>r.2) (fun _=>(0,0)) x=rfs p k (l.drop k):=by
 intro m
 induction m with
 |zero =>
  intro k p hk hp
  refine .via qv6 ?_
  unfold qvb
  simp only [EC.decL_encL,EC.isL_encL,EC.encL_length,qy7,q3n,q3o]
  refine qmz (fun h=>absurd (of_decide_eq_true h) (by omega)) (fun _=>qn1 rfl (qn1 rfl (qn2 ?_)))
  rw [List.drop_eq_nil_of_le (by omega)];rfl
 |succ m ih =>
  intro k p hk hp
  have hlt:k<l.length:=by omega
  have e2:IntKind.i64.wrap ((k:Int)+1)=((k+1:Nat):Int):=by rw [qxb (by omega)];rfl
  refine .via qv6 ?_
  unfold qvb
  simp only [EC.decL_encL,EC.isL_encL,EC.encL_length,qy7,q3n,q3o,Int.toNat_natCast,e2]
  refine qmz (fun _=>?_) (fun h=>absurd (of_decide_eq_false h) (by omega))
  refine qn1 (by simp) (qn1 (by simp [hlt]) ?_)
  rw [qg7 hlt,q9e hlt,rfs]
  have hz:=hs _ (List.getElem_mem hlt)
  refine qmy (qn0 (addr_x _ hz)) fun r0 hr0=>?_
  subst hr0
  refine qmz (fun hb=>qmy (qcb _ _) fun r1 hr1=>qn2 ?_) (fun hb=>?_)
  ·subst hr1
   rw [if_pos (by simpa using hb)];rfl
  rw [if_neg (by simpa using hb)]
  refine qmy (qn0 (time_s _)) fun r1 hr1=>?_
  subst hr1
  refine qmz (fun hb=>qmy (qcb _ _) fun r1 hr1=>qn2 ?_) (fun hb=>?_)
  ·subst hr1
   rw [if_pos (by simpa using hb)];rfl
  rw [if_neg (by simpa using hb)]
  have hn:=qnw l hlt
  have hi:=ih (k+1) (some l[k].Sender) (by omega) hn
  refine qmz (fun hb=>?_) (fun hb=>?_)
  ·have h0:0<k:=by simpa using hb
   have e3:IntKind.i64.wrap ((k:Int) - 1)=((k - 1:Nat):Int):=by rw [qxb (by omega)];omega
   have hlt1:k - 1<l.length:=by omega
   have hp1:p=some l[k - 1].Sender:=hp.2 (k - 1) (by omega) hlt1
   subst hp1
   simp only [e3,Int.toNat_natCast]
   refine qn1 (by simp) (qn1 (by simp [hlt1]) ?_)
   rw [qg7 hlt1,quh,quh,le_lt]
   refine qmz (fun hb=>qmy (qcb _ _) fun r1 hr1=>qn2 ?_) (fun hb=>?_)
   ·subst hr1
    rw [if_pos (show lateR (some l[k - 1].Sender) l[k].Sender=true from hb)];rfl
   ·rw [if_neg (show ¬ lateR (some l[k - 1].Sender) l[k].Sender=true from fun h9=>by
     have h9:(!Go.Op.bytesLess (L l[k - 1].Sender) (L l[k].Sender))=true:=h9
     rw [hb] at h9;cases h9)]
    exact qn1 rfl (qn1 rfl hi)
  ·have h0:k=0:=by simpa using hb
   have hp1:=hp.1 h0
   subst hp1
   rw [if_neg (show ¬ lateR none l[k].Sender=true from fun h9=>by cases h9)]
   exact qn1 rfl (qn1 rfl hi)
theorem qwu (l:List S44) (hs:szR l):qvc l=some (rfL l):=qv3 (by
 unfold qvd rfL
 simp only [EC.decL_encL,EC.isL_encL,EC.encL_length]
 by_cases hl:l.length>300
 ·rw [if_pos hl]
  have:decide ((l.length:Int)>300)=true:=by simp;omega
  rw [this,qcc];rfl
 ·rw [if_neg hl]
  have:decide ((l.length:Int)>300)=false:=by simp;omega
  rw [this]
  obtain ⟨x,h1,h2⟩:=qws l (by omega) hs 0 0 l.length 0 none (by omega) ⟨fun _=>rfl,fun j h=>by omega⟩
  have h1:qv4 l l l.length 0 0 0=some x:=h1
  rw [List.drop_zero] at h2
  simp only [q6m,qfz,if_true,h1,Option.bind_some,←h2,none_s]
  rcases x with x|x <;> rfl)
def srt (l:List S44):Prop:=l.Pairwise fun x y=>ltR x.Sender y.Sender=true
theorem qop:∀ (l:List S44) (p:Option ByteArray) (k:Nat),(rfs p k l).1=0→srt l∧(∀ x∈l,addrB x.Sender=true∧tim x.At=true)∧∀ q,p=some q→∀ x∈l,ltR q x.Sender=true
 |[],p,k,_=>⟨.nil,(fun x hx=>by cases hx),(fun q _ x hx=>by cases hx)⟩
 |y::l,p,k,h=>by
  rw [rfs] at h
  by_cases h1:addrB y.Sender=false
  ·rw [if_pos h1] at h;cases h
  rw [if_neg h1] at h
  by_cases h2:tim y.At=false
  ·rw [if_pos h2] at h;cases h
  rw [if_neg h2] at h
  split at h
  ·cases h
  ·rename_i h3
   obtain ⟨g1,g2,g3⟩:=qop l _ _ h
   refine ⟨.cons (fun x hx=>g3 _ rfl x hx) g1,?_,?_⟩
   ·intro x hx
    rcases List.mem_cons.1 hx with rfl|hx
    ·exact ⟨by simpa using h1,by simpa using h2⟩
    ·exact g2 x hx
   ·intro q hq x hx
    subst hq
    have h4:ltR q y.Sender=true:=by
     have h3:¬ (!ltR q y.Sender)=true:=h3
     cases h5:ltR q y.Sender with
     |true=>rfl
     |false=>rw [h5] at h3;exact absurd rfl h3
    rcases List.mem_cons.1 hx with rfl|hx
    ·exact h4
    ·exact ql5 h4 (g3 _ rfl x hx)
theorem rfL_ok {l:List S44} (h:(rfL l).1=0):l.length≤300∧srt l∧∀ x∈l,addrB x.Sender=true∧tim x.At=true:=by
 unfold rfL at h
 split at h
 ·cases h
 ·obtain ⟨h1,h2,_⟩:=qop l none 0 h
  exact ⟨by omega,h1,h2⟩
theorem mid_s {i j:Nat} (h:i+j≤9223372036854775807):IntKind.i64.wrap (Int.fdiv (IntKind.u64.wrap (IntKind.i64.wrap ((i:Int)+(j:Int)))) ((2:Int) ^ (Min.min (Int.toNat (1:Int)) (IntKind.bits IntKind.u64))))=(((i+j) / 2:Nat):Int):=by
 have e1:((2:Int) ^ (Min.min (Int.toNat (1:Int)) (IntKind.bits IntKind.u64)))=2:=rfl
 rw [e1,IntWalk.i64_in ((i:Int)+(j:Int)) (by omega),IntWalk.u64_in _ (by omega),Int.fdiv_eq_ediv_of_nonneg _ (by omega),IntWalk.i64_in _ (by omega)]
 omega
def lb (l:List S44) (t:ByteArray):Nat:=(l.takeWhile fun x=>ltR x.Sender t).length
theorem lb_le (l:List S44) (t:ByteArray):lb l t≤l.length:=(List.takeWhile_sublist _).length_le
theorem qk8:∀ {l:List S44} (_:srt l) (t:ByteArray) (k:Nat) (h:k<l.length),(k<lb l t ↔ ltR l[k].Sender t=true)
 |x::l,hs,t,k,h=>by
  obtain ⟨h1,h2⟩:=List.pairwise_cons.1 hs
  unfold lb
  rw [List.takeWhile_cons]
  cases hx:ltR x.Sender t with
  |true =>
   rw [if_pos rfl,List.length_cons]
   cases k with
   |zero=>simp [hx]
   |succ k =>
    have h:k<l.length:=by simpa using h
    have:=qk8 h2 t k h
    simp only [List.getElem_cons_succ]
    rw [←this]
    unfold lb
    omega
  |false =>
   rw [if_neg (by decide),List.length_nil]
   constructor
   ·intro h;omega
   ·intro h3
    exfalso
    cases k with
    |zero=>simp [hx] at h3
    |succ k =>
     have h:k<l.length:=by simpa using h
     simp only [List.getElem_cons_succ] at h3
     have:=ql5 (h1 _ (List.getElem_mem h)) h3
     unfold ltR at hx
     rw [hx] at this;cases this
theorem cmp1_s (x:S44) (t:ByteArray):qvw x.Sender x.At t=some (Go.Lib.compareBytes (L x.Sender) (L t)):=qvv rfl
theorem q6u {l:List S44} (hs:srt l) (hl:l.length≤2000000) (t:ByteArray):∀ (m i j:Nat),j - i≤m→i≤lb l t→lb l t≤j→j≤l.length→Ok (bsR_l3 l t l.length i j) fun r=>r.1.1=l∧r.1.2.1=t∧r.1.2.2.2.1=(l.length:Int)∧r.1.2.2.2.2.1=(lb l t:Int):=by
 intro m
 induction m with
 |zero =>
  intro i j hm h1 h2 h3
  refine .via q6p ?_
  unfold q6t
  simp only [EC.decL_encL,EC.isL_encL,EC.encL_length,qy7,q3n,q3o]
  refine qmz (fun h=>absurd (of_decide_eq_true h) (by omega)) (fun _=>qn1 rfl (qn2 ⟨rfl,rfl,rfl,?_⟩))
  show (i:Int)=_
  omega
 |succ m ih =>
  intro i j hm h1 h2 h3
  refine .via q6p ?_
  unfold q6t
  simp only [EC.decL_encL,EC.isL_encL,EC.encL_length,qy7,q3n,q3o]
  refine qmz (fun h=>?_) (fun h=>qn1 rfl (qn2 ⟨rfl,rfl,rfl,?_⟩))
  ·have hij:i<j:=by have:=of_decide_eq_true h;omega
   have hk:(i+j) / 2<l.length:=by omega
   have e2:IntKind.i64.wrap ((((i+j) / 2:Nat):Int)+1)=(((i+j) / 2+1:Nat):Int):=by rw [qxb (by omega)];rfl
   simp only [mid_s (i:=i) (j:=j) (by omega),Int.toNat_natCast,e2]
   refine qn1 (decide_eq_true (by omega)) (qn1 (by simp [hk]) ?_)
   rw [qg7 hk]
   refine qmy (qn0 (cmp1_s _ _)) fun r0 hr0=>?_
   subst hr0
   have hc:=(q81 (L l[(i+j) / 2].Sender) (L t)).1
   have hsp:=qk8 hs t _ hk
   refine qmz (fun h=>qn1 rfl ?_) (fun h=>qn1 rfl ?_)
   ·have:=hsp.2 (hc.1 (of_decide_eq_true h))
    exact ih _ _ (by omega) (by omega) h2 h3
   ·have:¬ (i+j) / 2<lb l t:=fun h9=>(of_decide_eq_false h) (hc.2 (hsp.1 h9))
    exact ih _ _ (by omega) h1 (by omega) (by omega)
  ·have:=of_decide_eq_false h
   show (i:Int)=_
   omega
def atB (l:List S44) (t:ByteArray):Bool:=match l[lb l t]? with|none=>false|some x=>L x.Sender==L t
theorem find_s {l:List S44} (hs:srt l) (hl:l.length≤2000000) (t:ByteArray):qw2 l t=some ((lb l t:Int),atB l t):=qw1 (by
 unfold qw3
 have hb:bsR_s l t=some ((lb l t:Int),atB l t):=bsR_eq (by
  unfold bsR_t
  simp only [EC.decL_encL,EC.isL_encL,EC.encL_length,qy7,q3n,q3o]
  obtain ⟨r,h,h1,h2,h3,h4⟩:=q6u hs hl t l.length 0 l.length (by omega) (by omega) (lb_le l t) (Nat.le_refl _)
  have h:bsR_l3 l t l.length 0 l.length=some r:=h
  rw [h]
  simp only [qfz,q6m,if_true,Option.bind_some,h1,h2,h3,h4,beq_t,Int.toNat_natCast]
  unfold atB
  by_cases hk:lb l t<l.length
  ·have e1:decide ((lb l t:Int)<(l.length:Int))=true:=by simp;omega
   have e2:decide ((0:Int)≤(lb l t:Int))=true:=by simp
   rw [List.getElem?_eq_getElem hk]
   simp only [e1,e2,if_true,decide_eq_true hk,Bool.true_and,qg7 hk,cmp1_s,Option.bind_some]
   have hc:=(q81 (L l[lb l t].Sender) (L t)).2
   have:(Go.Lib.compareBytes (L l[lb l t].Sender) (L t)==0)=(L l[lb l t].Sender==L t):=by
    rw [Bool.eq_iff_iff,beq_iff_eq,beq_iff_eq,hc]
   rw [this]
  ·have e1:decide ((lb l t:Int)<(l.length:Int))=false:=by simp;omega
   rw [List.getElem?_eq_none (by omega),e1]
   rfl)
 simp only [EC.decL_encL,EC.isL_encL,hb,Option.bind_some,qfz,if_true])
theorem q3m {l:List S44} {t:ByteArray} (h:atB l t=true):∃ h:lb l t<l.length,L l[lb l t].Sender=L t:=by
 unfold atB at h
 split at h
 ·cases h
 ·rename_i x hx
  obtain ⟨h1,h2⟩:=List.getElem?_eq_some_iff.1 hx
  refine ⟨h1,?_⟩
  rw [h2];simpa using h
theorem L_app (a b:ByteArray):L (a++b)=L a++L b:=by simp [L]
theorem qxl (l:List UInt8):L (ByteArray.mk (List.toArray l))=l:=by simp [L]
theorem qin (l:List ByteArray) (hl:l.length≤2000000) (v:ByteArray):∀ (m k:Nat),k+m=l.length→Ok (qqi l v l.length k) fun x=>Sum.elim (fun r=>0≤r.1∧(l.drop k).any (fun y=>L v==L y)=true) (fun _=>(l.drop k).any (fun y=>L v==L y)=false) x:=by
 intro m
 induction m with
 |zero =>
  intro k hk
  refine .via qqk ?_
  unfold qqp
  simp only [EC.decL_encL,EC.isL_encL,EC.encL_length,isE_9,qxs]
  refine qmz (fun h=>absurd (of_decide_eq_true h) (by omega)) (fun _=>qn1 rfl (qn2 ?_))
  rw [List.drop_eq_nil_of_le (by omega)];rfl
 |succ m ih =>
  intro k hk
  have hlt:k<l.length:=by omega
  have e2:IntKind.i64.wrap ((k:Int)+1)=((k+1:Nat):Int):=by rw [qxb (by omega)];rfl
  refine .via qqk ?_
  unfold qqp
  simp only [EC.decL_encL,EC.isL_encL,EC.encL_length,isE_9,qxs,Int.toNat_natCast,e2,quh]
  refine qmz (fun _=>?_) (fun h=>absurd (of_decide_eq_false h) (by omega))
  refine qn1 (by simp) (qn1 (by simp [hlt]) ?_)
  rw [qg7 hlt,q9e hlt,List.any_cons]
  refine qmz (fun h=>qn2 ⟨by show (0:Int)≤(k:Int);omega,by rw [h];rfl⟩) (fun h=>qn1 rfl ((ih (k+1) (by omega)).mono ?_))
  rw [h,Bool.false_or]
  exact fun x hx=>hx
theorem q8g (l:List ByteArray) (hl:l.length≤2000000) (v:ByteArray):qqc l v=some (l.any fun y=>L v==L y):=qqb (by
 unfold qqd
 simp only [EC.decL_encL,EC.isL_encL]
 obtain ⟨x,h1,h2⟩:=qin l hl v l.length 0 (by omega)
 have h1:qqi l v l.length 0=some x:=h1
 rw [List.drop_zero] at h2
 rcases x with x|x
 ·obtain ⟨h3,h4⟩:=h2
  have h5:qqq l v=some x.1:=qqh (by
   unfold qqr
   simp only [EC.decL_encL,EC.isL_encL,EC.encL_length,h1]
   rfl)
  rw [h5,h4]
  show some (decide (x.1≥0))=_
  rw [decide_eq_true h3]
 ·have h5:qqq l v=some (-1):=qqh (by
   unfold qqr
   simp only [EC.decL_encL,EC.isL_encL,EC.encL_length,h1]
   rfl)
  have h4:(l.any fun y=>L v==L y)=false:=h2
  rw [h5,h4];rfl)
def lidL:List UInt8:=[108,105,115,116,45,105,100]
def autL:List UInt8:=[97,117,116,111,45,115,117,98,109,105,116,116,101,100]
def preL:List UInt8:=[112,114,101,99,101,100,101,110,99,101]
def noL:List UInt8:=[110,111]
def bulkL:List UInt8:=[98,117,108,107]
def listL:List UInt8:=[108,105,115,116]
def junkL:List UInt8:=[106,117,110,107]
def restB (x:S57):Bool:=((lowL (L x.Name)==autL)&&!(lowL (L x.Value)==noL))||((lowL (L x.Name)==preL)&&(lowL (L x.Value)==bulkL||(lowL (L x.Value)==listL||lowL (L x.Value)==junkL)))
def lidB (x:S57):Bool:=lowL (L x.Name)==lidL
def automB (l:List S57):Bool:=l.any fun x=>lidB x||restB x
theorem any_or {α:Type} (p q:α→Bool):∀ l:List α,l.any (fun x=>p x||q x)=(l.any p||l.any q)
 |[]=>rfl
 |x::l=>by
  rw [List.any_cons,List.any_cons,List.any_cons,any_or p q l]
  cases p x <;> cases q x <;> cases l.any p <;> cases l.any q <;> rfl
theorem ql1 (l m:List UInt8) (h:lowL l=m):lowL (L (ByteArray.mk (List.toArray l)))=m:=by rw [qxl];exact h
theorem q3u (l:List S57) (hl:l.length≤60) (hs:∀ x∈l,x.Name.size≤2000000∧x.Value.size≤2000000):∀ (m k:Nat),k+m=l.length→Ok (qvi l l.length k) fun x=>Sum.elim (fun r=>r.1=true∧(l.drop k).any restB=true) (fun _=>(l.drop k).any restB=false) x:=by
 intro m
 induction m with
 |zero =>
  intro k hk
  refine .via qvk ?_
  unfold qvp
  simp only [EC.decL_encL,EC.isL_encL,EC.encL_length,qy8,q3p,q3q]
  refine qmz (fun h=>absurd (of_decide_eq_true h) (by omega)) (fun _=>qn1 rfl (qn2 ?_))
  rw [List.drop_eq_nil_of_le (by omega)];rfl
 |succ m ih =>
  intro k hk
  have hlt:k<l.length:=by omega
  have e2:IntKind.i64.wrap ((k:Int)+1)=((k+1:Nat):Int):=by rw [qxb (by omega)];rfl
  have hz:=hs _ (List.getElem_mem hlt)
  refine .via qvk ?_
  unfold qvp
  simp only [EC.decL_encL,EC.isL_encL,EC.encL_length,qy8,q3p,q3q,Int.toNat_natCast,e2,quh]
  refine qmz (fun _=>?_) (fun h=>absurd (of_decide_eq_false h) (by omega))
  refine qn1 (by simp) (qn1 (by simp [hlt]) ?_)
  rw [qg7 hlt,q9e hlt,List.any_cons]
  refine qmy (qn0 (ql3 _ (by omega))) fun r0 hr0=>?_
  subst hr0
  have hno:restB l[k]=false→Ok (gdE true (qvi l l.length ((k+1:Nat):Int))) fun x=>Sum.elim (fun r=>r.1=true∧(restB l[k]||(l.drop (k+1)).any restB)=true) (fun _=>(restB l[k]||(l.drop (k+1)).any restB)=false) x:=by
   intro h
   rw [h,Bool.false_or]
   exact qn1 rfl (ih (k+1) (by omega))
  have hyes:restB l[k]=true→Ok (some ((.inl (true,())):(Bool×Unit)⊕((List S57×Int×Int×Bool)×Unit))) fun x=>Sum.elim (fun r=>r.1=true∧(restB l[k]||(l.drop (k+1)).any restB)=true) (fun _=>(restB l[k]||(l.drop (k+1)).any restB)=false) x:=by
   intro h
   rw [h,Bool.true_or]
   exact qn2 ⟨rfl,rfl⟩
  have hp:∀ q:Bool,((lowL (L l[k].Name)==autL)&&!(lowL (L l[k].Value)==noL))=false→∀ v:ByteArray,L v=lowL (L l[k].Value)→q=(lowL (L l[k].Name)==preL) →
    Ok (brE (q==true) (Option.bind (qqc [ByteArray.mk (List.toArray [98,117,108,107]),ByteArray.mk (List.toArray [108,105,115,116]),ByteArray.mk (List.toArray [106,117,110,107])] v) fun r3=>brE r3 (some (.inl (true,()))) (gdE true (qvi l l.length ((k+1:Nat):Int)))) (gdE true (qvi l l.length ((k+1:Nat):Int))))
     fun x=>Sum.elim (fun r=>r.1=true∧(restB l[k]||(l.drop (k+1)).any restB)=true) (fun _=>(restB l[k]||(l.drop (k+1)).any restB)=false) x:=by
   intro q h1 v hv hq
   refine qmz (fun h2=>?_) (fun h2=>hno ?_)
   ·have h2:q=true:=by simpa using h2
    refine qmy (qn0 (q8g _ (by decide) v)) fun r3 hr3=>?_
    have h3:r3=(lowL (L l[k].Value)==bulkL||(lowL (L l[k].Value)==listL||lowL (L l[k].Value)==junkL)):=by
     rw [hr3,List.any_cons,List.any_cons,List.any_cons,List.any_nil,qxl [98,117,108,107],qxl [108,105,115,116],qxl [106,117,110,107],hv,Bool.or_false];rfl
    have h4:restB l[k]=r3:=by unfold restB;rw [h1,←hq,h2,h3];rfl
    exact qmz (fun h=>hyes (by rw [h4,h])) (fun h=>hno (by rw [h4,h]))
   ·have h2:q=false:=by simpa using h2
    unfold restB
    rw [h1,←hq,h2];rfl
  refine qmy (qn0 (same_s _ _ (by omega) (by decide))) fun r1 hr1=>?_
  rw [ql1 [65,117,116,111,45,83,117,98,109,105,116,116,101,100] autL (by decide +kernel)] at hr1
  refine qmz (fun h=>?_) (fun h=>?_)
  ·have h:r1=true:=by simpa using h
   rw [h] at hr1
   rw [L_low,qxl [110,111]]
   refine qmz (fun h2=>hyes ?_) (fun h2=>?_)
   ·have h2:(!(lowL (L l[k].Value)==noL))=true:=h2
    unfold restB
    rw [←hr1,h2];rfl
   ·have h2:(!(lowL (L l[k].Value)==noL))=false:=h2
    refine qmy (qn0 (same_s _ _ (by omega) (by decide))) fun r2 hr2=>?_
    rw [ql1 [80,114,101,99,101,100,101,110,99,101] preL (by decide +kernel)] at hr2
    exact hp r2 (by rw [h2,Bool.and_false]) _ (L_low _) hr2
  ·have h:r1=false:=by simpa using h
   rw [h] at hr1
   refine qmy (qn0 (same_s _ _ (by omega) (by decide))) fun r2 hr2=>?_
   rw [ql1 [80,114,101,99,101,100,101,110,99,101] preL (by decide +kernel)] at hr2
   exact hp r2 (by rw [←hr1,Bool.false_and]) _ (L_low _) hr2
theorem hdr_sz {l:List S57} (h:HdrOk l):∀ x∈l,x.Name.size≤2000000∧x.Value.size≤2000000:=by
 intro x hx
 have h1:=qcz (h.all x hx).1
 have h2:=(h.all x hx).2.1
 omega
theorem qww (l:List S57) (n:ByteArray):decide (((valsL l n).length:Int)>0)=l.any (sm n):=by
 induction l with
 |nil=>rfl
 |cons x l ih =>
  rw [qwv,List.any_cons,←ih]
  cases h:sm n x with
  |true=>rw [if_pos rfl,List.length_cons,Bool.true_or];exact decide_eq_true (by omega)
  |false=>rw [if_neg (by decide),Bool.false_or]
theorem q3v {l:List S57} (h:HdrOk l):qvq l=some (automB l):=qvh (by
 unfold qvr
 simp only [EC.decL_encL,EC.isL_encL,EC.encL_length]
 obtain ⟨r,h1,h2,h3⟩:=get_s h (ByteArray.mk (List.toArray [76,105,115,116,45,73,100])) (by decide)
 rw [h1]
 have e1:sm (ByteArray.mk (List.toArray [76,105,115,116,45,73,100]))=lidB:=by
  funext x
  unfold sm lidB
  rw [ql1 [76,105,115,116,45,73,100] lidL (by decide +kernel)]
 have e2:decide ((r.1.1:Int)>0)=l.any lidB:=by rw [h3,h2,qww,e1]
 obtain ⟨x,h4,h5⟩:=q3u l h.len (hdr_sz h) l.length 0 (by omega)
 have h4:qvi l l.length 0=some x:=h4
 rw [List.drop_zero] at h5
 simp only [qfz,q6m,if_true,Option.bind_some,e2,h4]
 unfold automB
 rw [any_or]
 cases l.any lidB with
 |true=>rfl
 |false =>
  rw [if_neg (by decide),Bool.false_or]
  rcases x with x|x
  ·rw [h5.2]
   show some x.1=_
   rw [h5.1]
  ·have h5:l.any restB=false:=h5
   rw [h5];rfl)
def firstV (l:List S57) (n:ByteArray):ByteArray:=(valsL l n).getD 0 (ByteArray.mk (List.toArray []))
theorem qcn {l:List S57} (h:HdrOk l) (n:ByteArray) (hn:n.size≤2000000):qw8 l n=some (firstV l n):=qw7 (by
 unfold qw9
 simp only [EC.decL_encL,EC.isL_encL,EC.encL_length,qxs]
 obtain ⟨r,h1,h2,h3⟩:=get_s h n hn
 rw [h1]
 simp only [qfz,q6m,if_true,Option.bind_some,h3,h2]
 unfold firstV
 cases hv:valsL l n with
 |nil=>rfl
 |cons x t =>
  have hp:(0:Int)<((x::t).length:Int):=by rw [List.length_cons];omega
  have e1:decide (((x::t).length:Int)>0)=true:=decide_eq_true hp
  have e2:(decide ((0:Int)≤0)&&decide ((0:Int)<((x::t).length:Int)))=true:=by rw [decide_eq_true hp];rfl
  have e3:decide (Int.toNat 0<(x::t).length)=true:=decide_eq_true (by rw [List.length_cons];exact Nat.succ_pos _)
  have e4:(((q9l.encL (x::t)).getD (Int.toNat 0) []).length==1)=true:=rfl
  have e5:isP [K1.str] 0 ((q9l.encL (x::t)).getD (Int.toNat 0) [])=true:=rfl
  have e6:(((x::t).length:Int)==0)=false:=by rw [beq_eq_false_iff_ne];omega
  simp only [e1,e3,e4,e5,if_true,Bool.and_self]
  rfl)
theorem qcm {l:List S57} (h:HdrOk l) (n:ByteArray):(firstV l n).size≤4000∧noSp (L (firstV l n)):=by
 unfold firstV
 cases hv:valsL l n with
 |nil=>exact ⟨by decide,fun a ha=>by have:=congrArg List.length ha;simp [L] at this⟩
 |cons x t =>
  have hx:x∈valsL l n:=by rw [hv];simp
  unfold valsL at hx
  obtain ⟨y,hy,rfl⟩:=List.mem_map.1 hx
  have:=h.all y (List.mem_filter.1 hy).1
  exact ⟨this.2.1,this.2.2⟩
theorem gnl_lf (r:List UInt8):genL (10::r)=13::10::genL r:=by
 cases r with
 |nil=>rfl
 |cons d r=>rfl
theorem qgb (r:List UInt8):genL (13::10::r)=13::10::genL r:=rfl
theorem qg2:genL [13]=[13,10]:=rfl
theorem gnl_cr {d:UInt8} (r:List UInt8) (h:d≠10):genL (13::d::r)=13::10::genL (d::r):=by
 rw [genL,if_pos rfl,if_neg h]
theorem qg5 {c:UInt8} (r:List UInt8) (h1:c≠13) (h2:c≠10):genL (c::r)=c::genL r:=by
 cases r with
 |nil =>
  have:¬ (c=13∨c=10):=by rintro (h|h) <;> contradiction
  show (if c=13∨c=10 then [13,10] else [c])=[c]
  rw [if_neg this]
 |cons d r=>rw [genL,if_neg h1,if_neg h2]
theorem qgc:∀ (n:Nat) (l:List UInt8),l.length≤n→(genL l).length≤2*l.length
 |_,[],_=>by simp [genL]
 |0,x::l,h=>by simp at h
 |n+1,x::l,h=>by
  have h:l.length≤n:=by simpa using h
  have ih:=qgc n l h
  by_cases h1:x=13
  ·subst h1
   cases l with
   |nil=>rw [qg2];simp
   |cons d r =>
    by_cases h2:d=10
    ·subst h2
     rw [qgb]
     have:=qgc n r (by simp at h;omega)
     simp only [List.length_cons] at *;omega
    ·rw [gnl_cr r h2]
     simp only [List.length_cons] at *;omega
  ·by_cases h2:x=10
   ·subst h2
    rw [gnl_lf]
    simp only [List.length_cons] at *;omega
   ·rw [qg5 l h1 h2]
    simp only [List.length_cons] at *;omega
end Go.Proofs.YtmacbkjehjbjeaaGreatDoor
