/- What the functions of patterns answer, in plain words: letters, elements. -/
import Derived.Test.YtokahibbkdbndaaGreatDoorH4
namespace Go.Proofs.YtokahibbkdbndaaGreatDoor
open Go.RowKit
theorem q7r {β:Type} (q:Bool) (a b:Option β):brE q a b=if q=true then a else b:=by cases q <;> rfl
theorem qn6 {β:Type} (q:Bool) (a:Option β):gdE q a=if q=true then a else none:=by cases q <;> rfl
theorem q7g (q:Bool):(q==true)=q:=by cases q <;> rfl
theorem q7f (q:Bool):(q==false)=!q:=by cases q <;> rfl
theorem qh {τ:Type} (e:EC τ) (xs:List τ) (n:Nat):(e.encL xs).take n=e.encL (xs.take n):=by simp [EC.encL,List.map_take]
theorem qf {τ:Type} (e:EC τ) (xs:List τ) (n:Nat):(e.encL xs).drop n=e.encL (xs.drop n):=by simp [EC.encL,List.map_drop]
theorem qg {τ:Type} (e:EC τ):e.decL []=[]:=rfl
theorem EC_set {τ:Type} (e:EC τ) (xs:List τ) (n:Nat) (x:τ):(e.encL xs).set n (e.enc x)=e.encL (xs.set n x):=by simp [EC.encL,List.map_set]
theorem EC_rep {τ:Type} (e:EC τ) (n:Nat) (x:τ):List.replicate n (e.enc x)=e.encL (List.replicate n x):=by simp [EC.encL]
theorem q1m3 {k n:Nat} (h:k<n) (hn:n≤9223372036854775807):IntKind.i64.wrap ((k:Int)+1)=((k+1:Nat):Int):=by rw [IntWalk.i64_in _ (by omega)];rfl
theorem qn9 {α:Type} {l:List α} {k:Nat} {d:α} (h:k<l.length):l.getD k d=l[k]:=by simp [List.getD_eq_getElem?_getD,h]
theorem qag {α:Type} {l:List α} {k:Nat} (h:k<l.length):l.drop k=l[k]::l.drop (k+1):=List.drop_eq_getElem_cons h
theorem wrap8 {n:Int} (h0:0≤n) (h1:n<256):IntKind.u8.wrap n=n:=IntWalk.u8_in n (by omega)
theorem qjs (a b:Int):q61 a b=some (a,b):=q60 rfl
theorem none_s:q72=some (0,0):=q71 rfl
def nb (b:UInt8):Int:=(b.toNat:Int)
def ints (s:ByteArray):List Int:=s.data.toList.map nb
theorem qqf (s:ByteArray):(ints s).length=s.size:=by rw [ints,List.length_map,Array.length_toList];rfl
theorem q87 (s:ByteArray):bytesL s=qb0.encL (ints s):=by
 show s.data.toList.map _=(s.data.toList.map nb).map qb0.enc
 rw [List.map_map];rfl
def ub (n:Int):UInt8:=UInt8.ofNat n.toNat
theorem q85 (xs:List Int):bytesOf (qb0.encL xs)=some (xs.map ub):=by
 induction xs with
 |nil=>rfl
 |cons x xs ih =>
  have:qb0.encL (x::xs)=[.int .u8 x]::qb0.encL xs:=rfl
  rw [this,bytesOf,ih];rfl
def lowI (c:Int):Int:=if 65≤c∧c≤90 then c+32 else c
def lowB (b:UInt8):UInt8:=ub (lowI (nb b))
def lowL (l:List UInt8):List UInt8:=l.map lowB
def lowS (s:ByteArray):ByteArray:=⟨(lowL s.data.toList).toArray⟩
theorem isP_5 (xs:List Int) (n:Nat) (h:n<xs.length):isP [.int .u8] 0 ((qb0.encL xs).getD n [])=true:=by
 rw [EC.getD_lt _ _ h];rfl
theorem qsv (n:Nat) (hn:n≤9223372036854775807):∀ (m k:Nat) (xs:List Int),k+m=n→xs.length=n→∃ r,q6d n n n k xs=some r∧r.2=xs.take k++(xs.drop k).map lowI:=by
 intro m
 induction m with
 |zero =>
  intro k xs hk hl
  have hk:k=n:=by omega
  subst hk
  refine ⟨((k,k,(k:Int),(k:Int),false),xs),q6f (by
   simp only [q6j,z6,gL,dL,lN,wI,p0,q7r,qn6,EC.decL_encL,EC.isL_encL,EC.encL_length,at_5_0,q1fu]
   simp),?_⟩
  rw [←hl];simp
 |succ m ih =>
  intro k xs hk hl
  have hlt:k<xs.length:=by omega
  have hkn:k<n:=by omega
  have hk':(k:Int)<(n:Int):=by omega
  by_cases hp:65≤xs[k]∧xs[k]≤90
  ·obtain ⟨r,hr,hv⟩:=ih (k+1) (xs.set k (xs[k]+32)) (by omega) (by simpa using hl)
   refine ⟨r,q6f ?_,?_⟩
   ·have w1:IntKind.u8.wrap (IntKind.u8.wrap (xs[k]+97) - 65)=xs[k]+32:=by rw [wrap8 (n:=xs[k]+97) (by omega) (by omega),wrap8 (by omega) (by omega)];omega
    simp only [q6j,z6,gL,dL,lN,wI,p0,q7r,qn6,EC.decL_encL,EC.isL_encL,EC.encL_length,at_5_0,q1fu,Int.toNat_natCast,qn9 hlt,isP_5 xs k hlt,len_5 xs k hlt,w1,q1m3 hkn hn,hr]
    simp [hlt,hk',hp]
   ·have hlo:lowI xs[k]=xs[k]+32:=by simp [lowI,hp]
    rw [hv,qag hlt,List.map_cons,hlo]
    apply List.ext_getElem?
    intro i
    rcases Nat.lt_trichotomy i k with h|h|h
    ·rw [List.getElem?_append_left (by simp;omega),List.getElem?_append_left (by simp;omega),List.getElem?_take_of_lt (by omega),List.getElem?_take_of_lt h,List.getElem?_set_ne (by omega)]
    ·subst h
     rw [List.getElem?_append_left (by simp;omega),List.getElem?_append_right (by simp;omega),List.getElem?_take_of_lt (by omega),List.getElem?_set_self hlt]
     simp [Nat.min_eq_left (Nat.le_of_lt hlt)]
    ·rw [List.getElem?_append_right (by simp;omega),List.getElem?_append_right (by simp;omega)]
     obtain ⟨q,rfl⟩:∃ q,i=k+1+q:=⟨i - (k+1),by omega⟩
     simp only [List.length_take,List.length_set,Nat.min_eq_left (Nat.le_of_lt hlt),Nat.min_eq_left (show k+1≤xs.length from hlt)]
     rw [show k+1+q - (k+1)=q by omega,show k+1+q - k=q+1 by omega,List.getElem?_cons_succ]
     simp only [List.getElem?_map,List.getElem?_drop]
     rw [List.getElem?_set_ne (by omega)]
  ·obtain ⟨r,hr,hv⟩:=ih (k+1) xs (by omega) hl
   refine ⟨r,q6f ?_,?_⟩
   ·simp only [q6j,z6,gL,dL,lN,wI,p0,q7r,qn6,EC.decL_encL,EC.isL_encL,EC.encL_length,at_5_0,q1fu,Int.toNat_natCast,qn9 hlt,isP_5 xs k hlt,len_5 xs k hlt,q1m3 hkn hn,hr]
    by_cases h1:65≤xs[k]
    ·have h2:¬ xs[k]≤90:=fun h=>hp ⟨h1,h⟩
     simp [hlt,hk',h1,h2]
    ·simp [hlt,hk',h1]
   ·rw [hv,qag hlt,List.map_cons]
    have:lowI xs[k]=xs[k]:=by simp only [lowI,hp,if_false]
    rw [this,List.take_succ_eq_append_getElem hlt,List.append_assoc]
    rfl
theorem qsw (s:ByteArray) (hs:s.size≤9223372036854775807):q6k s=some (lowS s):=by
 by_cases h0:s.size=0
 ·have:s=⟨#[]⟩:=by
   cases s with|mk d=>
   have:d=#[]:=by simpa [ByteArray.size] using h0
   rw [this]
  subst this
  exact fS_of (r:=(⟨#[]⟩:ByteArray)) (qc (n:=200) (by kernel_rfl))
 ·obtain ⟨r,hr,hv⟩:=qsv s.size hs s.size 0 (ints s) (by omega) (qqf s)
  refine q6c ?_
  simp only [q6l,dM,qn6,q87,EC.decL_encL,EC.isL_encL]
  have hr':q6d s.size s.size (s.size:Int) (0:Int) (ints s)=some r:=hr
  have h0':(s.size==0)=false:=by simpa using h0
  simp only [hs,h0',hr',q85,decide_true,Option.bind_some,Bool.not_false,Bool.and_self,if_true,hv,List.take_zero,List.drop_zero,List.nil_append]
  congr 3
  simp only [lowL,ints,List.map_map]
  rfl
def L (s:ByteArray):List UInt8:=s.data.toList
theorem ql (s:ByteArray):(L s).length=s.size:=by rw [L,Array.length_toList];rfl
theorem q52 (s:ByteArray) {k:Nat} (h:k<(L s).length):((UInt8.toNat (Array.getD s.data k (0:UInt8)):Nat):Int)=nb (L s)[k]:=by
 have:k<s.data.size:=by rw [ql] at h;exact h
 have e:s.data.getD k 0=(L s)[k]:=by unfold Array.getD;rw [dif_pos this];rfl
 rw [e];rfl
theorem qsr (s:ByteArray):(lowS s).size=s.size:=by
 rw [←ql,←ql];simp [L,lowS,lowL]
theorem L_low (s:ByteArray):L (lowS s)=lowL (L s):=by simp [L,lowS]
theorem BA_ext {a b:ByteArray} (h:L a=L b):a=b:=by
 cases a with|mk x =>
 cases b with|mk y =>
 have:x=y:=by simpa [L] using h
 rw [this]
theorem L_ext (s:ByteArray) (i j:Nat):L (s.extract i j)=((L s).drop i).take (j - i):=by simp [L,List.extract_eq_take_drop]
theorem q1kw (s:ByteArray):s.toList=L s:=ByteArray.toList_eq s
theorem same_s (a b:ByteArray) (ha:a.size≤9223372036854775807) (hb:b.size≤9223372036854775807):q78 a b=some (lowL (L a)==lowL (L b)):=q77 (by
 have e:(L (lowS a)==L (lowS b))=(lowL (L a)==lowL (L b)):=by rw [L_low,L_low]
 by_cases h:a.size=b.size
 ·have h':((a.size:Int)==(b.size:Int))=true:=by simp [h]
  simp only [q79,q7r,h',qsw a ha,qsw b hb,q1kw,e,beq_self_eq_true,if_true,Option.bind_some]
 ·have h':¬ (a.size:Int)=(b.size:Int):=by omega
  have:(lowL (L a)==lowL (L b))=false:=by
   simp only [beq_eq_false_iff_ne,ne_eq]
   intro hh
   have:=congrArg List.length hh
   simp [lowL] at this
   apply h
   rw [←ql,←ql];simpa using this
  simp [q79,q7r,h',this])
abbrev El:=S192
def elems:List UInt8→Option (List El)
 |[]=>some []
 |[b]=>if nb b=42 then some [⟨false,true,0⟩] else if nb b=63 then some [⟨true,false,0⟩] else if nb b=92 then none else some [⟨false,false,nb b⟩]
 |b::c::l=>if nb b=42 then (elems (c::l)).map (⟨false,true,0⟩::·) else if nb b=63 then (elems (c::l)).map (⟨true,false,0⟩::·)
  else if nb b=92 then (elems l).map (⟨false,false,nb c⟩::·) else (elems (c::l)).map (⟨false,false,nb b⟩::·)
def elRes (p:ByteArray) (b0:List El) (o:Option (List El)) (r:((Nat×Bool)×(List El))⊕((ByteArray×Nat×Int×Bool)×(List El))):Prop :=
 match o with
 |some es=>∃ i,r=.inr ((p,(b0++es).length,i,false),b0++es)
 |none=>r=.inl ((0,false),[])
theorem elRes.step {p:ByteArray} {b0:List El} {e:El} {o:Option (List El)} {r} (h:elRes p (b0++[e]) o r):elRes p b0 (o.map (e::·)) r:=by
 cases o with
 |none=>exact h
 |some es=>obtain ⟨i,h⟩:=h;exact ⟨i,by simpa using h⟩
set_option maxHeartbeats 1000000 in
theorem qb8 (p:ByteArray) (hp:p.size≤1000):∀ (m k:Nat) (b0:List El),p.size - k≤m→k≤p.size→b0.length≤k→∃ r,qw8 p b0.length k b0=some r∧elRes p b0 (elems ((L p).drop k)) r:=by
 intro m
 induction m with
 |zero =>
  intro k b0 hm hk hb
  have hk:k=p.size:=by omega
  subst hk
  have h0:(L p).drop p.size=[]:=by rw [←ql];simp
  refine ⟨_,qwa (r:=.inr ((p,b0.length,(p.size:Int),false),b0)) (by
   simp only [qwf,z7,z8,za,zb,ze,gL,dL,wI,p0,aL,dQ,q7r,qn6,EC.decL_encL,EC.isL_encL,q3j,q3x]
   simp),?_⟩
  rw [h0]
  exact ⟨_,by simp;rfl⟩
 |succ m ih =>
  intro k b0 hm hk hb
  rcases Nat.lt_or_ge k p.size with hlt|hge
  case inr =>
   exact ih k b0 (by omega) hk hb
  have hL:k<(L p).length:=by rw [ql];exact hlt
  have hlt':(k:Int)<(p.size:Int):=by omega
  have hw:=q1m3 hlt (by omega)
  have g1:(b0.length+1+(b0.length+1) / 4+192)*3≤281474976710656:=by omega
  have g2:b0.length+1≤9223372036854775807:=by omega
  rw [qag hL]
  generalize hbk:(L p)[k]=b
  have hat:=q52 p hL
  rw [hbk] at hat
  -- one byte
  have one:∀ e:El,(elems (b::(L p).drop (k+1))=(elems ((L p).drop (k+1))).map (e::·))→(∀ r,qw8 p (b0++[e]).length ((k+1:Nat):Int) (b0++[e])=some r→qw8 p b0.length k b0=some r)→∃ r,qw8 p b0.length k b0=some r∧elRes p b0 (elems (b::(L p).drop (k+1))) r:=by
   intro e he hs
   obtain ⟨r,hr,hv⟩:=ih (k+1) (b0++[e]) (by omega) (by omega) (by simp;omega)
   refine ⟨r,hs r hr,?_⟩
   rw [he]
   exact hv.step
  have eq1:∀ e:El,(∀ l,elems (b::l)=match l with|[]=>some [e]|c::l'=>(elems (c::l')).map (e::·))→elems (b::(L p).drop (k+1))=(elems ((L p).drop (k+1))).map (e::·):=by
   intro e he
   rw [he]
   cases hd:(L p).drop (k+1) with
   |nil=>rfl
   |cons c l=>rfl
  by_cases h42:nb b=42
  ·refine one ⟨false,true,0⟩ (eq1 _ fun l=>by cases l <;> simp [elems,h42]) fun r hr=>qwa ?_
   simp only [qwf,z7,z8,za,zb,ze,gL,dL,wI,p0,aL,dQ,q7r,qn6,EC.decL_encL,EC.isL_encL,q3j,q3x,Int.toNat_natCast,hat,hw,List.length_cons,List.length_nil,Nat.zero_add]
   simp only [List.length_append,List.length_cons,List.length_nil,Nat.zero_add] at hr
   simpa [hlt,hlt',h42,g1,g2] using hr
  by_cases h63:nb b=63
  ·refine one ⟨true,false,0⟩ (eq1 _ fun l=>by cases l <;> simp [elems,h63]) fun r hr=>qwa ?_
   simp only [qwf,z7,z8,za,zb,ze,gL,dL,wI,p0,aL,dQ,q7r,qn6,EC.decL_encL,EC.isL_encL,q3j,q3x,Int.toNat_natCast,hat,hw,List.length_cons,List.length_nil,Nat.zero_add]
   simp only [List.length_append,List.length_cons,List.length_nil,Nat.zero_add] at hr
   simpa [hlt,hlt',h63,g1,g2] using hr
  by_cases h92:nb b=92
  ·rcases Nat.lt_or_ge (k+1) p.size with hl2|hl2
   ·have hL2:k+1<(L p).length:=by rw [ql];exact hl2
    have hw2:=q1m3 hl2 (by omega)
    have hat2:=q52 p hL2
    have hne:¬ ((k+1:Nat):Int)=(p.size:Int):=by omega
    obtain ⟨r,hr,hv⟩:=ih (k+1+1) (b0++[⟨false,false,nb (L p)[k+1]⟩]) (by omega) (by omega) (by simp;omega)
    refine ⟨r,qwa ?_,?_⟩
    ·simp only [List.length_append,List.length_cons,List.length_nil,Nat.zero_add] at hr
     simp only [qwf,z7,z8,za,zb,ze,gL,dL,wI,p0,aL,dQ,q7r,qn6,EC.decL_encL,EC.isL_encL,q3j,q3x,Int.toNat_natCast,hat,hw,hw2,hat2,List.length_cons,List.length_nil,Nat.zero_add]
     have hp2:(0:Int)≤((k+1:Nat):Int):=by omega
     have h42':¬ (nb b==42)=true:=by simpa using h42
     have h63':¬ (nb b==63)=true:=by simpa using h63
     have h92':(nb b==92)=true:=by simpa using h92
     have hne':¬ (((k+1:Nat):Int)==(p.size:Int))=true:=by simpa using hne
     simp only [hlt',hlt,h42',h63',h92',hne',hp2,hl2,g1,g2,hr,if_true,if_false,decide_true,Bool.and_self,Int.natCast_nonneg,List.all_cons,List.all_nil,List.length_cons,List.length_nil,Nat.zero_add,beq_self_eq_true,Bool.false_eq_true]
    ·rw [qag hL2]
     have:elems (b::(L p)[k+1]::(L p).drop (k+1+1))=(elems ((L p).drop (k+1+1))).map (⟨false,false,nb (L p)[k+1]⟩::·):=by
      rw [elems];simp [h92]
     rw [this]
     exact hv.step
   ·have hz:(L p).drop (k+1)=[]:=List.drop_eq_nil_of_le (by rw [ql];omega)
    have heq:((k+1:Nat):Int)=(p.size:Int):=by omega
    refine ⟨.inl ((0,false),[]),qwa ?_,?_⟩
    ·simp only [qwf,z7,z8,za,zb,ze,gL,dL,wI,p0,aL,dQ,q7r,qn6,EC.decL_encL,EC.isL_encL,q3j,q3x,Int.toNat_natCast,hat,hw,qg]
     simp [hlt,hlt',h92,heq]
    ·rw [hz];simp [elems,h92,elRes]
  ·refine one ⟨false,false,nb b⟩ (eq1 _ fun l=>by cases l <;> simp [elems,h42,h63,h92]) fun r hr=>qwa ?_
   simp only [qwf,z7,z8,za,zb,ze,gL,dL,wI,p0,aL,dQ,q7r,qn6,EC.decL_encL,EC.isL_encL,q3j,q3x,Int.toNat_natCast,hat,hw,List.length_cons,List.length_nil,Nat.zero_add]
   simp only [List.length_append,List.length_cons,List.length_nil,Nat.zero_add] at hr
   simpa [hlt,hlt',h42,h63,h92,g1,g2] using hr
theorem qb9 (p:ByteArray) (hp:p.size≤1000):qwg p=some (match elems (L p) with|some es=>((es.length,true),es)|none=>((0,false),[])):=qw7 (by
 obtain ⟨r,hr,hv⟩:=qb8 p hp p.size 0 [] (by omega) (by omega) (by simp)
 have hr':qw8 p 0 (0:Int) []=some r:=hr
 rw [List.drop_zero] at hv
 simp only [qwh,dL,qn6,EC.decL_encL,EC.isL_encL,qg,hr',Option.bind_some,if_true]
 cases he:elems (L p) with
 |none =>
  rw [he] at hv
  simp only [elRes] at hv
  subst hv
  rfl
 |some es =>
  rw [he] at hv
  obtain ⟨i,hv⟩:=hv
  subst hv
  simp)
def fitB (e:El) (b:UInt8):Bool:=e.one||lowI e.c==lowI (nb b)
theorem qul (b:UInt8):0≤nb b∧nb b<256:=by have:=b.toNat_lt;unfold nb;omega
theorem nb_ub {n:Int} (h0:0≤n) (h1:n<256):nb (ub n)=n:=by
 unfold nb ub
 rw [UInt8.toNat_ofNat']
 omega
theorem qsp {c:Int} (h0:0≤c) (h1:c<256):0≤lowI c∧lowI c<256:=by unfold lowI;split <;> omega
theorem qso (a b:UInt8):(lowB a==lowB b)=(lowI (nb a)==lowI (nb b)):=by
 have ha:=qsp (qul a).1 (qul a).2
 have hb:=qsp (qul b).1 (qul b).2
 rw [Bool.eq_iff_iff,beq_iff_eq,beq_iff_eq]
 constructor
 ·intro h
  have:=congrArg nb h
  rwa [lowB,lowB,nb_ub ha.1 ha.2,nb_ub hb.1 hb.2] at this
 ·intro h;rw [lowB,lowB,h]
def fitAt (e:El):Option UInt8→Bool
 |some b=>fitB e b
 |none=>false
theorem qk4 (e:El) (t:ByteArray) (ht:t.size≤9223372036854775807) (hc0:0≤e.c) (hc1:e.c<256) (j:Nat) (hj:j≤t.size):fits_s e.one e.many e.c j t (lowS t)=some (fitAt e (L t)[j]?):=qk3 (by
 rcases Nat.lt_or_ge j t.size with h|h
 ·have hL:j<(L t).length:=by rw [ql];exact h
  rw [List.getElem?_eq_getElem hL,fitAt]
  have hj':(j:Int)<(t.size:Int):=by omega
  have hw:=q1m3 h ht
  have hz:((j+1:Nat):Int)≤((lowS t).size:Int):=by rw [qsr];omega
  have hx:L ((lowS t).extract j (j+1))=[lowB (L t)[j]]:=by
   have hl:j<(L (lowS t)).length:=by rw [ql,qsr];exact h
   rw [L_ext,qag hl,show j+1 - j=1 by omega,List.take_succ_cons,List.take_zero]
   simp [L_low,lowL]
  have hone:(⟨[UInt8.ofNat e.c.toNat].toArray⟩:ByteArray).size≤9223372036854775807:=by
   have:(⟨[UInt8.ofNat e.c.toNat].toArray⟩:ByteArray).size=1:=rfl
   omega
  cases h1:e.one with
  |true=>simp [fits_t,wI,p0,q7r,hj',fitB,h1]
  |false =>
   simp only [fits_t,wI,p0,q7r,qn6,hw,qsw _ hone,Option.bind_some,Int.toNat_natCast,q1kw,hx,L_low]
   have:(lowL (L (⟨[UInt8.ofNat e.c.toNat].toArray⟩:ByteArray))==[lowB (L t)[j]])=(lowI e.c==lowI (nb (L t)[j])):=by
    have:lowL (L (⟨[UInt8.ofNat e.c.toNat].toArray⟩:ByteArray))=[lowB (ub e.c)]:=rfl
    rw [this]
    have:=qso (ub e.c) (L t)[j]
    rw [nb_ub hc0 hc1] at this
    rw [←this]
    simp []
   rw [this]
   simp [hj',fitB,h1]
   omega
 ·have:(L t)[j]?=none:=List.getElem?_eq_none (by rw [ql];exact h)
  have hj':¬ (j:Int)<(t.size:Int):=by omega
  simp [fits_t,wI,p0,q7r,hj',this,fitAt])
end Go.Proofs.YtokahibbkdbndaaGreatDoor
