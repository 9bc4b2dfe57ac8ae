/- The closed tests 'evaluated()', 'explained()' are run by the machine inside the kernel. -/
import Derived.Test.YtokahibbkdbndaaGreatDoorH7
import Derived.Test.YtokahibbkdbndaaGreatDoorZ34
import Derived.Test.YtokahibbkdbndaaGreatDoorZ33
import Derived.Lib.IndexMore
namespace Go.Proofs.YtokahibbkdbndaaGreatDoor
open Go.RowKit
set_option maxRecDepth 1000000 in
theorem q1mv:callD Tryz.prog (fzL lv) X0.c (execD Tryz.prog lv X0 200) 16 []=some (.c (.bool true),[]):=by kernel_rfl
def evd_ca:Cod (List V) Unit:=qre
def evd_cr:Cod (V×List B) Bool:=cFstU (cPair (vC cBool) qre)
def evdS:Option Bool:=some true
theorem q1mu (x:Unit) (r:Bool) (h:evdS=some r):Call Tryz.prog lv X0 16 (evd_ca.enc x)=some (evd_cr.enc r):=by
 cases r with
 |true=>exact qc q1mv
 |false=>unfold evdS at h;cases h
noncomputable def evd_e:=entS Tryz.prog lv X0 16 [] evd_ca evd_cr (fun _=>evdS) q1mu
noncomputable def tabk:=evd_e::q1ja
end Go.Proofs.YtokahibbkdbndaaGreatDoor
namespace Go.Proofs.YtokahibbkdbndaaGreatDoor
open Go.RowKit
set_option maxRecDepth 100000
noncomputable section
end
theorem q56 (a:ByteArray):(a==a)=true:=by
 cases a with
 |mk d=>show (d==d)=true;exact beq_self_eq_true d
theorem q1fk (l:List S45) (hl:l.length≤10000):∀ (m k:Nat),k+m=l.length→q14a l l k=some (.inr ((l,(l,((l.length:Int),false))),())):=by
 intro m
 induction m with
 |zero =>
  intro k hk
  have hk:k=l.length:=by omega
  subst hk
  refine q14c ?_
  simp only [q14h,gL,dL,lN,eC,wI,p0,q7r,qn6,EC.decL_encL,EC.isL_encL,EC.encL_length,q1my,q48,q49,q4a]
  simp
 |succ m ih =>
  intro k hk
  have hlt:k<l.length:=by omega
  have e1:decide ((k:Int)<(l.length:Int))=true:=by simp;omega
  have e0:decide ((0:Int)≤(k:Int))=true:=by simp
  have e2:IntKind.i64.wrap ((k:Int)+1)=((k+1:Nat):Int):=q1m2 hlt (by omega)
  have hd2:decide (k<l.length)=true:=by simp [hlt]
  refine q14c ?_
  simp only [q14h,gL,dL,lN,eC,wI,p0,q7r,qn6,EC.decL_encL,EC.isL_encL,EC.encL_length,q1my,q48,q49,q4a,e1,e0,if_true,Int.toNat_natCast,hd2,q56,Bool.and_self,beq_self_eq_true,Bool.not_true,Bool.false_eq_true,if_false,e2]
  exact ih (k+1) (by omega)
theorem q1fl (l:List S45) (hl:l.length≤10000):q14i l l=some true:=by
 have h:=q1fk l hl l.length 0 (by omega)
 rw [Int.natCast_zero] at h
 refine q149 ?_
 simp only [q14j,gL,dL,lN,q7r,qn6,EC.decL_encL,EC.isL_encL,EC.encL_length,if_true,bne_self_eq_false,Bool.false_eq_true,if_false,h,Option.bind_some]
 rfl
section
variable (f:ByteArray) (rc:List S118) (fs:List S55) (sz:Int)
end
theorem runA_len' {s:List S50} {f:ByteArray} {rc:List S118} {e:ByteArray} {fs:List S55} {bd:List Int}:(runA s f rc e fs bd).length≤101:=by
 unfold runA
 split
 ·simp
 ·rename_i h
  have h0:=runF_0 (s:=s) (f:=f) (rc:=rc) (e:=e) (fs:=fs) (bd:=bd) (by simpa using h)
  obtain ⟨_,h2,_⟩:=q1kt f rc fs bd h0.1
  have:(finA (theRun s f rc fs bd).2.2.1).length≤(theRun s f rc fs bd).2.2.1.length+1:=by
   unfold finA
   split <;> simp
  have:=(val_ok h0.1).2
  simp only [List.length_nil,Nat.zero_add] at h2
  omega
def refB:List UInt8→Bool
 |a::b::l=>(a==36&&b==123)||refB (b::l)
 |_=>false
theorem q1am:∀ (s:List UInt8),refB s=false→∀ j,Lib.occAt s [36,123] j=false
 |[],_,j=>by simp [Lib.occAt]
 |[a],_,j=>by
  cases j <;> simp [Lib.occAt,List.isPrefixOf]
 |a::b::l,h,j=>by
  rw [refB,Bool.or_eq_false_iff] at h
  cases j with
  |zero =>
   have h1:=h.1
   simp only [Lib.occAt,List.drop_zero,List.isPrefixOf,Bool.and_true]
   rw [show ((36:UInt8)==a)=(a==36) from BEq.comm,show ((123:UInt8)==b)=(b==123) from BEq.comm]
   exact h1
  |succ j=>exact q1am (b::l) h.2 j
theorem q1al (s:List UInt8) (h:refB s=false):(Lib.cut s [36,123]).2.2=false:=by
 have:=Lib.index_none (s:=s) (sub:=[36,123]) fun j _=>q1am s h j
 unfold Lib.cut
 rw [this]
 rfl
theorem qix (m:MM) (s:ByteArray) (h:refB s.data.toList=false) (hs:s.size≤4000):exT m s=s:=by
 unfold exT
 rw [exF,if_pos (.inl (q1al _ h)),List.nil_append,List.take_of_length_le (by rw [Array.length_toList];exact hs)]
section
variable (s:List S50) (hs:s.length≤big)
end
def Asc:Int→Int→List S62→Prop
 |_,_,[]=>True
 |i,j,x::l=>i≤x.Rule∧x.Rule<j∧Asc (x.Rule+1) j l
section
variable (f:ByteArray) (rc:List S118) (fs:List S55) (sz:Int)
end
section
variable (f:ByteArray) (rc:List S118) (fs:List S55) (sz:Int)
theorem qvd {r:S50} {l:List S50} (hv:okvL (r::l)):okvL l:=by
 obtain ⟨n0,d0,m0,hn0,hc0⟩:=hv
 unfold ckL at hc0
 split at hc0
 ·cases hc0
 rename_i h100
 split at hc0
 ·cases hc0
 rename_i hrc
 cases hq:ckR r n0 d0 with
 |inl g=>rw [hq] at hc0;cases hc0
 |inr n2 =>
  rw [hq] at hc0
  have:=(ck_sz (szL [r]) [r] rfl n0 d0 hn0).1 n2 (by simp only [ckL];rw [if_neg h100,if_neg hrc,hq])
  exact ⟨n2,d0,m0,this.2,hc0⟩
end
theorem q9i {s sep:List UInt8} (h:sep.isPrefixOf s=true) (hs:s≠[]):Lib.cut s sep=([],s.drop sep.length,true):=by
 cases s with
 |nil=>exact absurd rfl hs
 |cons b l =>
  have e:Lib.index (b::l) sep=0:=by unfold Lib.index;rw [if_pos h]
  unfold Lib.cut
  rw [e]
  simp
theorem q9l {b:UInt8} {l sep:List UInt8} (h:sep.isPrefixOf (b::l)=false):Lib.cut (b::l) sep=(b::(Lib.cut l sep).1,(Lib.cut l sep).2.1,(Lib.cut l sep).2.2):=by
 have hge:=Lib.index_ge l sep
 have e:Lib.index (b::l) sep=if Lib.index l sep==-1 then -1 else Lib.index l sep+1:=by
  conv=>lhs;unfold Lib.index
  rw [if_neg (by simp [h])]
 unfold Lib.cut
 rw [e]
 by_cases h1:Lib.index l sep=-1
 ·have h2:(Lib.index l sep==-1)=true:=by simpa using h1
  have e:(if (Lib.index l sep==-1)=true then (-1:Int) else Lib.index l sep+1)=-1:=by rw [h2];rfl
  rw [e,if_neg (by decide),if_neg (by omega)]
 ·have h2:(Lib.index l sep==-1)=false:=by simpa using h1
  have e:(if (Lib.index l sep==-1)=true then (-1:Int) else Lib.index l sep+1)=Lib.index l sep+1:=by rw [h2];rfl
  rw [e,if_pos (by omega),if_pos (by omega)]
  have h3:(Lib.index l sep+1).toNat=(Lib.index l sep).toNat+1:=by omega
  have h4:(Lib.index l sep).toNat+1+sep.length=(Lib.index l sep).toNat+sep.length+1:=by omega
  rw [h3,h4]
  simp
theorem q9m {sep:List UInt8} (h:sep≠[]):Lib.cut [] sep=([],[],false):=by
 cases sep with
 |nil=>exact absurd rfl h
 |cons a l =>
  have e:Lib.index [] (a::l)=-1:=rfl
  unfold Lib.cut
  rw [e]
  rfl
theorem qvj (b c:UInt8) (l:List UInt8):[c].isPrefixOf (b::l)=(c==b):=by simp [List.isPrefixOf]
theorem q9n (c:UInt8):∀ l:List UInt8,(Lib.cut l [c]).2.2=l.any (·==c)
 |[]=>by rw [q9m (by simp)];rfl
 |b::l=>by
  cases h:(c==b) with
  |true=>rw [q9i (by rw [qvj];exact h) (by simp),List.any_cons];simp at h;simp [h]
  |false=>rw [q9l (by rw [qvj];exact h),List.any_cons,q9n c l];simp at h;simp [Ne.symm h]
def refX (look:List UInt8→List UInt8):Nat→List UInt8→List UInt8
 |0,_=>[]
 |_+1,[]=>[]
 |n+1,c::r=>if ([36,123].isPrefixOf (c::r)&&(Lib.cut (r.drop 1) [125]).2.2)=true then look (Lib.cut (r.drop 1) [125]).1++refX look n (Lib.cut (r.drop 1) [125]).2.1 else c::refX look n r
theorem q1ao (look:List UInt8→List UInt8):∀ (s:List UInt8) (m:Nat),s.length≤m→s.any (·==125)=false→refX look m s=s
 |[],m,_,_=>by cases m <;> rfl
 |c::r,0,h,_=>by simp at h
 |c::r,m+1,h,h1=>by
  rw [List.any_cons,Bool.or_eq_false_iff] at h1
  have h2:(r.drop 1).any (·==125)=false:=by
   cases r with
   |nil=>rfl
   |cons d r=>have:=h1.2;rw [List.any_cons,Bool.or_eq_false_iff] at this;exact this.2
  rw [refX,q9n,h2,Bool.and_false,if_neg (by decide),q1ao look r m (by simp at h;omega) h1.2]
theorem qit (l:MM):∀ (q:Nat) (s:List UInt8),s.length=q→∀ (n m:Nat) (out:List UInt8),q<n→q≤m→exF l n s out=out++refX (getM l) m s:=by
 intro q
 induction q using Nat.strongRecOn with
 |_ q ih =>
  intro s hq n m out hn hm
  cases n with
  |zero=>omega
  |succ n =>
  cases s with
  |nil =>
   have:refX (getM l) m []=[]:=by cases m <;> rfl
   rw [exF,q9m (by simp),if_pos (.inl rfl),this]
  |cons c r =>
   rw [List.length_cons] at hq
   cases m with
   |zero=>omega
   |succ m =>
   cases hp:[36,123].isPrefixOf (c::r) with
   |false =>
    have e1:exF l (n+1) (c::r) out=exF l (n+1) r (out++[c]):=by
     rw [exF,exF,q9l hp]
     split
     ·simp
     ·congr 1;simp
    rw [e1,ih (r.length) (by omega) r rfl (n+1) m (out++[c]) (by omega) (by omega),refX,hp,Bool.false_and,if_neg (by decide),List.append_assoc]
    rfl
   |true =>
    have hc:=q9i hp (by simp)
    have hd:(c::r).drop [(36:UInt8),123].length=r.drop 1:=rfl
    rw [hd] at hc
    cases hf:(Lib.cut (r.drop 1) [125]).2.2 with
    |true =>
     have hsz:=q9o (r.drop 1) [125] hf
     simp only [List.length_drop,List.length_cons,List.length_nil] at hsz
     rw [exF,hc,if_neg (by rintro (h|h);exact Bool.noConfusion h;exact Bool.noConfusion (hf.symm.trans h)),refX,hp,hf,Bool.and_self,if_pos rfl,ih _ (by omega) (Lib.cut (r.drop 1) [125]).2.1 rfl n m _ (by omega) (by omega)]
     simp
    |false =>
     have h1:(c::r).any (·==125)=false:=by
      rw [q9n] at hf
      cases r with
      |nil=>simp [List.isPrefixOf] at hp
      |cons d r =>
       simp only [List.isPrefixOf,Bool.and_true,Bool.and_eq_true,beq_iff_eq] at hp
       obtain ⟨rfl,rfl⟩:=hp
       rw [List.any_cons,List.any_cons]
       simpa using hf
     rw [exF,hc,if_pos (.inr hf),q1ao (getM l) (c::r) (m+1) (by simp;omega) h1]
theorem qiy (m:MM) (s:ByteArray) (k:Nat) (hk:s.size≤k):exT m s=⟨((refX (getM m) k s.data.toList).take 4000).toArray⟩:=by
 have e:s.data.toList.length=s.size:=by rw [Array.length_toList];rfl
 unfold exT
 rw [qit m _ s.data.toList rfl (s.size+1) k [] (by omega) (by omega),List.nil_append]
theorem q1an {a b:List UInt8→List UInt8} (h:∀ k,a k=b k) (n:Nat) (s:List UInt8):refX a n s=refX b n s:=by rw [show a=b from funext h]
def vlook (ps:List (ByteArray×ByteArray)) (k:List UInt8):List UInt8:=ps.foldl (fun acc p=>if (p.1.data.toList==k)=true then p.2.data.toList else acc) []
theorem q1lq (ps:List (ByteArray×ByteArray)) (p:ByteArray×ByteArray) (k:List UInt8):vlook (ps++[p]) k=if (p.1.data.toList==k)=true then p.2.data.toList else vlook ps k:=by
 unfold vlook
 rw [List.foldl_append]
 rfl
theorem qng (k:List UInt8):getM [] k=[]:=rfl
theorem qnc (x:ByteArray×ByteArray) (l:MM) (k:List UInt8):getM (x::l) k=if (x.1.data.toList==k)=true then x.2.data.toList else getM l k:=by
 unfold getM
 rw [List.find?_cons]
 cases (x.1.data.toList==k) <;> rfl
theorem qne (x:ByteArray×ByteArray) (k:List UInt8):∀ l:MM,(∀ p∈l,(p.1.data.toList==x.1.data.toList)=false)→getM (insM x l) k=if (x.1.data.toList==k)=true then x.2.data.toList else getM l k
 |[],_=>by rw [show insM x []=[x] from rfl,qnc]
 |y::r,h=>by
  unfold insM
  cases befM x.1 y.1 with
  |true=>simp only [cond_true];rw [qnc]
  |false =>
   simp only [cond_false]
   have hy:=h y (List.mem_cons_self ..)
   rw [qnc,qne x k r fun p hp=>h p (List.mem_cons_of_mem _ hp),qnc]
   cases h1:(y.1.data.toList==k) with
   |false=>rfl
   |true =>
    have e:y.1.data.toList=k:=by simpa using h1
    rw [e] at hy
    have:(x.1.data.toList==k)=false:=by
     rw [←Bool.not_eq_true];intro h2
     have h3:x.1.data.toList=k:=by simpa using h2
     rw [h3] at hy;simp at hy
    rw [this];rfl
theorem qnd (q:List UInt8→Bool) (k:List UInt8):∀ l:MM,getM (l.filter fun p=>q p.1.data.toList) k=if q k=true then getM l k else []
 |[]=>by simp [qng]
 |y::r=>by
  rw [List.filter_cons,qnc]
  cases h1:q y.1.data.toList with
  |true =>
   rw [if_pos rfl,qnc,qnd q k r]
   cases h2:(y.1.data.toList==k) with
   |true =>
    have e:y.1.data.toList=k:=by simpa using h2
    rw [e] at h1
    rw [h1,if_pos rfl,if_pos rfl,if_pos rfl]
   |false=>simp
  |false =>
   rw [if_neg (by decide),qnd q k r]
   cases h2:(y.1.data.toList==k) with
   |true =>
    have e:y.1.data.toList=k:=by simpa using h2
    rw [e] at h1
    rw [h1,if_neg (by decide),if_neg (by decide)]
   |false=>simp
theorem qnh (m:MM) (n v:ByteArray) (k:List UInt8):getM (putM m n v) k=if (n.data.toList==k)=true then v.data.toList else getM m k:=by
 unfold putM
 rw [qne _ _ _ (fun p hp=>by have:=(List.mem_filter.1 hp).2;simpa using this)]
 cases h:(n.data.toList==k) with
 |true=>rfl
 |false =>
  rw [if_neg (by decide),if_neg (by decide)]
  have:=qnd (fun a=>!(a==n.data.toList)) k m
  rw [this,if_pos]
  rw [Bool.not_eq_true',←h]
  exact BEq.comm
def dgtL:List UInt8→Bool
 |[]=>false
 |b::_=>decide (48≤b.toNat)&&decide (b.toNat≤57)
theorem q1lo (q:List UInt8→Bool) (k:List UInt8) (ps:List (ByteArray×ByteArray)):vlook (ps.filter fun p=>q p.1.data.toList) k=if q k=true then vlook ps k else []:=by
 have h:∀ (n:Nat) (ps:List (ByteArray×ByteArray)),ps.length=n→vlook (ps.filter fun p=>q p.1.data.toList) k=if q k=true then vlook ps k else []:=by
  intro n
  induction n with
  |zero=>intro ps h;have:ps=[]:=List.eq_nil_of_length_eq_zero h;subst this;simp [vlook]
  |succ n ih =>
   intro ps h
   have hne:ps≠[]:=by intro e;subst e;simp at h
   have e:=List.dropLast_concat_getLast hne
   generalize ps.getLast hne=p at e
   have hl:ps.dropLast.length=n:=by rw [List.length_dropLast];omega
   generalize ps.dropLast=qs at e hl
   subst e
   rw [List.filter_append,q1lq]
   cases h1:q p.1.data.toList with
   |true =>
    rw [show [p].filter (fun p=>q p.1.data.toList)=[p] from by simp [h1],q1lq,ih qs hl]
    cases h2:(p.1.data.toList==k) with
    |true =>
     have e:p.1.data.toList=k:=by simpa using h2
     rw [e] at h1
     simp [h1]
    |false=>simp
   |false =>
    rw [show [p].filter (fun p=>q p.1.data.toList)=[] from by simp [h1],List.append_nil,ih qs hl]
    cases h2:(p.1.data.toList==k) with
    |true =>
     have e:p.1.data.toList=k:=by simpa using h2
     rw [e] at h1
     simp [h1]
    |false=>simp
 exact h _ ps rfl
def Vq (ps:List (ByteArray×ByteArray)) (m:MM):Prop:=∀ k,vlook ps k=getM m k
theorem Vq.nil:Vq [] []:=fun _=>rfl
theorem Vq.put {ps:List (ByteArray×ByteArray)} {m:MM} (h:Vq ps m) (n v:ByteArray):Vq (ps++[(n,v)]) (putM m n v):=fun k=>by rw [q1lq,qnh,h k]
theorem digP_L (s:ByteArray):digP s=dgtL s.data.toList:=by
 unfold digP dgtL
 cases s.data.toList <;> rfl
theorem Vq.nodig {ps:List (ByteArray×ByteArray)} {m:MM} (h:Vq ps m):Vq (ps.filter fun p=>!dgtL p.1.data.toList) (noDig m):=fun k=>by
 have e:noDig m=m.filter fun p=>(fun a=>!dgtL a) p.1.data.toList:=by
  unfold Go.Proofs.YtokahibbkdbndaaGreatDoor.noDig
  congr 1
  funext p
  rw [digP_L]
 rw [e,qnd (fun a=>!dgtL a) k m,q1lo (fun a=>!dgtL a) k ps,h k]
def pieceP:List ByteArray→Nat→List (ByteArray×ByteArray)
 |[],_=>[]
 |v::vs,k=>(itB ((k+1:Nat):Int),v)::pieceP vs (k+1)
theorem Vq.pieces:∀ (vs:List ByteArray) (k:Nat) {ps:List (ByteArray×ByteArray)} {m:MM},Vq ps m→Vq (ps++pieceP vs k) (putP vs k m)
 |[],k,ps,m,h=>by rw [pieceP,List.append_nil,putP];exact h
 |v::vs,k,ps,m,h=>by
  rw [pieceP,putP,show ps++(itB ((k+1:Nat):Int),v)::pieceP vs (k+1)=(ps++[(itB ((k+1:Nat):Int),v)])++pieceP vs (k+1) by simp]
  exact Vq.pieces vs (k+1) (h.put _ _)
structure RI (n:Nat) (ps:List (ByteArray×ByteArray)) (m:MM):Prop where
 vr:Vq ps m
 key:∀ p∈ps,p.1.size≠0
 val:∀ p∈ps,p.2.size≤2000000
 len:(ps.filter fun p=>!dgtL p.1.data.toList).length≤n
 all:ps.length≤n+1000
theorem RI.nil:RI 0 [] []:=⟨Vq.nil,(fun p hp=>by cases hp),(fun p hp=>by cases hp),Nat.le_refl _,Nat.zero_le _⟩
theorem RI.mono {n k:Nat} {ps:List (ByteArray×ByteArray)} {m:MM} (h:RI n ps m) (hk:n≤k):RI k ps m:=⟨h.vr,h.key,h.val,Nat.le_trans h.len hk,Nat.le_trans h.all (by omega)⟩
theorem RI.put {n:Nat} {ps:List (ByteArray×ByteArray)} {m:MM} (h:RI n ps m) {k v:ByteArray} (hk:k.size≠0) (hv:v.size≤2000000):RI (n+1) (ps++[(k,v)]) (putM m k v):=by
 have hl:=h.len
 have ha:=h.all
 refine ⟨h.vr.put k v,fun p hp=>?_,fun p hp=>?_,?_,by simp;omega⟩
 ·rcases List.mem_append.1 hp with hp|hp
  ·exact h.key p hp
  ·rw [List.mem_singleton.1 hp];exact hk
 ·rcases List.mem_append.1 hp with hp|hp
  ·exact h.val p hp
  ·rw [List.mem_singleton.1 hp];exact hv
 ·rw [List.filter_append,List.length_append]
  have:([(k,v)].filter fun p:ByteArray×ByteArray=>!dgtL p.1.data.toList).length≤1:=List.length_filter_le _ _
  omega
theorem qxj:∀ (vs:List ByteArray) (k:Nat),(∀ v∈vs,v.size≤2000000)→∀ p∈pieceP vs k,p.1.size≠0∧p.2.size≤2000000∧dgtL p.1.data.toList=true
 |[],k,_,p,hp=>by cases hp
 |v::vs,k,hv,p,hp=>by
  rw [pieceP] at hp
  rcases List.mem_cons.1 hp with rfl|hp
  ·obtain ⟨h1,h2⟩:=qqv (k+1)
   exact ⟨h2,hv v (List.mem_cons_self ..),by rw [←digP_L];exact h1⟩
  ·exact qxj vs (k+1) (fun x hx=>hv x (List.mem_cons_of_mem _ hx)) p hp
theorem qxi:∀ (vs:List ByteArray) (k:Nat),(pieceP vs k).length=vs.length
 |[],_=>rfl
 |v::vs,k=>by rw [pieceP,List.length_cons,qxi vs (k+1)];rfl
def pcd (ps:List (ByteArray×ByteArray)) (vs:List ByteArray):List (ByteArray×ByteArray):=(ps.filter fun p=>!dgtL p.1.data.toList)++pieceP vs 0
theorem RI.pieces {n:Nat} {ps:List (ByteArray×ByteArray)} {m:MM} (h:RI n ps m) {vs:List ByteArray} (hv:∀ v∈vs,v.size≤2000000) (hl:vs.length≤1000):RI n (pcd ps vs) (putP vs 0 (noDig m)):=by
 have hm:∀ p∈ps.filter (fun p=>!dgtL p.1.data.toList),p∈ps:=fun p hp=>(List.mem_filter.1 hp).1
 have hp2:=qxj vs 0 hv
 have hlen:=h.len
 refine ⟨Vq.pieces vs 0 h.vr.nodig,fun p hp=>?_,fun p hp=>?_,?_,?_⟩
 ·rcases List.mem_append.1 hp with hp|hp
  ·exact h.key p (hm p hp)
  ·exact (hp2 p hp).1
 ·rcases List.mem_append.1 hp with hp|hp
  ·exact h.val p (hm p hp)
  ·exact (hp2 p hp).2.1
 ·unfold pcd
  rw [List.filter_append,List.filter_filter]
  have e1:(pieceP vs 0).filter (fun p=>!dgtL p.1.data.toList)=[]:=by
   rw [List.filter_eq_nil_iff]
   intro p hp
   rw [(hp2 p hp).2.2];simp
  rw [e1,List.append_nil]
  simpa using h.len
 ·unfold pcd
  rw [List.length_append,qxi]
  omega
theorem q1lp {ps:List (ByteArray×ByteArray)} (k:List UInt8) (h:∀ p∈ps,p.2.size≤2000000):(vlook ps k).length≤2000000:=by
 have key:∀ (ps:List (ByteArray×ByteArray)) (a:List UInt8),a.length≤2000000→(∀ p∈ps,p.2.size≤2000000)→(ps.foldl (fun acc p=>if (p.1.data.toList==k)=true then p.2.data.toList else acc) a).length≤2000000:=by
  intro ps
  induction ps with
  |nil=>intro a ha _;exact ha
  |cons p ps ih =>
   intro a ha hp
   rw [List.foldl_cons]
   refine ih _ ?_ fun q hq=>hp q (List.mem_cons_of_mem _ hq)
   have:=hp p (List.mem_cons_self ..)
   split
   ·rw [Array.length_toList];exact this
   ·exact ha
 exact key ps [] (by simp) h
theorem ba_eq {a b:ByteArray} (h:a.data.toList=b.data.toList):a=b:=by
 cases a;cases b
 exact congrArg ByteArray.mk (Array.toList_inj.1 h)
theorem q55 (a:ByteArray):a.data.toList.length=a.size:=by rw [Array.length_toList];rfl
theorem ba_app (a b:ByteArray):(a++b).data.toList=a.data.toList++b.data.toList:=by
 rw [ByteArray.data_append,Array.toList_append]
theorem q54 (a:ByteArray) (i j:Nat):(a.extract i j).data.toList=(a.data.toList.take j).drop i:=by
 rw [ByteArray.data_extract,Array.toList_extract,List.extract_eq_take_drop,List.drop_take]
section
variable (a:List S45) (st:List S62) (sp:Bool)
theorem q1ld (ps:List (ByteArray×ByteArray)) (hl:ps.length≤1000000) (nm:ByteArray):∀ k:Nat,k≤ps.length →
  ∃ x,q18c nm ((k:Int) - 1) (ps.map Prod.fst) (ps.map Prod.snd) a st sp=some x∧(Sum.elim (fun r=>r.1) (fun _=>noTx) x).data.toList=vlook (ps.take k) nm.data.toList
 |0,_=>by
  refine ⟨.inr ((nm,((),(-1,false))),(ps.map Prod.fst,(ps.map Prod.snd,(a,(st,sp))))),q18e ?_,rfl⟩
  have c:decide ((((0:Nat):Int) - 1)≥0)=false:=by decide
  simp only [q18j,gL,dL,eC,p0,q7r,qn6,EC.decL_encL,EC.isL_encL,EC.encL_length,isE_9,q51,c,Bool.false_eq_true,if_false,if_true]
  rfl
 |k+1,hk=>by
  have hlt:k<ps.length:=by omega
  have hl1:k<(ps.map Prod.fst).length:=by rw [List.length_map];omega
  have hl2:k<(ps.map Prod.snd).length:=by rw [List.length_map];omega
  have e:(((k+1:Nat):Int) - 1)=(k:Int):=by omega
  have c0:decide (((k:Nat):Int)≥0)=true:=decide_eq_true (by omega)
  have c1:decide ((0:Int)≤((k:Nat):Int))=true:=by simp
  have hd1:decide (k<(ps.map Prod.fst).length)=true:=decide_eq_true hl1
  have hd2:decide (k<(ps.map Prod.snd).length)=true:=decide_eq_true hl2
  have w1:IntKind.i64.wrap ((k:Int) - 1)=(k:Int) - 1:=q1m1 (by omega)
  have g1:(ps.map Prod.fst)[k]=ps[k].1:=List.getElem_map ..
  have g2:(ps.map Prod.snd)[k]=ps[k].2:=List.getElem_map ..
  rw [e,List.take_succ_eq_append_getElem hlt,q1lq]
  cases hb:(ps[k].1.data.toList==nm.data.toList) with
  |true =>
   have hb':(ByteArray.toList ps[k].1==ByteArray.toList nm)=true:=by rw [ByteArray.toList_eq,ByteArray.toList_eq];exact hb
   refine ⟨.inl (ps[k].2,()),q18e ?_,rfl⟩
   simp only [q18j,gL,dL,eC,p0,q7r,qn6,EC.decL_encL,EC.isL_encL,EC.encL_length,isE_9,q51,c0,hd1,hd2,if_true,Int.toNat_natCast,Bool.and_self,qn9 hl1,qn9 hl2,g1,g2,hb']
  |false =>
   have hb':(ByteArray.toList ps[k].1==ByteArray.toList nm)=false:=by rw [ByteArray.toList_eq,ByteArray.toList_eq];exact hb
   obtain ⟨x,x1,x2⟩:=q1ld ps hl nm k (by omega)
   refine ⟨x,q18e ?_,by rw [x2,if_neg (by decide)]⟩
   simp only [q18j,gL,dL,eC,p0,q7r,qn6,EC.decL_encL,EC.isL_encL,EC.encL_length,isE_9,q51,c0,hd1,hd2,if_true,Int.toNat_natCast,Bool.and_self,qn9 hl1,qn9 hl2,g1,g2,hb',Bool.false_eq_true,if_false,w1]
   exact x1
theorem q1lj (ps:List (ByteArray×ByteArray)) (hl:ps.length≤1000000) (nm:ByteArray):∃ v,q18k (ps.map Prod.fst) (ps.map Prod.snd) a st sp nm=some v∧v.data.toList=vlook ps nm.data.toList:=by
 obtain ⟨x,x1,x2⟩:=q1ld a st sp ps hl nm ps.length (Nat.le_refl _)
 rw [List.take_length] at x2
 have w1:IntKind.i64.wrap ((ps.length:Int) - 1)=(ps.length:Int) - 1:=q1m1 (by omega)
 refine ⟨_,q18b (r:=Sum.elim (fun r=>r.1) (fun _=>noTx) x) ?_,x2⟩
 simp only [q18l,gL,dL,lN,qn6,EC.decL_encL,EC.isL_encL,EC.encL_length,if_true,List.length_map,w1,x1,Option.bind_some]
 rcases x with x|x <;> rfl
theorem all_1s (l:List ByteArray):(qb5.encL l).all (fun el=>el.length==1)=true:=by
 simp only [List.all_eq_true,EC.encL,List.mem_map]
 rintro x ⟨a,_,rfl⟩
 rfl
theorem q1g2 (l:List ByteArray) (t:ByteArray):qb5.encL l++[[C.str t]]=qb5.encL (l++[t]):=by simp [EC.encL];rfl
theorem with_s (ps:List (ByteArray×ByteArray)) (hl:ps.length≤1000000) (nm v:ByteArray):q194 (ps.map Prod.fst) (ps.map Prod.snd) a st sp nm v=some ((ps++[(nm,v)]).map Prod.fst,((ps++[(nm,v)]).map Prod.snd,(a,(st,sp)))):=by
 have g1:decide ((ps.length+ps.length / 4+192)*16≤281474976710656)=true:=decide_eq_true (by omega)
 have g2:decide (ps.length≤9223372036854775807)=true:=decide_eq_true (by omega)
 have g3:decide ((ps.length+1+(ps.length+1) / 4+192)*16≤281474976710656)=true:=decide_eq_true (by omega)
 have g4:decide (ps.length+1≤9223372036854775807)=true:=decide_eq_true (by omega)
 refine q193 ?_
 simp only [q195,gL,dL,lN,aL,dQ,dM,qn6,all_1s,q1g2,EC.decL_encL,EC.isL_encL,EC.encL_length,List.all_cons,List.all_nil,List.length_cons,List.length_nil,Nat.zero_add,beq_self_eq_true,Bool.and_self,List.length_map,g1,g2,g3,g4,if_true,List.map_append,List.map_cons,List.map_nil]
end
def digD:ByteArray:=ByteArray.mk (List.toArray [(48:UInt8),(49:UInt8),(50:UInt8),(51:UInt8),(52:UInt8),(53:UInt8),(54:UInt8),(55:UInt8),(56:UInt8),(57:UInt8)])
theorem qa6 (u:Nat) (h:u<10):(digD.extract u (u+1)).data.toList=[UInt8.ofNat (48+u)]:=by
 rw [q54]
 match u,h with
 |0,_=>rfl
 |1,_=>rfl
 |2,_=>rfl
 |3,_=>rfl
 |4,_=>rfl
 |5,_=>rfl
 |6,_=>rfl
 |7,_=>rfl
 |8,_=>rfl
 |9,_=>rfl
theorem qa8:∀ (u:Nat) (s t:ByteArray),u≤100000→s.size+u≤1000000→s.data.toList=UInt8.ofNat (48+u % 10)::t.data.toList→∃ x,qyr u digD s=some x∧x.1.2.2.1.data.toList=Lib.decDigits u++t.data.toList:=by
 intro u
 induction u using Nat.strongRecOn with
 |_ u ih =>
  intro s t hu hs he
  have hsz:digD.size=10:=rfl
  by_cases h10:u<10
  ·have c:decide (((u:Nat):Int)≥10)=false:=decide_eq_false (by omega)
   refine ⟨((((u:Nat):Int),(digD,(s,false))),()),qyt ?_,?_⟩
   ·simp only [qyx,z2i,wI,p0,q7r,qn6,c,Bool.false_eq_true,if_false]
   ·rw [Lib.decDigits,dif_pos h10]
    show s.data.toList=_
    rw [he,Nat.mod_eq_of_lt h10];rfl
  ·have c:decide (((u:Nat):Int)≥10)=true:=decide_eq_true (by omega)
   have w0:IntKind.i64.wrap (Int.tdiv ((u:Nat):Int) 10)=((u / 10:Nat):Int):=by
    rw [show Int.tdiv ((u:Nat):Int) 10=((u / 10:Nat):Int) from rfl,q1m1 (by omega)]
   have w1:Int.tmod ((u / 10:Nat):Int) 10=((u / 10 % 10:Nat):Int):=rfl
   have w2:IntKind.i64.wrap (((u / 10 % 10:Nat):Int)+1)=((u / 10 % 10+1:Nat):Int):=by rw [q1m1 (by omega)];omega
   have c1:decide ((0:Int)≤((u / 10 % 10+1:Nat):Int))=true:=decide_eq_true (by omega)
   have c2:decide (((u / 10 % 10+1:Nat):Int)≤((digD.size:Nat):Int))=true:=decide_eq_true (by rw [hsz];omega)
   have c3:decide ((0:Int)≤((u / 10 % 10:Nat):Int))=true:=decide_eq_true (by omega)
   have c4:decide (((u / 10 % 10:Nat):Int)≤((u / 10 % 10+1:Nat):Int))=true:=decide_eq_true (by omega)
   have hx:=qa6 (u / 10 % 10) (by omega)
   have hxs:(digD.extract (u / 10 % 10) (u / 10 % 10+1)).size=1:=by rw [←q55,hx];rfl
   have c5:decide ((((digD.extract (u / 10 % 10) (u / 10 % 10+1)).size+s.size:Nat):Int)>IntKind.max .i64)=false:=decide_eq_false (by
    rw [hxs]
    show ¬ (_>(9223372036854775807:Int))
    omega)
   obtain ⟨x,x1,x2⟩:=ih (u / 10) (by omega) (digD.extract (u / 10 % 10) (u / 10 % 10+1)++s) s (by omega) (by
    have:(digD.extract (u / 10 % 10) (u / 10 % 10+1)++s).size=1+s.size:=by rw [←q55,ba_app,hx,List.length_append,q55];rfl
    omega) (by rw [ba_app,hx];rfl)
   refine ⟨x,qyt ?_,?_⟩
   ·simp only [qyx,z2i,wI,p0,q7r,qn6,c,if_true,w0,w1,w2,c1,c2,c3,c4,Bool.and_self,Int.toNat_natCast,c5,Bool.false_eq_true,if_false]
    exact x1
   ·rw [x2,he]
    conv=>rhs;rw [Lib.decDigits,dif_neg h10]
    simp
theorem qaa (u:Nat) (hu:u≤100000):qyy u=some (itB u):=by
 have hsz:digD.size=10:=rfl
 have w1:Int.tmod ((u:Nat):Int) 10=((u % 10:Nat):Int):=rfl
 have w2:IntKind.i64.wrap (((u % 10:Nat):Int)+1)=((u % 10+1:Nat):Int):=by rw [q1m1 (by omega)];omega
 have c1:decide ((0:Int)≤((u % 10+1:Nat):Int))=true:=decide_eq_true (by omega)
 have c2:decide (((u % 10+1:Nat):Int)≤((digD.size:Nat):Int))=true:=decide_eq_true (by rw [hsz];omega)
 have c3:decide ((0:Int)≤((u % 10:Nat):Int))=true:=decide_eq_true (by omega)
 have c4:decide (((u % 10:Nat):Int)≤((u % 10+1:Nat):Int))=true:=decide_eq_true (by omega)
 have hx:=qa6 (u % 10) (by omega)
 have hxs:(digD.extract (u % 10) (u % 10+1)).size=1:=by rw [←q55,hx];rfl
 obtain ⟨x,x1,x2⟩:=qa8 u (digD.extract (u % 10) (u % 10+1)) ⟨#[]⟩ hu (by omega) hx
 have hv:x.1.2.2.1=itB u:=by
  refine ba_eq ?_
  rw [x2]
  show Lib.decDigits u++[]=Lib.itoa ((u:Nat):Int)
  rw [List.append_nil,Lib.itoa,if_neg (by omega)]
  rfl
 rw [←hv]
 refine qyq ?_
 unfold digD at c2 x1
 simp only [qyz,wI,p0,qn6,w1,w2,c1,c2,c3,c4,Bool.and_self,Int.toNat_natCast,if_true,x1,Option.bind_some]
abbrev PS:=List (ByteArray×ByteArray)
def ndB (p:ByteArray×ByteArray):Bool:=!dgtL p.1.data.toList
theorem qk0 {s:ByteArray} (h:s.size≠0):(decide ((48:Int)≤((UInt8.toNat (Array.getD s.data 0 (0:UInt8)):Nat):Int))&&decide (((UInt8.toNat (Array.getD s.data 0 (0:UInt8)):Nat):Int)≤57))=dgtL s.data.toList:=by
 have hL:=q55 s
 have hlt:0<s.data.toList.length:=by omega
 have a0:Array.getD s.data 0 (0:UInt8)=s.data.toList[0]:=by
  unfold Array.getD;rw [dif_pos (show 0<s.data.size by show 0<s.size;omega)];rfl
 rw [a0]
 generalize s.data.toList=u at hlt
 cases u with
 |nil=>cases hlt
 |cons b l =>
  show (decide ((48:Int)≤((b.toNat:Nat):Int))&&decide (((b.toNat:Nat):Int)≤57))=(decide (48≤b.toNat)&&decide (b.toNat≤57))
  congr 1
  ·rw [Bool.eq_iff_iff,decide_eq_true_iff,decide_eq_true_iff];omega
  ·rw [Bool.eq_iff_iff,decide_eq_true_iff,decide_eq_true_iff];omega
theorem q84 (b:UInt8):IntKind.i64.wrap ((b.toNat:Nat):Int)=((b.toNat:Nat):Int):=by
 have:=b.toNat_lt
 exact q1m1 (by omega)
section
variable (a:List S45) (st:List S62) (sp:Bool)
def pcSt (pc:List ByteArray) (ps acc:PS) (i:Int):(List ByteArray×Unit×Unit×Nat×Nat×Int×Bool)×((List ByteArray×List ByteArray×List S45×List S62×Bool)×(Nat×Nat×Nat×Nat×Bool)×List ByteArray×List ByteArray×List ByteArray×List ByteArray×List S45×List S62) :=
 ((pc,((),((),(acc.length,(acc.length,(i,false)))))),((ps.map Prod.fst,(ps.map Prod.snd,(a,(st,sp)))),((0,(0,(0,(0,false)))),(acc.map Prod.fst,(acc.map Prod.snd,([],([],([],[]))))))))
theorem pc_l4 (pc:List ByteArray) (ps:PS) (hl:ps.length≤1000000) (hk0:∀ p∈ps,p.1.size≠0):∀ (m k:Nat) (acc:PS),k+m=ps.length→acc.length≤k →
  q127 pc acc.length acc.length k (ps.map Prod.fst) (ps.map Prod.snd) a st sp 0 0 0 0 false (acc.map Prod.fst) (acc.map Prod.snd) [] [] [] []=some (pcSt a st sp pc ps (acc++(ps.drop k).filter ndB) ps.length):=by
 intro m
 induction m with
 |zero =>
  intro k acc hk ha
  have hk:k=ps.length:=by omega
  subst hk
  refine q129 ?_
  have c:decide ((ps.length:Int)<(ps.length:Int))=false:=decide_eq_false (by omega)
  rw [List.drop_length,List.filter_nil,List.append_nil]
  simp only [q12d,z2j,z2k,gL,dL,lN,eC,wI,p0,aL,dQ,q7r,qn6,EC.decL_encL,EC.isL_encL,EC.encL_length,isE_9,q51,q3l,q3z,List.length_map,c,Bool.false_eq_true,if_false,if_true,pcSt]
 |succ m ih =>
  intro k acc hk ha
  have hlt:k<ps.length:=by omega
  have hl1:k<(ps.map Prod.fst).length:=by rw [List.length_map];omega
  have hl2:k<(ps.map Prod.snd).length:=by rw [List.length_map];omega
  have e1:decide ((k:Int)<(ps.length:Int))=true:=decide_eq_true (by omega)
  have e0:decide ((0:Int)≤(k:Int))=true:=decide_eq_true (by omega)
  have e2:IntKind.i64.wrap ((k:Int)+1)=((k+1:Nat):Int):=q1m2 hlt (by omega)
  have hd2:decide (k<ps.length)=true:=decide_eq_true hlt
  have q1:(ps.map Prod.fst)[k]=ps[k].1:=List.getElem_map ..
  have q2:(ps.map Prod.snd)[k]=ps[k].2:=List.getElem_map ..
  have hne:=hk0 ps[k] (List.getElem_mem hlt)
  have c0:decide (0<ps[k].1.size)=true:=decide_eq_true (by omega)
  have hdg:=qk0 hne
  have g1:decide ((acc.length+1+(acc.length+1) / 4+192)*16≤281474976710656)=true:=decide_eq_true (by omega)
  have g2:decide (acc.length+1≤9223372036854775807)=true:=decide_eq_true (by omega)
  refine q129 ?_
  rw [qag hlt,List.filter_cons]
  cases hb:dgtL ps[k].1.data.toList with
  |true =>
   rw [hb] at hdg
   rw [if_neg (by unfold ndB;rw [hb];decide)]
   simp only [q12d,z2j,z2k,gL,dL,lN,eC,wI,p0,aL,dQ,q7r,qn6,EC.decL_encL,EC.isL_encL,EC.encL_length,isE_9,q51,q3l,q3z,List.length_map,e1,e0,hd2,if_true,Int.toNat_natCast,Int.toNat_zero,Int.le_refl,decide_true,Bool.and_self,qn9 hl1,q1,c0,q84,qq6,hdg,Option.bind_some,Bool.not_true,Bool.false_eq_true,if_false,e2]
   exact ih (k+1) acc (by omega) (by omega)
  |false =>
   rw [hb] at hdg
   rw [if_pos (by unfold ndB;rw [hb];rfl)]
   have hi:=ih (k+1) (acc++[ps[k]]) (by omega) (by simp;omega)
   rw [List.length_append,List.append_assoc,List.map_append,List.map_append] at hi
   simp only [q12d,z2j,z2k,gL,dL,lN,eC,wI,p0,aL,dQ,q7r,qn6,all_1s,q1g2,EC.decL_encL,EC.isL_encL,EC.encL_length,isE_9,q51,List.length_map,e1,e0,hd2,if_true,Int.toNat_natCast,Int.toNat_zero,Int.le_refl,decide_true,Bool.and_self,qn9 hl1,qn9 hl2,q1,q2,c0,q84,qq6,hdg,Option.bind_some,Bool.not_false,List.all_cons,List.all_nil,List.length_cons,List.length_nil,Nat.zero_add,beq_self_eq_true,g1,g2,e2]
   exact hi
theorem pc_l10 (pc:List ByteArray) (hp:pc.length≤1000) (ps:PS):∀ (m k:Nat) (acc:PS),k+m=pc.length→acc.length≤1000000+k →
  q120 pc acc.length acc.length k (ps.map Prod.fst) (ps.map Prod.snd) a st sp 0 0 0 0 false (acc.map Prod.fst) (acc.map Prod.snd) [] [] [] []=some (pcSt a st sp pc ps (acc++pieceP (pc.drop k) k) pc.length):=by
 intro m
 induction m with
 |zero =>
  intro k acc hk ha
  have hk:k=pc.length:=by omega
  subst hk
  refine q122 ?_
  have c:decide ((pc.length:Int)<(pc.length:Int))=false:=decide_eq_false (by omega)
  rw [List.drop_length,pieceP,List.append_nil]
  simp only [q126,z2l,gL,dL,lN,eC,wI,p0,aL,dQ,dM,q7r,qn6,EC.decL_encL,EC.isL_encL,EC.encL_length,isE_9,q51,q3l,q3z,c,Bool.false_eq_true,if_false,if_true,pcSt]
 |succ m ih =>
  intro k acc hk ha
  have hlt:k<pc.length:=by omega
  have e1:decide ((k:Int)<(pc.length:Int))=true:=decide_eq_true (by omega)
  have e0:decide ((0:Int)≤(k:Int))=true:=decide_eq_true (by omega)
  have e2:IntKind.i64.wrap ((k:Int)+1)=((k+1:Nat):Int):=q1m2 hlt (by omega)
  have hd2:decide (k<pc.length)=true:=decide_eq_true hlt
  have hdg:=qaa (k+1) (by omega)
  have g1:decide ((acc.length+1+(acc.length+1) / 4+192)*16≤281474976710656)=true:=decide_eq_true (by omega)
  have g2:decide (acc.length+1≤9223372036854775807)=true:=decide_eq_true (by omega)
  have hi:=ih (k+1) (acc++[(itB ((k+1:Nat):Int),pc[k])]) (by omega) (by simp;omega)
  rw [List.length_append,List.append_assoc,List.map_append,List.map_append] at hi
  refine q122 ?_
  rw [qag hlt,pieceP]
  simp only [q126,z2l,gL,dL,lN,eC,wI,p0,aL,dQ,dM,q7r,qn6,all_1s,q1g2,EC.decL_encL,EC.isL_encL,EC.encL_length,isE_9,q51,e1,e0,hd2,e2,if_true,hdg,Option.bind_some,Int.toNat_natCast,Bool.and_self,qn9 hlt,List.all_cons,List.all_nil,List.length_cons,List.length_nil,Nat.zero_add,beq_self_eq_true,g1,g2]
  exact hi
theorem qxk (ps:PS) (hl:ps.length≤1000000) (hk0:∀ p∈ps,p.1.size≠0) (pc:List ByteArray) (hp:pc.length≤1000) :
  q12e (ps.map Prod.fst) (ps.map Prod.snd) a st sp pc=some ((pcd ps pc).map Prod.fst,((pcd ps pc).map Prod.snd,(a,(st,sp)))):=by
 have h1:=pc_l4 a st sp pc ps hl hk0 ps.length 0 [] (by omega) (by simp)
 have hfl:(ps.filter ndB).length≤ps.length:=List.length_filter_le _ _
 have h2:=pc_l10 a st sp pc hp ps pc.length 0 (ps.filter ndB) (by omega) (by omega)
 rw [Int.natCast_zero,List.drop_zero,List.nil_append,List.map_nil,List.map_nil,List.length_nil] at h1
 rw [Int.natCast_zero,List.drop_zero] at h2
 have e:pcd ps pc=ps.filter ndB++pieceP pc 0:=rfl
 rw [e]
 unfold pcSt at h1 h2
 refine q11z ?_
 simp only [q12f,gL,dL,qn6,qg,EC.decL_encL,EC.isL_encL,if_true,h1,h2,Option.bind_some]
end
end Go.Proofs.YtokahibbkdbndaaGreatDoor
