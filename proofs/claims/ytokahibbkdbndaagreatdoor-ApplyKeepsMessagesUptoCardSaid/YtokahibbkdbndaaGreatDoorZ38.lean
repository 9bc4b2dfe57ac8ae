/- The closed test 'applied()' is run by the machine inside the kernel. -/
import Derived.Test.YtokahibbkdbndaaGreatDoorH12
import Derived.Test.YtokahibbkdbndaaGreatDoorZ36
import Derived.Test.YtokahibbkdbndaaGreatDoorZ25
import Derived.Test.YtokahibbkdbndaaGreatDoorZ33
import Derived.Test.YtokahibbkdbndaaGreatDoorZ01
import Derived.Test.YtokahibbkdbndaaGreatDoorChecked
import Derived.ProofKit
import Derived.OpenShut
import Derived.JoinedCond
import Derived.Deep.Slices
import Derived.Deep.Fields
import Derived.Lib.SmallJoins
namespace Go.Proofs.YtokahibbkdbndaaGreatDoor
open Go.RowKit
set_option maxRecDepth 1000000 in
theorem q22v:callD Tryz.prog (fzL lv) X0.c (execD Tryz.prog lv X0 200) 35 []=some (.c (.bool true),[]):=by kernel_rfl
theorem q22u (x:Unit) (r:Bool) (h:evdS=some r):Call Tryz.prog lv X0 35 (evd_ca.enc x)=some (evd_cr.enc r):=by
 cases r with
 |true=>exact qc q22v
 |false=>unfold evdS at h;cases h
noncomputable def apld_e:=entS Tryz.prog lv X0 35 [] evd_ca evd_cr (fun _=>evdS) q22u
noncomputable def tabk3:=apld_e::q25d
end Go.Proofs.YtokahibbkdbndaaGreatDoor
namespace Go.Proofs.YtokahibbkdbndaaGreatDoor
open Go.RowKit
set_option maxRecDepth 100000
noncomputable section
def q24n:=(q279 (vC (cSl q26r)) (q27b (vAgg (q279 (vC cStr) (q279 (vC (cSl q26k)) (q279 (vC cStr) (q279 (vC (cSl q26s)) (q27b (vC (cSl q26q))))))))))
def q24o:Cod (V × List B) Bool:=(cFstU (cPair (vC cBool) q27a))
def q24q (s:(List S50)) (m_Envelope_From:ByteArray) (m_Envelope_To:(List S118)) (m_Envelope_Id:ByteArray) (m_Message_Fields:(List S55)) (m_Message_Body:(List Int)):Option Bool:=fS Tryz.prog lv X0 13 q24n q24o (s,(m_Envelope_From,m_Envelope_To,m_Envelope_Id,m_Message_Fields,m_Message_Body))
def q24r (s:(List S50)) (m_Envelope_From:ByteArray) (m_Envelope_To:(List S118)) (m_Envelope_Id:ByteArray) (m_Message_Fields:(List S55)) (m_Message_Body:(List Int)):Option Bool :=
 (gdE (EC.isL q26r (EC.encL q26r s)) <|
 (Option.bind (q1gq (EC.decL q26r (EC.encL q26r s))) fun r0 =>
 (gdE (EC.isL q26r (EC.encL q26r s)) <|
 (gdE (EC.isL q26k (EC.encL q26k m_Envelope_To)) <|
 (gdE (EC.isL q26s (EC.encL q26s m_Message_Fields)) <|
 (gdE (EC.isL q26q (EC.encL q26q m_Message_Body)) <|
 (Option.bind (q13y (EC.decL q26r (EC.encL q26r s)) m_Envelope_From (EC.decL q26k (EC.encL q26k m_Envelope_To)) m_Envelope_Id (EC.decL q26s (EC.encL q26s m_Message_Fields)) (EC.decL q26q (EC.encL q26q m_Message_Body))) fun r1 =>
 (brE ((r0.2.1 != 0)==false)
 (brE (r1.1.2.1 != 0)
 (some true)
 (gdE (EC.isL q26o (EC.encL q26o r1.2)) <|
 (Option.bind (q23f (EC.decL q26o (EC.encL q26o r1.2))) fun r2 =>
 (brE ((r2.1.2.1==0)==true)
 (brE ((!r0.1)==false)
 (brE ((decide (((r2.1.1.1:Nat):Int) > 0))==true)
 (some true)
 (some false))
 (some true))
 (some false)))))
 (some true)))))))))
theorem q24p {s} {m_Envelope_From} {m_Envelope_To} {m_Envelope_Id} {m_Message_Fields} {m_Message_Body} {r} (h:q24r s m_Envelope_From m_Envelope_To m_Envelope_Id m_Message_Fields m_Message_Body=some r):q24q s m_Envelope_From m_Envelope_To m_Envelope_Id m_Message_Fields m_Message_Body=some r :=
 qf2 (es:=tabk3) (hs:=q24g) [] Tryz.func13 rfl (by kernel_rfl) rfl (by kernel_rfl) (by kernel_rfl) trivial trivial (by kernel_rfl) h
end
theorem q24h (s:List ByteArray) (hl:s.length≤10000) (v:ByteArray):∀ m k:Nat,k+m=s.length→∃ x,q253 s v s.length k=some x∧(s.length=0→∃ y,x=.inr y):=by
 intro m
 induction m with
 |zero =>
  intro k hk
  have hk:k=s.length:=by omega
  subst hk
  refine ⟨.inr ((s,(v,(((s.length:Nat):Int),(((s.length:Nat):Int),false)))),()),q255 ?_,fun _=>⟨_,rfl⟩⟩
  simp only [q25a,q26i,q26z,EC.decL_encL,EC.isL_encL,EC.encL_length,isE_9,q26c]
  simp
 |succ m ih =>
  intro k hk
  have hlt:k<s.length:=by omega
  have e1:decide ((k:Int)<(s.length:Int))=true:=by simp;omega
  have e0:decide ((0:Int)≤(k:Int))=true:=by simp
  have e2:IntKind.i64.wrap ((k:Int)+1)=((k+1:Nat):Int):=q27y hlt (by omega)
  have hd2:decide (k<s.length)=true:=by simp [hlt]
  cases hv:(ByteArray.toList v==ByteArray.toList s[k]) with
  |true =>
   refine ⟨.inl ((k:Int),()),q255 ?_,fun h=>by omega⟩
   simp only [q25a,q26i,q26z,EC.decL_encL,EC.isL_encL,EC.encL_length,isE_9,q26c,e1,e0,if_true,Int.toNat_natCast,hd2,Bool.and_self,qik hlt,hv]
  |false =>
   obtain ⟨x,x1,x2⟩:=ih (k+1) (by omega)
   refine ⟨x,q255 ?_,x2⟩
   simp only [q25a,q26i,q26z,EC.decL_encL,EC.isL_encL,EC.encL_length,isE_9,q26c,e1,e0,if_true,Int.toNat_natCast,hd2,Bool.and_self,qik hlt,hv,Bool.false_eq_true,if_false,e2]
   exact x1
theorem q249 (s:List ByteArray) (v:ByteArray) (hl:s.length≤10000):∃ b,q24x s v=some b∧(b=true→0<s.length):=by
 obtain ⟨x,x1,x2⟩:=q24h s hl v s.length 0 (by omega)
 rw [Int.natCast_zero] at x1
 have h:∃ i,q25b s v=some i∧(s.length=0→i=-1):=by
  rcases x with ⟨i,u⟩|y
  ·refine ⟨i,q252 ?_,fun h=>?_⟩
   ·simp only [q25c,q26z,EC.decL_encL,EC.isL_encL,EC.encL_length,if_true,x1,Option.bind_some,Sum.elim_inl]
   ·obtain ⟨y,hy⟩:=x2 h;cases hy
  ·refine ⟨-1,q252 ?_,fun _=>rfl⟩
   simp only [q25c,q26z,EC.decL_encL,EC.isL_encL,EC.encL_length,if_true,x1,Option.bind_some,Sum.elim_inr]
 obtain ⟨i,i1,i2⟩:=h
 refine ⟨decide (i ≥ 0),q24w ?_,fun h=>?_⟩
 ·simp only [q24y,q26z,EC.decL_encL,EC.isL_encL,if_true,i1,Option.bind_some]
 ·have h:i ≥ 0:=of_decide_eq_true h
  rcases Nat.eq_zero_or_pos s.length with h0|h0
  ·have:=i2 h0;omega
  ·exact h0
theorem once28 (t:ByteArray) (b1 b2 b3 b4:List ByteArray) (fl:Int) (hb:b1.length≤1000):∃ c:List ByteArray,q23h t b1.length b2.length b3.length b4.length fl b1 b2 b3 b4=some ((),((),((c.length,(b2.length,(b3.length,(b4.length,fl)))),(c,(b2,(b3,b4))))))∧c.length≤b1.length+1∧0<c.length:=by
 obtain ⟨b,h1,h2⟩:=q249 b1 t (by omega)
 have g1:decide ((b1.length+1+(b1.length+1) / 4+192)*16≤281474976710656)=true:=decide_eq_true (by omega)
 have g2:decide (b1.length+1≤9223372036854775807)=true:=decide_eq_true (by omega)
 cases b with
 |true =>
  refine ⟨b1,q23j ?_,by omega,h2 rfl⟩
  simp only [q23n,q26i,q26z,EC.decL_encL,EC.isL_encL,q268,q26a,if_true,h1,Option.bind_some,Bool.not_true,Bool.false_eq_true,if_false]
 |false =>
  refine ⟨b1++[t],q23j ?_,by simp,by simp⟩
  simp only [q23n,q26i,q26z,EC.decL_encL,EC.isL_encL,q268,q26a,if_true,h1,Option.bind_some,Bool.not_false,List.all_cons,List.all_nil,List.length_cons,List.length_nil,Nat.zero_add,beq_self_eq_true,Bool.and_self,g1,g2,List.length_append]
theorem once29 (t:ByteArray) (b1 b2 b3 b4:List ByteArray) (fl:Int) (hb:b2.length≤1000):∃ c:List ByteArray,q23o t b1.length b2.length b3.length b4.length fl b1 b2 b3 b4=some ((),((),((b1.length,(c.length,(b3.length,(b4.length,fl)))),(b1,(c,(b3,b4))))))∧c.length≤b2.length+1∧0<c.length:=by
 obtain ⟨b,h1,h2⟩:=q249 b2 t (by omega)
 have g1:decide ((b2.length+1+(b2.length+1) / 4+192)*16≤281474976710656)=true:=decide_eq_true (by omega)
 have g2:decide (b2.length+1≤9223372036854775807)=true:=decide_eq_true (by omega)
 cases b with
 |true =>
  refine ⟨b2,q23q ?_,by omega,h2 rfl⟩
  simp only [q23u,q26i,q26z,EC.decL_encL,EC.isL_encL,q268,q26a,if_true,h1,Option.bind_some,Bool.not_true,Bool.false_eq_true,if_false]
 |false =>
  refine ⟨b2++[t],q23q ?_,by simp,by simp⟩
  simp only [q23u,q26i,q26z,EC.decL_encL,EC.isL_encL,q268,q26a,if_true,h1,Option.bind_some,Bool.not_false,List.all_cons,List.all_nil,List.length_cons,List.length_nil,Nat.zero_add,beq_self_eq_true,Bool.and_self,g1,g2,List.length_append]
theorem once30 (t:ByteArray) (b1 b2 b3 b4:List ByteArray) (fl:Int) (hb:b3.length≤1000):∃ c:List ByteArray,q23v t b1.length b2.length b3.length b4.length fl b1 b2 b3 b4=some ((),((),((b1.length,(b2.length,(c.length,(b4.length,fl)))),(b1,(b2,(c,b4))))))∧c.length≤b3.length+1∧0<c.length:=by
 obtain ⟨b,h1,h2⟩:=q249 b3 t (by omega)
 have g1:decide ((b3.length+1+(b3.length+1) / 4+192)*16≤281474976710656)=true:=decide_eq_true (by omega)
 have g2:decide (b3.length+1≤9223372036854775807)=true:=decide_eq_true (by omega)
 cases b with
 |true =>
  refine ⟨b3,q23x ?_,by omega,h2 rfl⟩
  simp only [q241,q26i,q26z,EC.decL_encL,EC.isL_encL,q268,q26a,if_true,h1,Option.bind_some,Bool.not_true,Bool.false_eq_true,if_false]
 |false =>
  refine ⟨b3++[t],q23x ?_,by simp,by simp⟩
  simp only [q241,q26i,q26z,EC.decL_encL,EC.isL_encL,q268,q26a,if_true,h1,Option.bind_some,Bool.not_false,List.all_cons,List.all_nil,List.length_cons,List.length_nil,Nat.zero_add,beq_self_eq_true,Bool.and_self,g1,g2,List.length_append]
theorem once31 (t:ByteArray) (b1 b2 b3 b4:List ByteArray) (fl:Int) (hb:b4.length≤1000):∃ c:List ByteArray,q242 t b1.length b2.length b3.length b4.length fl b1 b2 b3 b4=some ((),((),((b1.length,(b2.length,(b3.length,(c.length,fl)))),(b1,(b2,(b3,c))))))∧c.length≤b4.length+1∧0<c.length:=by
 obtain ⟨b,h1,h2⟩:=q249 b4 t (by omega)
 have g1:decide ((b4.length+1+(b4.length+1) / 4+192)*16≤281474976710656)=true:=decide_eq_true (by omega)
 have g2:decide (b4.length+1≤9223372036854775807)=true:=decide_eq_true (by omega)
 cases b with
 |true =>
  refine ⟨b4,q244 ?_,by omega,h2 rfl⟩
  simp only [q248,q26i,q26z,EC.decL_encL,EC.isL_encL,q268,q26a,if_true,h1,Option.bind_some,Bool.not_true,Bool.false_eq_true,if_false]
 |false =>
  refine ⟨b4++[t],q244 ?_,by simp,by simp⟩
  simp only [q248,q26i,q26z,EC.decL_encL,EC.isL_encL,q268,q26a,if_true,h1,Option.bind_some,Bool.not_false,List.all_cons,List.all_nil,List.length_cons,List.length_nil,Nat.zero_add,beq_self_eq_true,Bool.and_self,g1,g2,List.length_append]
theorem q24a (l:List S45) (hl:l.length≤900):∀ (m k:Nat) (b1 b2 b3 b4:List ByteArray) (fl:Int),k+m=l.length→b1.length≤k→b2.length≤k→b3.length≤k→b4.length≤k →
  ∃ x,q230 l l.length k 0 0 0 0 0 0 0 b1.length b2.length b3.length b4.length fl [] [] [] [] b1 b2 b3 b4=some x∧x.2.2.2.1.1=x.2.2.2.2.2.2.2.2.1.length∧((0<b1.length∨((l.drop k).any fun a=>kB a.Kind)=true)→0<x.2.2.2.1.1):=by
 intro m
 induction m with
 |zero =>
  intro k b1 b2 b3 b4 fl hk h1 h2 h3 h4
  have hk:k=l.length:=by omega
  subst hk
  refine ⟨(((),((),((),(l,(((l.length:Nat):Int),(((l.length:Nat):Int),false)))))),((0,(0,(0,(0,0)))),((0,0),((b1.length,(b2.length,(b3.length,(b4.length,fl)))),([],([],([],([],(b1,(b2,(b3,b4))))))))))),q232 ?_,rfl,fun h=>?_⟩
  ·simp only [q236,q26i,q26z,EC.decL_encL,EC.isL_encL,EC.encL_length,q275,q3u,q12s,q12t]
   simp
  ·rw [List.drop_length] at h
   rcases h with h|h
   ·exact h
   ·cases h
 |succ m ih =>
  intro k b1 b2 b3 b4 fl hk h1 h2 h3 h4
  have hlt:k<l.length:=by omega
  have e1:decide ((k:Int)<(l.length:Int))=true:=by simp;omega
  have e0:decide ((0:Int)≤(k:Int))=true:=by simp
  have e2:IntKind.i64.wrap ((k:Int)+1)=((k+1:Nat):Int):=q27y hlt (by omega)
  have hd2:decide (k<l.length)=true:=by simp [hlt]
  cases k1:(l[k].Kind==1) with
  |true =>
   obtain ⟨c,c1,c2,c3⟩:=once28 (ByteArray.mk (List.toArray [(105:UInt8),(110:UInt8),(98:UInt8),(111:UInt8),(120:UInt8)])) b1 b2 b3 b4 fl (by omega)
   obtain ⟨x,x1,x2,x3⟩:=ih (k+1) c b2 b3 b4 fl (by omega) (by omega) (by omega) (by omega) (by omega)
   refine ⟨x,q232 ?_,x2,fun h=>x3 ?_⟩
   ·simp only [q236,q26i,q26z,EC.decL_encL,EC.isL_encL,EC.encL_length,q275,q3u,q12s,q12t,e1,e0,if_true,Int.toNat_natCast,hd2,Bool.and_self,qik hlt,k1,c1,Option.bind_some,e2]
    exact x1
   ·exact .inl c3
  |false =>
  cases k2:(l[k].Kind==2) with
  |true =>
   obtain ⟨c,c1,c2,c3⟩:=once28 l[k].Text b1 b2 b3 b4 fl (by omega)
   obtain ⟨x,x1,x2,x3⟩:=ih (k+1) c b2 b3 b4 fl (by omega) (by omega) (by omega) (by omega) (by omega)
   refine ⟨x,q232 ?_,x2,fun h=>x3 ?_⟩
   ·simp only [q236,q26i,q26z,EC.decL_encL,EC.isL_encL,EC.encL_length,q275,q3u,q12s,q12t,e1,e0,if_true,Int.toNat_natCast,hd2,Bool.and_self,qik hlt,k1,k2,Bool.false_eq_true,if_false,c1,Option.bind_some,e2]
    exact x1
   ·exact .inl c3
  |false =>
  cases k4:(l[k].Kind==4) with
  |true =>
   obtain ⟨c,c1,c2,c3⟩:=once29 l[k].Text b1 b2 b3 b4 fl (by omega)
   obtain ⟨x,x1,x2,x3⟩:=ih (k+1) b1 c b3 b4 fl (by omega) (by omega) (by omega) (by omega) (by omega)
   refine ⟨x,q232 ?_,x2,fun h=>x3 ?_⟩
   ·simp only [q236,q26i,q26z,EC.decL_encL,EC.isL_encL,EC.encL_length,q275,q3u,q12s,q12t,e1,e0,if_true,Int.toNat_natCast,hd2,Bool.and_self,qik hlt,k1,k2,k4,Bool.false_eq_true,if_false,c1,Option.bind_some,e2]
    exact x1
   ·rcases h with h|h
    ·exact .inl h
    ·rw [q97 hlt,List.any_cons] at h
     rcases Bool.or_eq_true _ _ |>.mp h with h|h
     ·have:l[k].Kind=4:=by simpa using k4
      rw [this] at h;cases h
     ·exact .inr h
  |false =>
  cases k5:(l[k].Kind==5) with
  |true =>
   obtain ⟨c,c1,c2,c3⟩:=once30 l[k].Text b1 b2 b3 b4 fl (by omega)
   obtain ⟨x,x1,x2,x3⟩:=ih (k+1) b1 b2 c b4 fl (by omega) (by omega) (by omega) (by omega) (by omega)
   refine ⟨x,q232 ?_,x2,fun h=>x3 ?_⟩
   ·simp only [q236,q26i,q26z,EC.decL_encL,EC.isL_encL,EC.encL_length,q275,q3u,q12s,q12t,e1,e0,if_true,Int.toNat_natCast,hd2,Bool.and_self,qik hlt,k1,k2,k4,k5,Bool.false_eq_true,if_false,c1,Option.bind_some,e2]
    exact x1
   ·rcases h with h|h
    ·exact .inl h
    ·rw [q97 hlt,List.any_cons] at h
     rcases Bool.or_eq_true _ _ |>.mp h with h|h
     ·have:l[k].Kind=5:=by simpa using k5
      rw [this] at h;cases h
     ·exact .inr h
  |false =>
  cases k7:(l[k].Kind==7) with
  |true =>
   obtain ⟨c,c1,c2,c3⟩:=once31 l[k].Text b1 b2 b3 b4 fl (by omega)
   obtain ⟨x,x1,x2,x3⟩:=ih (k+1) b1 b2 b3 c fl (by omega) (by omega) (by omega) (by omega) (by omega)
   refine ⟨x,q232 ?_,x2,fun h=>x3 ?_⟩
   ·simp only [q236,q26i,q26z,EC.decL_encL,EC.isL_encL,EC.encL_length,q275,q3u,q12s,q12t,e1,e0,if_true,Int.toNat_natCast,hd2,Bool.and_self,qik hlt,k1,k2,k4,k5,k7,Bool.false_eq_true,if_false,c1,Option.bind_some,e2]
    exact x1
   ·rcases h with h|h
    ·exact .inl h
    ·rw [q97 hlt,List.any_cons] at h
     rcases Bool.or_eq_true _ _ |>.mp h with h|h
     ·have:l[k].Kind=7:=by simpa using k7
      rw [this] at h;cases h
     ·exact .inr h
  |false =>
  have hno:∀ fl':Int,(0<b1.length∨((l.drop k).any fun a=>kB a.Kind)=true)→(0<b1.length∨((l.drop (k+1)).any fun a=>kB a.Kind)=true):=fun _ h=>by
   rcases h with h|h
   ·exact .inl h
   ·rw [q97 hlt,List.any_cons,kB,k1,k2,Bool.or_self,Bool.false_or] at h
    exact .inr h
  cases k6:(l[k].Kind==6) with
  |true =>
   obtain ⟨x,x1,x2,x3⟩:=ih (k+1) b1 b2 b3 b4 (IntKind.wrap .i64 (((BitVec.ofInt (IntKind.bits .i64) fl ||| BitVec.ofInt (IntKind.bits .i64) l[k].N).toNat:Nat):Int)) (by omega) (by omega) (by omega) (by omega) (by omega)
   refine ⟨x,q232 ?_,x2,fun h=>x3 (hno 0 h)⟩
   simp only [q236,q26i,q26z,EC.decL_encL,EC.isL_encL,EC.encL_length,q275,q3u,q12s,q12t,e1,e0,if_true,Int.toNat_natCast,hd2,Bool.and_self,qik hlt,k1,k2,k4,k5,k7,k6,Bool.false_eq_true,if_false,e2]
   exact x1
  |false =>
   obtain ⟨x,x1,x2,x3⟩:=ih (k+1) b1 b2 b3 b4 fl (by omega) (by omega) (by omega) (by omega) (by omega)
   refine ⟨x,q232 ?_,x2,fun h=>x3 (hno 0 h)⟩
   simp only [q236,q26i,q26z,EC.decL_encL,EC.isL_encL,EC.encL_length,q275,q3u,q12s,q12t,e1,e0,if_true,Int.toNat_natCast,hd2,Bool.and_self,qik hlt,k1,k2,k4,k5,k7,k6,Bool.false_eq_true,if_false,e2]
   exact x1
def actV (a:S45):Prop:=a.Text.size≤4000∧1≤a.Kind∧a.Kind≤7∧0≤a.N∧a.N≤63
theorem q25g (l:List S45) (hl:l.length≤900) (hv:∀ a∈l,actV a):∀ m k:Nat,k+m=l.length→q237 l l l.length k 0 0 0 0 0 0 0 [] [] [] []=some (.inr ((l,((),((),(l,(((l.length:Nat):Int),(((l.length:Nat):Int),false)))))),((0,(0,(0,(0,0)))),((0,0),([],([],([],[]))))))):=by
 intro m
 induction m with
 |zero =>
  intro k hk
  have hk:k=l.length:=by omega
  subst hk
  refine q239 ?_
  simp only [q23e,q26i,q26z,qg,EC.decL_encL,EC.isL_encL,EC.encL_length,q275,q3u,q12s,q12t]
  simp
 |succ m ih =>
  intro k hk
  have hlt:k<l.length:=by omega
  have e1:decide ((k:Int)<(l.length:Int))=true:=by simp;omega
  have e0:decide ((0:Int)≤(k:Int))=true:=by simp
  have e2:IntKind.i64.wrap ((k:Int)+1)=((k+1:Nat):Int):=q27y hlt (by omega)
  have hd2:decide (k<l.length)=true:=by simp [hlt]
  obtain ⟨v1,v2,v3,v4,v5⟩:=hv _ (List.getElem_mem hlt)
  have c1:decide (((l[k].Text.size:Nat):Int) > 4000)=false:=decide_eq_false (by omega)
  have c2:decide (l[k].Kind<1)=false:=decide_eq_false (by omega)
  have c3:decide (l[k].Kind > 7)=false:=decide_eq_false (by omega)
  have c4:decide (l[k].N<0)=false:=decide_eq_false (by omega)
  have c5:decide (l[k].N > 63)=false:=decide_eq_false (by omega)
  have hi:=ih (k+1) (by omega)
  refine q239 ?_
  cases k6:(l[k].Kind==6) with
  |true =>
   simp only [q23e,q26i,q26z,qg,EC.decL_encL,EC.isL_encL,EC.encL_length,q275,q3u,q12s,q12t,e1,e0,if_true,Int.toNat_natCast,hd2,Bool.and_self,qik hlt,c1,c2,c3,c4,c5,k6,beq_self_eq_true,Bool.false_eq_true,if_false,e2]
   exact hi
  |false =>
   simp only [q23e,q26i,q26z,qg,EC.decL_encL,EC.isL_encL,EC.encL_length,q275,q3u,q12s,q12t,e1,e0,if_true,Int.toNat_natCast,hd2,Bool.and_self,qik hlt,c1,c2,c3,k6,beq_self_eq_true,Bool.false_eq_true,if_false,show (false==true)=false from rfl,e2]
   exact hi
theorem q24b (l:List S45) (hl:l.length≤300) (hv:∀ a∈l,actV a):∃ x,q23f l=some x∧x.1.2.1=0∧((l.any fun a=>kB a.Kind)=true→0<x.1.1.1):=by
 have h1:=q25g l (by omega) hv l.length 0 (by omega)
 obtain ⟨y,y1,y2,y3⟩:=q24a l (by omega) l.length 0 [] [] [] [] 0 (by omega) (by simp) (by simp) (by simp) (by simp)
 rw [Int.natCast_zero] at h1 y1
 rw [List.drop_zero] at y3
 have c0:decide (((l.length:Nat):Int) > 300)=false:=decide_eq_false (by omega)
 refine ⟨_,q22z (r:=((y.2.2.2.1,(0,0)),y.2.2.2.2.2.2.2.2)) ?_,rfl,fun h=>y3 (.inr h)⟩
 simp only [List.length_nil] at y1
 simp only [q23g,q26i,q26z,qg,EC.decL_encL,EC.isL_encL,EC.encL_length,c0,Bool.false_eq_true,if_false,if_true,h1,Option.bind_some,Sum.elim_inr,y1,none_s]
theorem act_ok {r:S50} (h:rHead r=0) (hk:r.Kind=2):1≤r.Act∧r.Act≤7∧0≤r.N∧r.N≤63:=by
 unfold rHead at h
 split at h
 ·cases h
 split at h
 ·rename_i h1
  have:r.Kind=1:=by simpa using h1
  omega
 ·unfold pHead at h
  split at h
  ·cases h
  split at h
  ·cases h
  rename_i h2
  split at h
  ·cases h
  split at h
  ·cases h
  split at h
  ·cases h
  split at h
  ·cases h
  rename_i h6
  rw [hk] at h2
  simp at h2 h6
  omega
theorem q24c (f:ByteArray) (rc:List S118) (fs:List S55) (sz:Int):∀ (q:Nat) (s:List S50),szL s=q→okvL s→∀ (i:Int) (m:MM) (a:List S45) (st:List S62),(∀ x∈a,actV x)→∀ x∈(exL f rc fs sz s i m a st).2.2.1,actV x:=by
 intro q
 induction q using Nat.strongRecOn with
 |_ q ihq =>
  intro s
  induction s with
  |nil=>intro _ _ i m a st ha;rw [exL];exact ha
  |cons r l ihl =>
   intro hq hv i m a st ha
   have hsz:szR r+szL l=q:=by simpa [szL] using hq
   have hr:=q27t r
   obtain ⟨hh,hvt,hve⟩:=okvR hv (List.mem_cons_self ..)
   have hR:∀ x∈(exR f rc fs sz r i m a st).2.2.1,actV x:=by
    rw [exR_eq]
    split
    ·split
     ·exact ihq _ (by omega) r.Then rfl hvt _ _ _ _ ha
     ·exact ihq _ (by omega) r.Else rfl hve _ _ _ _ ha
    ·split
     ·rename_i h2
      intro x hx
      rcases List.mem_append.1 hx with hx|hx
      ·exact ha x hx
      ·rw [List.mem_singleton.1 hx]
       obtain ⟨a1,a2,a3,a4⟩:=act_ok hh h2
       exact ⟨qef m r.Text,a1,a2,a3,a4⟩
     ·split
      ·exact ha
      ·exact ha
   rw [exL]
   split
   ·exact ihq _ (by omega) l rfl (q16j hv) _ _ _ _ hR
   ·exact hR
theorem q24s {s:List S50} {f:ByteArray} {rc:List S118} {e:ByteArray} {fs:List S55} {bd:List Int}:∀ x∈runA s f rc e fs bd,actV x:=by
 unfold runA
 by_cases hF:(runF s f rc e fs bd).1=0
 ·rw [if_neg (by simp [hF])]
  obtain ⟨g1,_,_⟩:=runF_0 hF
  have h:=q24c f rc fs (((msgF fs bd).1.1:Nat):Int) _ s rfl (val_ok g1).1 0 [] [] [] (fun x hx=>by cases hx)
  have h:∀ x∈(theRun s f rc fs bd).2.2.1,actV x:=h
  unfold finA
  split
  ·exact h
  ·intro x hx
   rcases List.mem_append.1 hx with hx|hx
   ·exact h x hx
   ·rw [List.mem_singleton.1 hx]
    exact ⟨Nat.zero_le _,by decide,by decide,by decide,by decide⟩
 ·rw [if_pos hF]
  intro x hx;cases hx
theorem appliedLaw {s:List S50} {f:ByteArray} {rc:List S118} {bd:List Int} (hs:SOk s) (h:MOk s f rc bd) (e:ByteArray) (fs:List S55) :
  q24q s f rc e fs bd=some true:=by
 have hk:=q1fg hs
 have hx:=run_s h e fs
 obtain ⟨y,y1,y2,y3⟩:=q24b (runA s f rc e fs bd) (Nat.le_trans runA_len' (by omega)) q24s
 have c2:(y.1.2.1==0)=true:=by simpa using y2
 refine q24p ?_
 simp only [q24r,q26i,q26z,EC.decL_encL,EC.isL_encL,if_true,hk,hx,Option.bind_some]
 by_cases h0:(faultK s).1=0
 ·have c0:((faultK s).1 != 0)=false:=by simpa using h0
  by_cases hF:(runF s f rc e fs bd).1=0
  ·have c1:((runF s f rc e fs bd).1 != 0)=false:=by simpa using hF
   cases hkk:keepsF s with
   |false=>simp only [c0,c1,beq_self_eq_true,if_true,Bool.false_eq_true,if_false,y1,Option.bind_some,c2,Bool.false_and,Bool.not_false,show (true==false)=false from rfl]
   |true =>
    have hd:decide ((faultK s).1=0)=true:=decide_eq_true h0
    have hpos:=y3 (q1fh (tried hs h0).1 h0 hkk hF)
    have c3:decide (((y.1.1.1:Nat):Int) > 0)=true:=decide_eq_true (by omega)
    simp only [c0,c1,hd,beq_self_eq_true,if_true,Bool.true_and,Bool.not_true,Bool.false_eq_true,if_false,y1,Option.bind_some,c2,c3]
  ·have c1:((runF s f rc e fs bd).1 != 0)=true:=by simpa using hF
   simp only [c0,c1,beq_self_eq_true,if_true]
 ·have c0:((faultK s).1 != 0)=true:=by simpa using h0
  simp only [c0,show (true==false)=false from rfl,Bool.false_eq_true,if_false]
end Go.Proofs.YtokahibbkdbndaaGreatDoor
namespace Go.Proofs.YtokahibbkdbndaaGreatDoor
open Go.ChangeShapes Go.WideShapes Go.ChangeAt Go.RowKit Go.Deep
theorem qm:ownKnob Tryz.prog.godebug=none:=by kernel_rfl
theorem ql:laidOutB Tryz.prog=true:=by kernel_rfl
section
variable {H:Type} {enc:TypeId × Value→H} {P:Program}
theorem q119 (hl:laidOutB P=true) {W W':World} (hb:Bel W W'):∀ {ts:List TypeId} {vs:List Value} {ds:List (DataW H)} {ps:List MemPlace},ts.all (fun t=>P.readableRec t&&decide (t<P.types.size))=true →
  DataW.TrodAll enc P W 0 (fun _=>true) true ts vs ds ps→(∀ x∈ps,x.block<W.heap.size)→DataW.TrodAll enc P W' 0 (fun b=>decide (b<W.heap.size)) true ts vs ds ps
 |[],[],[],_,_,h,_=>h
 |[],[],_::_,_,_,h,_=>h.elim
 |[],_::_,_,_,_,h,_=>h.elim
 |_::_,[],_,_,_,h,_=>h.elim
 |_::_,_::_,[],_,_,h,_=>h.elim
 |t::ts,v::vs,d::ds,ps,hr,h,hlt=>by
  obtain ⟨p,q,h1,h2,rfl⟩:=h
  simp only [List.all_cons,Bool.and_eq_true,decide_eq_true_eq] at hr
  exact ⟨p,q,Below.trod hl hr.1.1 hr.1.2 h1 hb (fun x hx=>hlt x (List.mem_append_left _ hx)),q119 hl hb hr.2 h2 (fun x hx=>hlt x (List.mem_append_right _ hx)),rfl⟩
theorem qmf {fn:Func} {s:ChangeSpec} {W W':World} {args:Array Value} {ds gs:List (DataW H)} {before:List MemPlace} {tb:TypeId} (hl:laidOutB P=true)
  (hr:fn.params.toList.all (fun t=>P.readableRec t&&decide (t<P.types.size))=true) (hrt:fn.resultTypes=#[tb]) (htb:P.underlying tb=some .bool) (hvars:s.vars=[])
  (hfn:s.fn H ds={ results:=[.lit (.bool true)],args:=ds })
  (hW:DataW.Whole enc P fn.params.toList s.vars false W args.toList ds gs before) (hb:Bel W W'):s.post enc P fn false true false false W args (.bool true) W':=by
 have hW':=hW
 have hlt:∀ x∈before,x.block<W.heap.size:=fun x hx=>hW.lt x hx
 obtain ⟨p,q,hA,hV,rfl,hfz,hnd⟩:=hW
 rw [hvars] at hV
 obtain ⟨rfl,rfl⟩:=trodVars_none hV
 have e:s.fn H (ds++[])={ results:=[.lit (.bool true)],args:=ds }:=by rw [List.append_nil];exact hfn
 refine ⟨ds,[],p++[],[],p,[],hW',?_,?_,?_,hb.frame _,fun h=>by cases h⟩
 ·rw [e,hrt]
  exact trodAll_mk1 (shut_bool htb true)
 ·rw [e]
  exact q119 hl hb hr hA (fun x hx=>hlt x (by simpa using hx))
 ·rw [e,hvars]
  rfl
end
end Go.Proofs.YtokahibbkdbndaaGreatDoor
