/- Functions of the program as plain functions: made by program from the machine. -/
import Derived.Test.YtmacbkjehjbjeaaGreatDoorZ25
import Derived.Test.YtmacbkjehjbjeaaGreatDoorZ01
import Derived.Test.YtmacbkjehjbjeaaGreatDoorChecked
import Derived.ProofKit
import Derived.OpenShut
import Derived.JoinedCond
import Derived.Deep.Slices
import Derived.Deep.Fields
import Derived.Lib.SmallJoins
import Derived.Test.YtmacbkjehjbjeaaGreatDoorRows
namespace Go.Proofs.YtmacbkjehjbjeaaGreatDoor
open Go.RowKit
set_option maxRecDepth 100000
noncomputable section
def q19g:=(qjl (vAgg (qjl (vC cStr) (qjl (vC (cSl q181)) (qjl (vC cStr) (qjl (vC (cSl q9j)) (qjn (vC (cSl q9i)))))))) (qjl (vC cStr) (qjl (vC cStr) (qjn (vC (cInt .i64))))))
def q19p:=sLS [1,2,3,4,9,10,11,12,13] (qjl (vC cStr) (qjl (vC cStr) (qjl (vC (cInt .i64)) (qjl (vPtr 0 0) (qjl (vC (cSl q9h)) (qjl (vC (cSl q9h)) (qjl (vC cStr) (qjl (vC (cInt .i64)) (qjn (vC (cInt .i64))))))))))) (qjn (qmx (bBox (qjl (vC cStr) (qjl (vC (cSl q181)) (qjl (vC cStr) (qjl (vC (cSl q9j)) (qjn (vC (cSl q9i)))))))))) [true] [] (by decide) (fun _=>rfl)
def q19n:=sLS [1,2,3,4,9,10,11,12,13,21] (qjl (vC cStr) (qjl (vC cStr) (qjl (vC (cInt .i64)) (qjl (vPtr 0 0) (qjl (vC (cSl q9h)) (qjl (vC (cSl q9h)) (qjl (vC cStr) (qjl (vC (cInt .i64)) (qjl (vC (cInt .i64)) (qjn (vC cBool))))))))))) (qjn (qmx (bBox (qjl (vC cStr) (qjl (vC (cSl q181)) (qjl (vC cStr) (qjl (vC (cSl q9j)) (qjn (vC (cSl q9i)))))))))) [true] [] (by decide) (fun _=>rfl)
def q19o:SC ((ByteArray×ByteArray×Int×Unit×(List S44)×(List S44)×ByteArray×Int×Int×Unit×Bool)×((ByteArray×(List S69)×ByteArray×(List S57)×(List Int))×(ByteArray×(List S69)×ByteArray×(List S57)×(List Int)))):=sLS [1,2,3,4,9,10,11,12,13,14,55] (qjl (vC cStr) (qjl (vC cStr) (qjl (vC (cInt .i64)) (qjl (vPtr 0 0) (qjl (vC (cSl q9h)) (qjl (vC (cSl q9h)) (qjl (vC cStr) (qjl (vC (cInt .i64)) (qjl (vC (cInt .i64)) (qjl (vPtr 1 0) (qjn (vC cBool)))))))))))) (qjl (qmx (bBox (qjl (vC cStr) (qjl (vC (cSl q181)) (qjl (vC cStr) (qjl (vC (cSl q9j)) (qjn (vC (cSl q9i))))))))) (qjn (qmx (bBox (qjl (vC cStr) (qjl (vC (cSl q181)) (qjl (vC cStr) (qjl (vC (cSl q9j)) (qjn (vC (cSl q9i))))))))))) [true,false] [] (by decide) (fun _=>rfl)
def q19m:=oOrK 2 [1,2,3,4,9,10,11,12,13,14,55] q19o (oAt 2 q19n) (fun x y=>.inr (st_ne 14 (by decide:(false:Bool)≠true)))
def q19j (me:ByteArray) (text:ByteArray) (now:Int) (mine:(List S44)) (theirs:(List S44)) (from_:ByteArray) (count:Int) (n:Int) (b0:ByteArray) (b0_1:(List S69)) (b0_2:ByteArray) (b0_3:(List S57)) (b0_4:(List Int)):Option (((ByteArray×ByteArray×Int×Unit×(List S44)×(List S44)×ByteArray×Int×Int×Unit×Bool)×((ByteArray×(List S69)×ByteArray×(List S57)×(List Int))×(ByteArray×(List S69)×ByteArray×(List S57)×(List Int))))⊕((ByteArray×ByteArray×Int×Unit×(List S44)×(List S44)×ByteArray×Int×Int×Bool)×(ByteArray×(List S69)×ByteArray×(List S57)×(List Int)))):=lS Tryz.prog lv X0 3 64 (qg9 (cdF Tryz.f3) 6) q19p q19m ((me,text,now,(),mine,theirs,from_,count,n),(b0,b0_1,b0_2,b0_3,b0_4))
def q19q (me:ByteArray) (text:ByteArray) (now:Int) (mine:(List S44)) (theirs:(List S44)) (from_:ByteArray) (count:Int) (n:Int) (b0:ByteArray) (b0_1:(List S69)) (b0_2:ByteArray) (b0_3:(List S57)) (b0_4:(List Int)):Option (((ByteArray×ByteArray×Int×Unit×(List S44)×(List S44)×ByteArray×Int×Int×Unit×Bool)×((ByteArray×(List S69)×ByteArray×(List S57)×(List Int))×(ByteArray×(List S69)×ByteArray×(List S57)×(List Int))))⊕((ByteArray×ByteArray×Int×Unit×(List S44)×(List S44)×ByteArray×Int×Int×Bool)×(ByteArray×(List S69)×ByteArray×(List S57)×(List Int)))) :=
 (brE (decide (n<6))
 (brE ((Int.tmod n 2)==0)
 (gdE (EC.isL q9h (EC.encL q9h mine))<|
 (gdE (EC.isL q181 (EC.encL q181 b0_1))<|
 (gdE (EC.isL q9j (EC.encL q9j b0_3))<|
 (gdE (EC.isL q9i (EC.encL q9i b0_4))<|
 ((quy (EC.decL q9h (EC.encL q9h mine)) b0 (EC.decL q181 (EC.encL q181 b0_1)) b0_2 (EC.decL q9j (EC.encL q9j b0_3)) (EC.decL q9i (EC.encL q9i b0_4)) me text now).bind fun r0 =>
 (brE ((r0.2.2.2.1 != 0)==false)
 (brE (!r0.2.2.1)
 (gdE (EC.isL q9h (EC.encL q9h r0.1))<|
 (gdE (EC.isL q9h (EC.encL q9h theirs))<|
 (gdE (EC.isL q181 (EC.encL q181 b0_1))<|
 (gdE (EC.isL q9j (EC.encL q9j b0_3))<|
 (gdE (EC.isL q9i (EC.encL q9i b0_4))<|
 (gdE (EC.isL q181 (EC.encL q181 r0.2.1.2.1))<|
 (gdE (EC.isL q9j (EC.encL q9j r0.2.1.2.2.2.1))<|
 (gdE (EC.isL q9i (EC.encL q9i r0.2.1.2.2.2.2))<|
 (some (.inl ((me,(text,(now,((),((EC.decL q9h (EC.encL q9h r0.1)),((EC.decL q9h (EC.encL q9h theirs)),(from_,(count,(n,((),true)))))))))),((b0,((EC.decL q181 (EC.encL q181 b0_1)),(b0_2,((EC.decL q9j (EC.encL q9j b0_3)),(EC.decL q9i (EC.encL q9i b0_4)))))),(r0.2.1.1,((EC.decL q181 (EC.encL q181 r0.2.1.2.1)),(r0.2.1.2.2.1,((EC.decL q9j (EC.encL q9j r0.2.1.2.2.2.1)),(EC.decL q9i (EC.encL q9i r0.2.1.2.2.2.2))))))))))))))))))
 (gdE (EC.isL q9h (EC.encL q9h r0.1))<|
 (gdE (EC.isL q9h (EC.encL q9h theirs))<|
 (gdE (EC.isL q181 (EC.encL q181 r0.2.1.2.1))<|
 (gdE (EC.isL q9j (EC.encL q9j r0.2.1.2.2.2.1))<|
 (gdE (EC.isL q9i (EC.encL q9i r0.2.1.2.2.2.2))<|
 (q19j me text now (EC.decL q9h (EC.encL q9h r0.1)) (EC.decL q9h (EC.encL q9h theirs)) from_ (IntKind.wrap .i64 (count+1)) (IntKind.wrap .i64 (n+1)) r0.2.1.1 (EC.decL q181 (EC.encL q181 r0.2.1.2.1)) r0.2.1.2.2.1 (EC.decL q9j (EC.encL q9j r0.2.1.2.2.2.1)) (EC.decL q9i (EC.encL q9i r0.2.1.2.2.2.2)))))))))
 (gdE (EC.isL q9h (EC.encL q9h r0.1))<|
 (gdE (EC.isL q9h (EC.encL q9h theirs))<|
 (gdE (EC.isL q181 (EC.encL q181 b0_1))<|
 (gdE (EC.isL q9j (EC.encL q9j b0_3))<|
 (gdE (EC.isL q9i (EC.encL q9i b0_4))<|
 (gdE (EC.isL q181 (EC.encL q181 r0.2.1.2.1))<|
 (gdE (EC.isL q9j (EC.encL q9j r0.2.1.2.2.2.1))<|
 (gdE (EC.isL q9i (EC.encL q9i r0.2.1.2.2.2.2))<|
 (some (.inl ((me,(text,(now,((),((EC.decL q9h (EC.encL q9h r0.1)),((EC.decL q9h (EC.encL q9h theirs)),(from_,(count,(n,((),true)))))))))),((b0,((EC.decL q181 (EC.encL q181 b0_1)),(b0_2,((EC.decL q9j (EC.encL q9j b0_3)),(EC.decL q9i (EC.encL q9i b0_4)))))),(r0.2.1.1,((EC.decL q181 (EC.encL q181 r0.2.1.2.1)),(r0.2.1.2.2.1,((EC.decL q9j (EC.encL q9j r0.2.1.2.2.2.1)),(EC.decL q9i (EC.encL q9i r0.2.1.2.2.2.2))))))))))))))))))))))))
 (gdE (EC.isL q9h (EC.encL q9h theirs))<|
 (gdE (EC.isL q181 (EC.encL q181 b0_1))<|
 (gdE (EC.isL q9j (EC.encL q9j b0_3))<|
 (gdE (EC.isL q9i (EC.encL q9i b0_4))<|
 ((quy (EC.decL q9h (EC.encL q9h theirs)) b0 (EC.decL q181 (EC.encL q181 b0_1)) b0_2 (EC.decL q9j (EC.encL q9j b0_3)) (EC.decL q9i (EC.encL q9i b0_4)) from_ text now).bind fun r0 =>
 (brE ((r0.2.2.2.1 != 0)==false)
 (brE (!r0.2.2.1)
 (gdE (EC.isL q9h (EC.encL q9h mine))<|
 (gdE (EC.isL q9h (EC.encL q9h r0.1))<|
 (gdE (EC.isL q181 (EC.encL q181 b0_1))<|
 (gdE (EC.isL q9j (EC.encL q9j b0_3))<|
 (gdE (EC.isL q9i (EC.encL q9i b0_4))<|
 (gdE (EC.isL q181 (EC.encL q181 r0.2.1.2.1))<|
 (gdE (EC.isL q9j (EC.encL q9j r0.2.1.2.2.2.1))<|
 (gdE (EC.isL q9i (EC.encL q9i r0.2.1.2.2.2.2))<|
 (some (.inl ((me,(text,(now,((),((EC.decL q9h (EC.encL q9h mine)),((EC.decL q9h (EC.encL q9h r0.1)),(from_,(count,(n,((),true)))))))))),((b0,((EC.decL q181 (EC.encL q181 b0_1)),(b0_2,((EC.decL q9j (EC.encL q9j b0_3)),(EC.decL q9i (EC.encL q9i b0_4)))))),(r0.2.1.1,((EC.decL q181 (EC.encL q181 r0.2.1.2.1)),(r0.2.1.2.2.1,((EC.decL q9j (EC.encL q9j r0.2.1.2.2.2.1)),(EC.decL q9i (EC.encL q9i r0.2.1.2.2.2.2))))))))))))))))))
 (gdE (EC.isL q9h (EC.encL q9h mine))<|
 (gdE (EC.isL q9h (EC.encL q9h r0.1))<|
 (gdE (EC.isL q181 (EC.encL q181 r0.2.1.2.1))<|
 (gdE (EC.isL q9j (EC.encL q9j r0.2.1.2.2.2.1))<|
 (gdE (EC.isL q9i (EC.encL q9i r0.2.1.2.2.2.2))<|
 (q19j me text now (EC.decL q9h (EC.encL q9h mine)) (EC.decL q9h (EC.encL q9h r0.1)) from_ (IntKind.wrap .i64 (count+1)) (IntKind.wrap .i64 (n+1)) r0.2.1.1 (EC.decL q181 (EC.encL q181 r0.2.1.2.1)) r0.2.1.2.2.1 (EC.decL q9j (EC.encL q9j r0.2.1.2.2.2.1)) (EC.decL q9i (EC.encL q9i r0.2.1.2.2.2.2)))))))))
 (gdE (EC.isL q9h (EC.encL q9h mine))<|
 (gdE (EC.isL q9h (EC.encL q9h r0.1))<|
 (gdE (EC.isL q181 (EC.encL q181 b0_1))<|
 (gdE (EC.isL q9j (EC.encL q9j b0_3))<|
 (gdE (EC.isL q9i (EC.encL q9i b0_4))<|
 (gdE (EC.isL q181 (EC.encL q181 r0.2.1.2.1))<|
 (gdE (EC.isL q9j (EC.encL q9j r0.2.1.2.2.2.1))<|
 (gdE (EC.isL q9i (EC.encL q9i r0.2.1.2.2.2.2))<|
 (some (.inl ((me,(text,(now,((),((EC.decL q9h (EC.encL q9h mine)),((EC.decL q9h (EC.encL q9h r0.1)),(from_,(count,(n,((),true)))))))))),((b0,((EC.decL q181 (EC.encL q181 b0_1)),(b0_2,((EC.decL q9j (EC.encL q9j b0_3)),(EC.decL q9i (EC.encL q9i b0_4)))))),(r0.2.1.1,((EC.decL q181 (EC.encL q181 r0.2.1.2.1)),(r0.2.1.2.2.1,((EC.decL q9j (EC.encL q9j r0.2.1.2.2.2.1)),(EC.decL q9i (EC.encL q9i r0.2.1.2.2.2.2)))))))))))))))))))))))))
 (gdE (EC.isL q9h (EC.encL q9h mine))<|
 (gdE (EC.isL q9h (EC.encL q9h theirs))<|
 (gdE (EC.isL q181 (EC.encL q181 b0_1))<|
 (gdE (EC.isL q9j (EC.encL q9j b0_3))<|
 (gdE (EC.isL q9i (EC.encL q9i b0_4))<|
 (some (.inr ((me,(text,(now,((),((EC.decL q9h (EC.encL q9h mine)),((EC.decL q9h (EC.encL q9h theirs)),(from_,(count,(n,false))))))))),(b0,((EC.decL q181 (EC.encL q181 b0_1)),(b0_2,((EC.decL q9j (EC.encL q9j b0_3)),(EC.decL q9i (EC.encL q9i b0_4)))))))))))))))
theorem q19l {me text now mine theirs from_ count n b0 b0_1 b0_2 b0_3 b0_4 r} (h:q19q me text now mine theirs from_ count n b0 b0_1 b0_2 b0_3 b0_4=some r):q19j me text now mine theirs from_ count n b0 b0_1 b0_2 b0_3 b0_4=some r :=
 qjp (es:=tabk) (hs:=[]) [] (by kernel_rfl) trivial trivial (by kernel_rfl) h
def q19k:=qk9 Tryz.prog lv X0 6 (qg9 (cdF Tryz.f3) 6) q19p q19m (fun x=>q19j x.1.1 x.1.2.1 x.1.2.2.1 x.1.2.2.2.2.1 x.1.2.2.2.2.2.1 x.1.2.2.2.2.2.2.1 x.1.2.2.2.2.2.2.2.1 x.1.2.2.2.2.2.2.2.2 x.2.1 x.2.2.1 x.2.2.2.1 x.2.2.2.2.1 x.2.2.2.2.2) (fun _ _ h=>qjo h)
def q19h:Cod (V×List B) Bool:=(cFstU (cPair (vC cBool) qjm))
def q19r (m_Envelope_From:ByteArray) (m_Envelope_To:(List S69)) (m_Envelope_Id:ByteArray) (m_Message_Fields:(List S57)) (m_Message_Body:(List Int)) (me:ByteArray) (text:ByteArray) (now:Int):Option Bool:=fS Tryz.prog lv X0 3 q19g q19h ((m_Envelope_From,m_Envelope_To,m_Envelope_Id,m_Message_Fields,m_Message_Body),me,text,now)
def q19s (m_Envelope_From:ByteArray) (m_Envelope_To:(List S69)) (m_Envelope_Id:ByteArray) (m_Message_Fields:(List S57)) (m_Message_Body:(List Int)) (me:ByteArray) (text:ByteArray) (now:Int):Option Bool :=
 (gdE (EC.isL q181 (EC.encL q181 m_Envelope_To))<|
 (gdE (EC.isL q9j (EC.encL q9j m_Message_Fields))<|
 (gdE (EC.isL q9i (EC.encL q9i m_Message_Body))<|
 ((q19j me text now (EC.decL q9h []) (EC.decL q9h []) m_Envelope_From 0 0 m_Envelope_From (EC.decL q181 (EC.encL q181 m_Envelope_To)) m_Envelope_Id (EC.decL q9j (EC.encL q9j m_Message_Fields)) (EC.decL q9i (EC.encL q9i m_Message_Body))).bind fun r0 =>
 (Sum.elim (fun r1=>(brE ((decide (r1.1.2.2.2.2.2.2.2.1≤1))==true)
 (some true)
 (some false)))
 (fun r1=>(brE ((decide (r1.1.2.2.2.2.2.2.2.1≤1))==true)
 (some true)
 (some false))) r0)))))
theorem q19i {m_Envelope_From m_Envelope_To m_Envelope_Id m_Message_Fields m_Message_Body me text now r} (h:q19s m_Envelope_From m_Envelope_To m_Envelope_Id m_Message_Fields m_Message_Body me text now=some r):q19r m_Envelope_From m_Envelope_To m_Envelope_Id m_Message_Fields m_Message_Body me text now=some r :=
 qc8 (es:=tabk) (hs:=[]) [q19k] Tryz.func3 rfl (by kernel_rfl) rfl (by kernel_rfl) (by kernel_rfl) ⟨⟨_,rfl,rfl⟩,trivial⟩ trivial (by kernel_rfl) h
end
end Go.Proofs.YtmacbkjehjbjeaaGreatDoor
namespace Go.Proofs.YtmacbkjehjbjeaaGreatDoor
open Go.RowKit
theorem qmu {r:List S44} {fr:ByteArray} {rc:List S69} {i:ByteArray} {f:List S57} {b:List Int} {me t:ByteArray} {now:Int} (hd:(vld r fr rc i f b me t now).1=0→dueB r fr f me now=false) (h0:(ans r fr rc i f b me t now).2.2.2.1=0) :
  (ans r fr rc i f b me t now).2.2.1=false∧(ans r fr rc i f b me t now).1=r∧(vld r fr rc i f b me t now).1=0:=by
 unfold ans at *
 by_cases h1:(vld r fr rc i f b me t now).1≠0
 ·rw [if_pos h1] at h0
  exact absurd h0 h1
 ·rw [if_neg h1,if_pos (hd (by simpa using h1))]
  exact ⟨rfl,rfl,by simpa using h1⟩
theorem q9g {r:List S44} {fr:ByteArray} {f:List S57} {me:ByteArray} {now:Int} (h:automB f=true):dueB r fr f me now=false:=by unfold dueB;rw [h];simp
theorem ans_is {r:List S44} {fr:ByteArray} {rc:List S69} {i:ByteArray} {f:List S57} {b:List Int} {me t:ByteArray} {now:Int} (h:(ans r fr rc i f b me t now).2.2.1=true) :
  (vld r fr rc i f b me t now).1=0∧(ans r fr rc i f b me t now).2.1=repM f fr i me t∧(ans r fr rc i f b me t now).1=(if atB r fr=true then setR r fr now else insR (keepR r now) fr now):=by
 unfold ans at *
 by_cases h1:(vld r fr rc i f b me t now).1≠0
 ·rw [if_pos h1] at h;cases h
 rw [if_neg h1] at h ⊢
 by_cases h2:dueB r fr f me now=false
 ·rw [if_pos h2] at h;cases h
 rw [if_neg h2] at h ⊢
 unfold ansT at *
 by_cases h3:(EV eB [⟨fr,0⟩] (cRep++i)).1≠0
 ·rw [if_pos h3] at h;cases h
 rw [if_neg h3] at h ⊢
 by_cases h4:(MV (repF f fr me) (bodyF t)).1≠0
 ·rw [if_pos h4] at h;cases h
 rw [if_neg h4] at h ⊢
 refine ⟨by simpa using h1,?_⟩
 by_cases h5:atB r fr=true
 ·rw [if_pos h5,if_pos h5];exact ⟨rfl,rfl⟩
 rw [if_neg h5] at h ⊢
 rw [if_neg h5]
 by_cases h6:(keepR r now).length=300
 ·rw [if_pos h6] at h;cases h
 rw [if_neg h6];exact ⟨rfl,rfl⟩
theorem qoi (f:List S57) (fr me:ByteArray):automB (repF f fr me)=true:=by
 unfold automB
 rw [List.any_eq_true]
 refine ⟨autF,?_,by decide +kernel⟩
 unfold repF
 simp
def few (r:((ByteArray×ByteArray×Int×Unit×(List S44)×(List S44)×ByteArray×Int×Int×Unit×Bool)×((ByteArray×(List S69)×ByteArray×(List S57)×(List Int))×(ByteArray×(List S69)×ByteArray×(List S57)×(List Int))))⊕((ByteArray×ByteArray×Int×Unit×(List S44)×(List S44)×ByteArray×Int×Int×Bool)×(ByteArray×(List S69)×ByteArray×(List S57)×(List Int)))):Prop :=
 Sum.elim (fun r1=>r1.1.2.2.2.2.2.2.2.1≤1) (fun r1=>r1.1.2.2.2.2.2.2.2.1≤1) r
theorem q183 {fr:ByteArray} {i:ByteArray} {me t:ByteArray} {now:Int} {f:List S57} (hA:VArg [] eB [⟨fr,0⟩] (cRep++i) (bodyF t) fr) (mine:List S44) :
  Ok (q19j me t now mine [] fr 1 1 eB [⟨fr,0⟩] (cRep++i) (repF f fr me) (bodyF t)) few:=by
 refine .via q19l ?_
 unfold q19q
 simp only [EC.decL_encL,EC.isL_encL]
 refine qmz (fun _=>qmz (fun h=>absurd h (by decide)) (fun _=>?_)) (fun h=>absurd h (by decide))
 refine qn1 rfl (qn1 rfl (qn1 rfl (qn1 rfl (qmy (qn0 (ans_s hA (repF f fr me) t now)) fun r0 hr0=>?_))))
 refine qmz (fun g=>?_) (fun g=>?_)
 ·have g0:r0.2.2.2.1=0:=by simpa using g
  rw [hr0] at g0
  obtain ⟨h1,_,_⟩:=qmu (fun _=>q9g (qoi f fr me)) g0
  rw [←hr0] at h1
  refine qmz (fun _=>?_) (fun h=>by rw [h1] at h;cases h)
  exact qn1 rfl (qn1 rfl (qn1 rfl (qn1 rfl (qn1 rfl (qn1 rfl (qn1 rfl (qn1 rfl (qn2 (show (1:Int)≤1 by decide)))))))))
 ·exact qn1 rfl (qn1 rfl (qn1 rfl (qn1 rfl (qn1 rfl (qn1 rfl (qn1 rfl (qn1 rfl (qn2 (show (1:Int)≤1 by decide)))))))))
theorem q182 {fr:ByteArray} {rc:List S69} {i:ByteArray} {b:List Int} {me t:ByteArray} {now:Int} (h:VArg [] fr rc i b me) (hi:i.size≤1998000) (_hfr:fr.size≤2000000) (f:List S57) :
  Ok (q19j me t now [] [] fr 0 0 fr rc i f b) few:=by
 refine .via q19l ?_
 unfold q19q
 simp only [EC.decL_encL,EC.isL_encL]
 refine qmz (fun _=>qmz (fun _=>?_) (fun h=>absurd h (by decide))) (fun h=>absurd h (by decide))
 refine qn1 rfl (qn1 rfl (qn1 rfl (qn1 rfl (qmy (qn0 (ans_s h f t now)) fun r0 hr0=>?_))))
 refine qmz (fun g=>?_) (fun g=>?_)
 ·refine qmz (fun _=>?_) (fun g1=>?_)
  ·exact qn1 rfl (qn1 rfl (qn1 rfl (qn1 rfl (qn1 rfl (qn1 rfl (qn1 rfl (qn1 rfl (qn2 (show (0:Int)≤1 by decide)))))))))
  ·have g2:r0.2.2.1=true:=by simpa using g1
   rw [hr0] at g2
   obtain ⟨h1,h2,_⟩:=ans_is g2
   have v:=(vld_ok h h1).1
   rw [←hr0] at h2
   rw [h2]
   have hr6:(cRep++i).size≤1999000:=by rw [ByteArray.size_append];have:cRep.size=6:=rfl;omega
   have A:VArg [] eB [⟨fr,0⟩] (cRep++i) (bodyF t) fr:=⟨(fun x hx=>by cases hx),(by decide),(by simp),fun y hy=>(by
    have:y=⟨fr,0⟩:=by simpa using hy
    rw [this];exact h.hfr),hr6,q6h t v.txt,h.hfr⟩
   exact qn1 rfl (qn1 rfl (qn1 rfl (qn1 rfl (qn1 rfl (q183 A _)))))
 ·exact qn1 rfl (qn1 rfl (qn1 rfl (qn1 rfl (qn1 rfl (qn1 rfl (qn1 rfl (qn1 rfl (qn2 (show (0:Int)≤1 by decide)))))))))
theorem q18y {fr:ByteArray} {rc:List S69} {i:ByteArray} {b:List Int} {me:ByteArray} (h:VArg [] fr rc i b me) (hi:i.size≤1998000) (f:List S57) (t:ByteArray) (now:Int) :
  q19r fr rc i f b me t now=some true:=q19i (by
 unfold q19s
 refine keyO _ _ ?_
 simp only [EC.decL_encL,EC.isL_encL,qe]
 refine qn1 rfl (qn1 rfl (qn1 rfl (qmy (q182 h hi h.hfr f) fun r0 hr0=>?_)))
 cases r0 with
 |inl r1=>exact qmz (fun _=>qn2 rfl) (fun g=>absurd hr0 (by
   have:¬ (r1.1.2.2.2.2.2.2.2.1≤1):=by simpa using g
   exact this))
 |inr r1=>exact qmz (fun _=>qn2 rfl) (fun g=>absurd hr0 (by
   have:¬ (r1.1.2.2.2.2.2.2.2.1≤1):=by simpa using g
   exact this)))
end Go.Proofs.YtmacbkjehjbjeaaGreatDoor
namespace Go.Proofs.YtmacbkjehjbjeaaGreatDoor
open Go.ChangeShapes Go.WideShapes Go.ChangeAt Go.RowKit Go.Deep
theorem ql:ownKnob Tryz.prog.godebug=none:=by kernel_rfl
theorem qk:laidOutB Tryz.prog=true:=by kernel_rfl
section
variable {H:Type} {enc:TypeId×Value→H} {P:Program}
theorem quj (hl:laidOutB P=true) {W W':World} (hb:Bel W W'):∀ {ts:List TypeId} {vs:List Value} {ds:List (DataW H)} {ps:List MemPlace},ts.all (fun t=>P.readableRec t&&decide (t<P.types.size))=true →
  DataW.TrodAll enc P W 0 (fun _=>true) true ts vs ds ps→(∀ x∈ps,x.block<W.heap.size)→DataW.TrodAll enc P W' 0 (fun b=>decide (b<W.heap.size)) true ts vs ds ps
 |[],[],[],_,_,h,_=>h
 |[],[],_::_,_,_,h,_=>h.elim
 |[],_::_,_,_,_,h,_=>h.elim
 |_::_,[],_,_,_,h,_=>h.elim
 |_::_,_::_,[],_,_,h,_=>h.elim
 |t::ts,v::vs,d::ds,ps,hr,h,hlt=>by
  obtain ⟨p,q,h1,h2,rfl⟩:=h
  simp only [List.all_cons,Bool.and_eq_true,decide_eq_true_eq] at hr
  exact ⟨p,q,Below.trod hl hr.1.1 hr.1.2 h1 hb (fun x hx=>hlt x (List.mem_append_left _ hx)),quj hl hb hr.2 h2 (fun x hx=>hlt x (List.mem_append_right _ hx)),rfl⟩
theorem qk0 {fn:Func} {s:ChangeSpec} {W W':World} {args:Array Value} {ds gs:List (DataW H)} {before:List MemPlace} {tb:TypeId} (hl:laidOutB P=true)
  (hr:fn.params.toList.all (fun t=>P.readableRec t&&decide (t<P.types.size))=true) (hrt:fn.resultTypes=#[tb]) (htb:P.underlying tb=some .bool) (hvars:s.vars=[])
  (hfn:s.fn H ds={ results:=[.lit (.bool true)],args:=ds })
  (hW:DataW.Whole enc P fn.params.toList s.vars false W args.toList ds gs before) (hb:Bel W W'):s.post enc P fn false true false false W args (.bool true) W':=by
 have hW':=hW
 have hlt:∀ x∈before,x.block<W.heap.size:=fun x hx=>hW.lt x hx
 obtain ⟨p,q,hA,hV,rfl,hfz,hnd⟩:=hW
 rw [hvars] at hV
 obtain ⟨rfl,rfl⟩:=trodVars_none hV
 have e:s.fn H (ds++[])={ results:=[.lit (.bool true)],args:=ds }:=by rw [List.append_nil];exact hfn
 refine ⟨ds,[],p++[],[],p,[],hW',?_,?_,?_,hb.frame _,fun h=>by cases h⟩
 ·rw [e,hrt]
  exact trodAll_mk1 (shut_bool htb true)
 ·rw [e]
  exact quj hl hb hr hA (fun x hx=>hlt x (by simpa using hx))
 ·rw [e,hvars]
  rfl
end
theorem q71 {H:Type} (d:DataW H):1≤Rows.uptoBulk d:=by
 cases d with
 |lit l=>cases l <;> simp [Rows.uptoBulk]
 |nil=>simp [Rows.uptoBulk]
 |ptr d=>simp [Rows.uptoBulk]
 |slice elems spare=>simp [Rows.uptoBulk]
 |agg parts=>simp [Rows.uptoBulk]
 |iface t d=>simp [Rows.uptoBulk]
 |map entries=>simp [Rows.uptoBulk]
 |held h=>simp [Rows.uptoBulk]
theorem q6z {H:Type}:∀ l:List (DataW H),l.length≤Rows.uptoBulkAll l
 |[]=>by simp
 |x::r=>by have:=q71 x;have:=q6z r;simp only [Rows.uptoBulkAll,List.length_cons];omega
theorem q70 {H:Type} {d:DataW H}:∀ {l:List (DataW H)},d∈l→Rows.uptoBulk d≤Rows.uptoBulkAll l
 |x::r,h=>by
  simp only [Rows.uptoBulkAll]
  rcases List.mem_cons.1 h with rfl|h
  ·omega
  ·have:=q70 h;omega
theorem q72 {H:Type} {l:List (DataW H)} (hk:Rows.uptoSmall H l=true):Rows.uptoBulkAll l≤1048576:=of_decide_eq_true hk
def Zw (w:World):ZMap:=fun b o=>w.cell? ⟨b,o,none⟩
def RepL (Z:ZMap):List Value→List C→Prop
 |[],[]=>True
 |u::us,x::xs=>RepC Z u x∧RepL Z us xs
 |_,_=>False
theorem RepL.len {Z:ZMap}:∀ {us:List Value} {xs:List C},RepL Z us xs→us.length=xs.length
 |[],[],_=>rfl
 |u::us,x::xs,h=>by simp [RepL.len h.2]
 |[],_::_,h=>h.elim
 |_::_,[],h=>h.elim
theorem RepL.get {Z:ZMap}:∀ {us:List Value} {xs:List C},RepL Z us xs→∀ (i:Nat) u x,us[i]?=some u→xs[i]?=some x→RepC Z u x
 |[],[],_,i,u,x,h,_=>by simp at h
 |u::us,x::xs,h,i,u',x',h1,h2=>by
  cases i with
  |zero=>simp at h1 h2;subst h1 h2;exact h.1
  |succ i=>simp at h1 h2;exact RepL.get h.2 i u' x' h1 h2
 |[],_::_,h,_,_,_,_,_=>h.elim
 |_::_,[],h,_,_,_,_,_=>h.elim
theorem RepL.agg {Z Y:ZMap} {m:Nat→Option Value} {us:List Value} {xs:List C} (h:RepL Z us xs):Rep Z Y m (.agg us.toArray) (.agg (xs.map .c)):=by
 refine .agg _ _ (by simp [h.len]) ?_ ?_
 ·intro u hu
  obtain ⟨i,hi,rfl⟩:=List.getElem_of_mem (by simpa using hu)
  have hx:i<xs.length:=by rw [←h.len];exact hi
  exact (h.get i _ _ (List.getElem?_eq_getElem hi) (List.getElem?_eq_getElem hx)).one
 ·intro i u x hu hx
  rw [List.getElem?_map] at hx
  cases hy:xs[i]? with
  |none=>rw [hy] at hx;cases hx
  |some y =>
   rw [hy] at hx
   injection hx with hx;subst hx
   exact .c (h.get i u y (by simpa using hu) hy)
theorem qcx {α:Type} {k:Nat}:∀ {css:List (List α)},(∀ cs∈css,cs.length=k)→∀ (i j:Nat) cs,css[i]?=some cs→j<k→css.flatten[i*k+j]?=cs[j]?
 |[],_,i,j,cs,h,_=>by simp at h
 |c::css,hk,i,j,cs,h,hj=>by
  have hc:c.length=k:=hk c (by simp)
  cases i with
  |zero =>
   simp at h;subst h
   rw [List.flatten_cons,List.getElem?_append_left (by omega)]
   simp
  |succ i =>
   simp at h
   rw [List.flatten_cons,List.getElem?_append_right (by rw [hc,Nat.add_mul];omega),←qcx (fun d hd=>hk d (by simp [hd])) i j cs h hj]
   congr 1
   rw [hc,Nat.add_mul];omega
theorem rd_rep {w:World} {k n c:Nat} {A:Option Addr} {css:List (List Value)} {es:List (List C)} (hr:Rd w k A n c css.flatten) (hn:css.length=n) (hN:A=none→c=0) (hk:0<k) (hcs:∀ cs∈css,cs.length=k) (hl:es.length=css.length)
  (he:∀ (i:Nat) cs e,css[i]?=some cs→es[i]?=some e→RepL (Zw w) cs e):RepC (Zw w) (.slice A n c) (.sl es):=by
 have helen:∀ e∈es,e.length=k:=fun e hm=>by
  obtain ⟨i,hi,rfl⟩:=List.getElem_of_mem hm
  have hx:i<css.length:=by omega
  rw [←(he i _ _ (List.getElem?_eq_getElem hx) (List.getElem?_eq_getElem hi)).len]
  exact hcs _ (List.getElem_mem hx)
 by_cases h0:es=[]
 ·subst h0
  have:n=0:=by rw [←hn,←hl];rfl
  exact .sl A n c k 0 0 (fun _=>.nilFunc) [] (by simp [this]) hr.le hr.2.2.1 (by simp) (by simp) (by simp) (by simp) hN
 ·have hn0:0<n*k:=by
   have:0<es.length:=List.length_pos_iff.2 h0
   exact Nat.mul_pos (by omega) hk
  obtain ⟨b,off,hA,_,hcell⟩:=hr.place hn0
  have hget:∀ (i:Nat) (e:List C) (j:Nat) (x:C),es[i]?=some e→e[j]?=some x→∃ u,css.flatten[i*k+j]?=some u∧RepC (Zw w) u x:=by
   intro i e j x h1 h2
   have hi:i<css.length:=by
    have:=(List.getElem?_eq_some_iff.1 h1).1
    omega
   have hj:j<k:=by
    rw [←helen e (List.mem_of_getElem? h1)]
    exact (List.getElem?_eq_some_iff.1 h2).1
   have hcl:=hcs _ (List.getElem_mem hi)
   have hu:css[i][j]?=some (css[i][j]'(by omega)):=List.getElem?_eq_getElem _
   exact ⟨_,by rw [qcx hcs i j css[i] (List.getElem?_eq_getElem hi) hj,hu],(he i _ e (List.getElem?_eq_getElem hi) h1).get j _ x hu h2⟩
  refine .sl A n c k b off (fun j=>(css.flatten[j]?).getD .nilFunc) es (by omega) hr.le hr.2.2.1 helen (fun _=>hA) ?_ ?_ hN
  ·intro i e j x h1 h2
   obtain ⟨u,hu,_⟩:=hget i e j x h1 h2
   simp only [hu,Option.getD_some]
   exact hcell _ _ hu
  ·intro i e j x h1 h2
   obtain ⟨u,hu,hr'⟩:=hget i e j x h1 h2
   simp only [hu,Option.getD_some]
   exact hr'
theorem qmo {H:Type} {enc:TypeId×Value→H} {P:Program} {w:World} {base:Nat} {spare:Nat→Bool} {held:Bool} {t e:TypeId} {fuel n c:Nat} {A:Option Addr} {x:DataW H×List MemPlace} (ht:P.underlying t=some (.slice e))
  (h:DataW.trod enc P w base spare held fuel t [.slice A n c]=some x):A=none→c=0:=by
 intro hA
 subst hA
 rcases open_slice ht h with ⟨hcs,_⟩|⟨a,len,cap,m,n',D,Pl,hcs,_⟩
 ·injection hcs with hcs
  injection hcs
 ·injection hcs with hcs
  injection hcs with h1
  cases h1
section
variable {H:Type} {enc:TypeId×Value→H} {P:Program}
theorem qne {w:World} {base:Nat} {spare:Nat→Bool} {held:Bool} {t e:TypeId} {k fuel:Nat} {v:Value} {x:DataW H×List MemPlace} (ht:P.underlying t=some (.slice e)) (hC:P.cellsOf e=k) (hk:0<k)
  (h:DataW.trod enc P w base spare held fuel t [v]=some x) (hone:∀ fuel cs y,Rows.uptoBulk y.1<Rows.uptoBulk x.1→DataW.trod enc P w base spare held fuel e cs=some y→∀ u∈cs,u.oneCell'=true) :
  ∃ A n c css ds,v=.slice A n c∧Rd w k A n c (List.flatten css)∧css.length=n∧ds.length=n∧Rows.uptoBulkAll ds+1≤Rows.uptoBulk x.1∧∀ (i:Nat) cs d,css[i]?=some cs→ds[i]?=some d→cs.length=k∧∃ fuel pl,DataW.trod enc P w base spare held fuel e cs=some (d,pl):=by
 rcases open_slice ht h with ⟨hcs,_⟩|⟨a,len,cap,m,n,D,Pl,hcs,_,hl,hm,hmm,hxx,hi⟩
 ·injection hcs with hcs
  exact ⟨none,0,0,[],[],hcs,Rd.nil,rfl,rfl,by have:=q71 x.1;simp only [Rows.uptoBulkAll];omega,by simp⟩
 ·injection hcs with hcs
  have hlm:len≤m:=by rw [hmm];split <;> omega
  have hsum:Rows.uptoBulkAll ((List.range len).map D)+1≤Rows.uptoBulk x.1:=by rw [hxx];simp only [Rows.uptoBulk];omega
  have hDb:∀ i,i<len→Rows.uptoBulk (D i)<Rows.uptoBulk x.1:=fun i hi'=>by
   have:=q70 (List.mem_map.2 ⟨i,List.mem_range.2 hi',rfl⟩:D i∈(List.range len).map D)
   omega
  have hex:∀ i,i<len→∃ cs',w.cells? base (a.add (i*k)) k=some cs'∧DataW.trod enc P w base spare held n e cs'=some (D i,Pl i):=fun i hi'=>by
   have:=hi i (by omega)
   rwa [hC] at this
  obtain ⟨C,hCC⟩:=choose_lt (α:=List Value) (p:=fun i cs'=>w.cells? base (a.add (i*k)) k=some cs'∧DataW.trod enc P w base spare held n e cs'=some (D i,Pl i)) hex
  have hlen:∀ i,i<len→(C i).length=k:=fun i hi'=>(World.cells?_some (hCC i hi').1).2.1
  have hcell:∀ i,i<len→∀ j,j<k→w.cell? (a.add (i*k+j))=(C i)[j]?:=fun i hi' j hj=>by
   have:=(World.cells?_some (hCC i hi').1).2.2 j hj
   rwa [Go.Deep.add_add] at this
  have hfl:∀ m',m'≤len→(((List.range m').map C).flatten).length=m'*k:=by
   intro m' hm'
   induction m' with
   |zero=>simp
   |succ m' ih =>
    rw [List.range_succ,List.map_append,List.flatten_append,List.length_append,ih (by omega)]
    simp [hlen m' (by omega),Nat.add_mul]
  have hget:∀ m',m'≤len→∀ i j,i<m'→j<k→(((List.range m').map C).flatten)[i*k+j]?=(C i)[j]?:=by
   intro m' hm'
   induction m' with
   |zero=>intro i j hi';omega
   |succ m' ih =>
    intro i j hi' hj
    rw [List.range_succ,List.map_append,List.flatten_append]
    rcases Nat.lt_or_ge i m' with h'|h'
    ·rw [List.getElem?_append_left (by
      rw [hfl m' (by omega)]
      have:(i+1)*k≤m'*k:=Nat.mul_le_mul_right k h'
      rw [Nat.add_mul] at this
      omega)]
     exact ih (by omega) i j h' hj
    ·have:i=m':=by omega
     subst this
     rw [List.getElem?_append_right (by rw [hfl i (by omega)];omega),hfl i (by omega)]
     simp
  refine ⟨some a,len,cap,(List.range len).map C,(List.range len).map D,hcs,⟨by rw [hfl len (Nat.le_refl _)],hl,hm,?_,?_⟩,by simp,by simp,hsum,?_⟩
  ·intro u hu
   obtain ⟨cs,hcs',hu'⟩:=List.mem_flatten.1 hu
   obtain ⟨i,hi',rfl⟩:=List.mem_map.1 hcs'
   exact hone n _ _ (hDb i (by simpa using hi')) (hCC i (by simpa using hi')).2 u hu'
  ·intro hpos
   have hl0:0<len:=Nat.pos_of_mul_pos_right hpos
   have h00:=hcell 0 hl0 0 hk
   have hc0:(C 0)[0]?=some ((C 0)[0]'(by rw [hlen 0 hl0];exact hk)):=List.getElem?_eq_getElem _
   rw [hc0] at h00
   have hadd:(a.add (0*k+0))=a:=by simp [Addr.add]
   rw [hadd] at h00
   obtain ⟨b,off,spot⟩:=a
   have hsp:spot=none:=by
    cases spot with
    |none=>rfl
    |some s =>
     unfold World.cell? at h00
     split at h00 <;> simp at h00
   subst hsp
   refine ⟨b,off,rfl,?_,?_⟩
   ·rcases Nat.lt_or_ge b w.heap.size with hlt|hge
    ·exact hlt
    ·unfold World.cell? at h00
     rw [Array.getElem?_eq_none hge] at h00
     cases h00
   ·intro j u hu
    have hjl:j<len*k:=by
     rw [←hfl len (Nat.le_refl _)]
     rcases Nat.lt_or_ge j ((List.range len).map C).flatten.length with h'|h'
     ·exact h'
     ·rw [List.getElem?_eq_none h'] at hu;cases hu
    have hdm:j / k*k+j % k=j:=by rw [Nat.mul_comm];exact Nat.div_add_mod j k
    have hdl:j / k<len:=(Nat.div_lt_iff_lt_mul hk).2 hjl
    have h1:=hcell (j / k) hdl (j % k) (Nat.mod_lt _ hk)
    have h2:=hget len (Nat.le_refl _) (j / k) (j % k) hdl (Nat.mod_lt _ hk)
    rw [hdm] at h1 h2
    rw [h2] at hu
    rw [hu] at h1
    rw [←h1]
    unfold Addr.add
    split
    ·rename_i h0;subst h0;rfl
    ·rfl
  ·intro i cs d h1 h2
   have hi':i<len:=by
    have:=(List.getElem?_eq_some_iff.1 h1).1
    simpa using this
   rw [List.getElem?_map,List.getElem?_range hi'] at h1 h2
   simp only [Option.map_some,Option.some.injEq] at h1 h2
   subst h1 h2
   exact ⟨hlen i hi',n,_,(hCC i hi').2⟩
end
def All2 {α β:Type} (R:α→β→Prop):List α→List β→Prop
 |[],[]=>True
 |a::l,b::m=>R a b∧All2 R l m
 |_,_=>False
theorem q11 {α β:Type} {R:α→β→Prop}:∀ {l:List α} {m:List β},l.length=m.length→(∀ (i:Nat) a b,l[i]?=some a→m[i]?=some b→R a b)→All2 R l m
 |[],[],_,_=>trivial
 |a::l,b::m,h,hR=>⟨hR 0 a b rfl rfl,q11 (by simpa using h) fun i x y hx hy=>hR (i+1) x y hx hy⟩
 |[],_::_,h,_=>by cases h
 |_::_,[],h,_=>by cases h
theorem qoy {H:Type} {enc:TypeId×Value→H} {w:World} {t e:TypeId} {k fuel:Nat} {v:Value} {x:DataW H×List MemPlace} {τ:Type} (E:EC τ) (R:τ→DataW H→Prop) (ht:Tryz.prog.underlying t=some (.slice e)) (hC:Tryz.prog.cellsOf e=k) (hk:0<k)
  (h:DataW.trod enc Tryz.prog w 0 (fun _=>true) true fuel t [v]=some x)
  (hE:∀ fuel cs y,Rows.uptoBulk y.1<Rows.uptoBulk x.1→DataW.trod enc Tryz.prog w 0 (fun _=>true) true fuel e cs=some y→∃ a:τ,RepL (Zw w) cs (E.enc a)∧R a y.1) :
  ∃ (l:List τ) (ds:List (DataW H)),RepC (Zw w) v (.sl (E.encL l))∧Rows.uptoBulkAll ds+1≤Rows.uptoBulk x.1∧All2 R l ds:=by
 obtain ⟨A,n,c,css,ds,hv,hr,hn,hn',hsum,hcs⟩:=qne ht hC hk h (fun fuel cs y hb hy u hu=>by
  obtain ⟨a,ha,_⟩:=hE fuel cs y hb hy
  obtain ⟨i,hi,rfl⟩:=List.getElem_of_mem hu
  have hx:i<(E.enc a).length:=by rw [←ha.len];exact hi
  exact (ha.get i _ _ (List.getElem?_eq_getElem hi) (List.getElem?_eq_getElem hx)).one)
 subst hv
 haveI:Inhabited τ:=⟨E.dec []⟩
 have hall:∀ i,i<css.length→∃ a:τ,(∀ cs,css[i]?=some cs→RepL (Zw w) cs (E.enc a))∧(∀ d,ds[i]?=some d→R a d):=fun i hi=>by
  have hi':i<ds.length:=by omega
  obtain ⟨_,fuel,pl,hy⟩:=hcs i _ _ (List.getElem?_eq_getElem hi) (List.getElem?_eq_getElem hi')
  have hb:=q70 (List.getElem_mem hi')
  obtain ⟨a,ha,hra⟩:=hE fuel _ _ (by show Rows.uptoBulk ds[i]<_;omega) hy
  exact ⟨a,fun cs h=>by rw [List.getElem?_eq_getElem hi] at h;injection h with h;subst h;exact ha,fun d h=>by rw [List.getElem?_eq_getElem hi'] at h;injection h with h;subst h;exact hra⟩
 obtain ⟨F,hF⟩:=choose_lt (α:=τ) (n:=css.length) hall
 refine ⟨(List.range css.length).map F,ds,rd_rep hr hn (qmo ht h) hk (fun cs hc=>by
  obtain ⟨i,hi,rfl⟩:=List.getElem_of_mem hc
  exact (hcs i _ _ (List.getElem?_eq_getElem hi) (List.getElem?_eq_getElem (show i<ds.length by omega))).1) (by simp [EC.encL]) ?_,hsum,q11 (by simp;omega) ?_⟩
 ·intro i cs e h1 h2
  have hi:i<css.length:=(List.getElem?_eq_some_iff.1 h1).1
  rw [EC.encL,List.getElem?_map,List.getElem?_map,List.getElem?_range hi] at h2
  simp only [Option.map_some,Option.some.injEq] at h2
  subst h2
  exact (hF i hi).1 cs h1
 ·intro i a d h1 h2
  have hi:i<css.length:=by have:=(List.getElem?_eq_some_iff.1 h1).1;simpa using this
  rw [List.getElem?_map,List.getElem?_range hi] at h1
  simp only [Option.map_some,Option.some.injEq] at h1
  subst h1
  exact (hF i hi).2 d h2
end Go.Proofs.YtmacbkjehjbjeaaGreatDoor
