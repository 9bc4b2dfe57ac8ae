/- Functions of the program as plain functions: made by program from the machine. -/
import Derived.Test.YtepmpilapglklaaGreatZ28
namespace Go.Proofs.YtepmpilapglklaaGreat
open Go.RowKit
set_option maxRecDepth 100000
noncomputable section
def qyt:=(qjl (vC (cSl q9h)) (qjl (vAgg (qjl (vC cStr) (qjl (vC (cSl q9k)) (qjl (vC cStr) (qjl (vC (cSl q9j)) (qjn (vC (cSl q9i)))))))) (qjl (vC cStr) (qjl (vC cStr) (qjn (vC (cInt .i64)))))))
def qyu:Cod (V×List B) Bool:=(cFstU (cPair (vC cBool) qjm))
def qyw (r_:(List S44)) (m_Envelope_From:ByteArray) (m_Envelope_To:(List S81)) (m_Envelope_Id:ByteArray) (m_Message_Fields:(List S57)) (m_Message_Body:(List Int)) (me:ByteArray) (text:ByteArray) (now:Int):Option Bool:=fS Tryz.prog lv X0 3 qyt qyu (r_,(m_Envelope_From,m_Envelope_To,m_Envelope_Id,m_Message_Fields,m_Message_Body),me,text,now)
def qyx (r_:(List S44)) (m_Envelope_From:ByteArray) (m_Envelope_To:(List S81)) (m_Envelope_Id:ByteArray) (m_Message_Fields:(List S57)) (m_Message_Body:(List Int)) (me:ByteArray) (text:ByteArray) (now:Int):Option Bool :=
 (gdE (EC.isL q9h (EC.encL q9h r_))<|
 (gdE (EC.isL q9k (EC.encL q9k m_Envelope_To))<|
 (gdE (EC.isL q9j (EC.encL q9j m_Message_Fields))<|
 (gdE (EC.isL q9i (EC.encL q9i m_Message_Body))<|
 ((quy (EC.decL q9h (EC.encL q9h r_)) m_Envelope_From (EC.decL q9k (EC.encL q9k m_Envelope_To)) m_Envelope_Id (EC.decL q9j (EC.encL q9j m_Message_Fields)) (EC.decL q9i (EC.encL q9i m_Message_Body)) me text now).bind fun r0 =>
 (gdE (EC.isL q9h (EC.encL q9h r_))<|
 ((q13r (EC.decL q9h (EC.encL q9h r_))).bind fun r1 =>
 (gdE (EC.isL q9h (EC.encL q9h r_))<|
 ((qvc (EC.decL q9h (EC.encL q9h r_))).bind fun r2 =>
 (brE (!((r2.1==r1.1)&&((r2.2==r1.2)&&true)))
 (some false)
 (brE (r1.1==0)
 (gdE (EC.isL q9j (EC.encL q9j m_Message_Fields))<|
 (gdE (EC.isL q9i (EC.encL q9i m_Message_Body))<|
 ((qlf (EC.decL q9j (EC.encL q9j m_Message_Fields)) (EC.decL q9i (EC.encL q9i m_Message_Body))).bind fun r3 =>
 (brE (r3.1 != 0)
 ((qzg r3.1 (-2)).bind fun r4 =>
 (brE ((r4.1==0)==true)
 (gdE (EC.isL q9h (EC.encL q9h r_))<|
 (gdE (EC.isL q9k (EC.encL q9k m_Envelope_To))<|
 (gdE (EC.isL q9j (EC.encL q9j m_Message_Fields))<|
 (gdE (EC.isL q9i (EC.encL q9i m_Message_Body))<|
 ((q12m (EC.decL q9h (EC.encL q9h r_)) m_Envelope_From (EC.decL q9k (EC.encL q9k m_Envelope_To)) m_Envelope_Id (EC.decL q9j (EC.encL q9j m_Message_Fields)) (EC.decL q9i (EC.encL q9i m_Message_Body)) me now).bind fun r5 =>
 (brE r5
 (gdE (EC.isL q9k (EC.encL q9k m_Envelope_To))<|
 (gdE (EC.isL q9j (EC.encL q9j m_Message_Fields))<|
 (gdE (EC.isL q9i (EC.encL q9i m_Message_Body))<|
 ((q14a m_Envelope_From (EC.decL q9k (EC.encL q9k m_Envelope_To)) m_Envelope_Id (EC.decL q9j (EC.encL q9j m_Message_Fields)) (EC.decL q9i (EC.encL q9i m_Message_Body)) me text).bind fun r6 =>
 (gdE (EC.isL q9h (EC.encL q9h r_))<|
 ((q144 (EC.decL q9h (EC.encL q9h r_)) m_Envelope_From now).bind fun r7 =>
 (gdE (EC.isL q9k (EC.encL q9k r6.2.1))<|
 ((qbd r6.1.1 (EC.decL q9k (EC.encL q9k r6.2.1)) r6.1.2.2.1).bind fun r8 =>
 (brE (r8.1 != 0)
 ((qzg r8.1 (-7)).bind fun r9 =>
 (brE (r9.1 != 0)
 (brE (((r0.2.2.2.1==r9.1)&&((r0.2.2.2.2==r9.2)&&true))==true)
 (brE ((!r0.2.2.1)==true)
 (brE (((((List.length (EC.encL q9h r0.1)):Nat):Int)==0)==true)
 (gdE (EC.isL q9k (EC.encL q9k r0.2.1.2.1))<|
 (gdE (EC.isL q9j (EC.encL q9j r0.2.1.2.2.2.1))<|
 (gdE (EC.isL q9i (EC.encL q9i r0.2.1.2.2.2.2))<|
 ((q14o r0.2.1.1 (EC.decL q9k (EC.encL q9k r0.2.1.2.1)) r0.2.1.2.2.1 (EC.decL q9j (EC.encL q9j r0.2.1.2.2.2.1)) (EC.decL q9i (EC.encL q9i r0.2.1.2.2.2.2)) ⟨#[]⟩ (EC.decL q9k []) ⟨#[]⟩ (EC.decL q9j []) (EC.decL q9i [])).bind fun r10 =>
 (brE (r10==true)
 (some true)
 (some false))))))
 (some false))
 (some false))
 (some false))
 (brE ((r0.2.2.2.1==0)==true)
 (brE ((r0.2.2.1==r5)==true)
 (gdE (EC.isL q9h (EC.encL q9h r0.1))<|
 (gdE (EC.isL q9h (EC.encL q9h r7.2))<|
 ((q152 (EC.decL q9h (EC.encL q9h r0.1)) (EC.decL q9h (EC.encL q9h r7.2))).bind fun r10 =>
 (brE (r10==true)
 (gdE (EC.isL q9k (EC.encL q9k r0.2.1.2.1))<|
 (gdE (EC.isL q9j (EC.encL q9j r0.2.1.2.2.2.1))<|
 (gdE (EC.isL q9i (EC.encL q9i r0.2.1.2.2.2.2))<|
 (gdE (EC.isL q9k (EC.encL q9k r6.2.1))<|
 (gdE (EC.isL q9j (EC.encL q9j r6.2.2.1))<|
 (gdE (EC.isL q9i (EC.encL q9i r6.2.2.2))<|
 ((q14o r0.2.1.1 (EC.decL q9k (EC.encL q9k r0.2.1.2.1)) r0.2.1.2.2.1 (EC.decL q9j (EC.encL q9j r0.2.1.2.2.2.1)) (EC.decL q9i (EC.encL q9i r0.2.1.2.2.2.2)) r6.1.1 (EC.decL q9k (EC.encL q9k r6.2.1)) r6.1.2.2.1 (EC.decL q9j (EC.encL q9j r6.2.2.1)) (EC.decL q9i (EC.encL q9i r6.2.2.2))).bind fun r11 =>
 (brE (r11==true)
 (some true)
 (some false)))))))))
 (some false)))))
 (some false))
 (some false))))
 (gdE (EC.isL q9j (EC.encL q9j r6.2.2.1))<|
 (gdE (EC.isL q9i (EC.encL q9i r6.2.2.2))<|
 ((qlf (EC.decL q9j (EC.encL q9j r6.2.2.1)) (EC.decL q9i (EC.encL q9i r6.2.2.2))).bind fun r9 =>
 (brE (r9.1 != 0)
 ((qzg r9.1 (-7)).bind fun r10 =>
 (brE (r10.1 != 0)
 (brE (((r0.2.2.2.1==r10.1)&&((r0.2.2.2.2==r10.2)&&true))==true)
 (brE ((!r0.2.2.1)==true)
 (brE (((((List.length (EC.encL q9h r0.1)):Nat):Int)==0)==true)
 (gdE (EC.isL q9k (EC.encL q9k r0.2.1.2.1))<|
 (gdE (EC.isL q9j (EC.encL q9j r0.2.1.2.2.2.1))<|
 (gdE (EC.isL q9i (EC.encL q9i r0.2.1.2.2.2.2))<|
 ((q14o r0.2.1.1 (EC.decL q9k (EC.encL q9k r0.2.1.2.1)) r0.2.1.2.2.1 (EC.decL q9j (EC.encL q9j r0.2.1.2.2.2.1)) (EC.decL q9i (EC.encL q9i r0.2.1.2.2.2.2)) ⟨#[]⟩ (EC.decL q9k []) ⟨#[]⟩ (EC.decL q9j []) (EC.decL q9i [])).bind fun r11 =>
 (brE (r11==true)
 (some true)
 (some false))))))
 (some false))
 (some false))
 (some false))
 (brE ((r0.2.2.2.1==0)==true)
 (brE ((r0.2.2.1==r5)==true)
 (gdE (EC.isL q9h (EC.encL q9h r0.1))<|
 (gdE (EC.isL q9h (EC.encL q9h r7.2))<|
 ((q152 (EC.decL q9h (EC.encL q9h r0.1)) (EC.decL q9h (EC.encL q9h r7.2))).bind fun r11 =>
 (brE (r11==true)
 (gdE (EC.isL q9k (EC.encL q9k r0.2.1.2.1))<|
 (gdE (EC.isL q9j (EC.encL q9j r0.2.1.2.2.2.1))<|
 (gdE (EC.isL q9i (EC.encL q9i r0.2.1.2.2.2.2))<|
 (gdE (EC.isL q9k (EC.encL q9k r6.2.1))<|
 (gdE (EC.isL q9j (EC.encL q9j r6.2.2.1))<|
 (gdE (EC.isL q9i (EC.encL q9i r6.2.2.2))<|
 ((q14o r0.2.1.1 (EC.decL q9k (EC.encL q9k r0.2.1.2.1)) r0.2.1.2.2.1 (EC.decL q9j (EC.encL q9j r0.2.1.2.2.2.1)) (EC.decL q9i (EC.encL q9i r0.2.1.2.2.2.2)) r6.1.1 (EC.decL q9k (EC.encL q9k r6.2.1)) r6.1.2.2.1 (EC.decL q9j (EC.encL q9j r6.2.2.1)) (EC.decL q9i (EC.encL q9i r6.2.2.2))).bind fun r12 =>
 (brE (r12==true)
 (some true)
 (some false)))))))))
 (some false)))))
 (some false))
 (some false))))
 (brE (!r7.1.2)
 ((qzg 2 (-1)).bind fun r10 =>
 (brE (r10.1 != 0)
 (brE (((r0.2.2.2.1==r10.1)&&((r0.2.2.2.2==r10.2)&&true))==true)
 (brE ((!r0.2.2.1)==true)
 (brE (((((List.length (EC.encL q9h r0.1)):Nat):Int)==0)==true)
 (gdE (EC.isL q9k (EC.encL q9k r0.2.1.2.1))<|
 (gdE (EC.isL q9j (EC.encL q9j r0.2.1.2.2.2.1))<|
 (gdE (EC.isL q9i (EC.encL q9i r0.2.1.2.2.2.2))<|
 ((q14o r0.2.1.1 (EC.decL q9k (EC.encL q9k r0.2.1.2.1)) r0.2.1.2.2.1 (EC.decL q9j (EC.encL q9j r0.2.1.2.2.2.1)) (EC.decL q9i (EC.encL q9i r0.2.1.2.2.2.2)) ⟨#[]⟩ (EC.decL q9k []) ⟨#[]⟩ (EC.decL q9j []) (EC.decL q9i [])).bind fun r11 =>
 (brE (r11==true)
 (some true)
 (some false))))))
 (some false))
 (some false))
 (some false))
 (brE ((r0.2.2.2.1==0)==true)
 (brE ((r0.2.2.1==r5)==true)
 (gdE (EC.isL q9h (EC.encL q9h r0.1))<|
 (gdE (EC.isL q9h (EC.encL q9h r7.2))<|
 ((q152 (EC.decL q9h (EC.encL q9h r0.1)) (EC.decL q9h (EC.encL q9h r7.2))).bind fun r11 =>
 (brE (r11==true)
 (gdE (EC.isL q9k (EC.encL q9k r0.2.1.2.1))<|
 (gdE (EC.isL q9j (EC.encL q9j r0.2.1.2.2.2.1))<|
 (gdE (EC.isL q9i (EC.encL q9i r0.2.1.2.2.2.2))<|
 (gdE (EC.isL q9k (EC.encL q9k r6.2.1))<|
 (gdE (EC.isL q9j (EC.encL q9j r6.2.2.1))<|
 (gdE (EC.isL q9i (EC.encL q9i r6.2.2.2))<|
 ((q14o r0.2.1.1 (EC.decL q9k (EC.encL q9k r0.2.1.2.1)) r0.2.1.2.2.1 (EC.decL q9j (EC.encL q9j r0.2.1.2.2.2.1)) (EC.decL q9i (EC.encL q9i r0.2.1.2.2.2.2)) r6.1.1 (EC.decL q9k (EC.encL q9k r6.2.1)) r6.1.2.2.1 (EC.decL q9j (EC.encL q9j r6.2.2.1)) (EC.decL q9i (EC.encL q9i r6.2.2.2))).bind fun r12 =>
 (brE (r12==true)
 (some true)
 (some false)))))))))
 (some false)))))
 (some false))
 (some false))))
 (brE (r4.1 != 0)
 (brE (((r0.2.2.2.1==r4.1)&&((r0.2.2.2.2==r4.2)&&true))==true)
 (brE ((!r0.2.2.1)==true)
 (brE (((((List.length (EC.encL q9h r0.1)):Nat):Int)==0)==true)
 (gdE (EC.isL q9k (EC.encL q9k r0.2.1.2.1))<|
 (gdE (EC.isL q9j (EC.encL q9j r0.2.1.2.2.2.1))<|
 (gdE (EC.isL q9i (EC.encL q9i r0.2.1.2.2.2.2))<|
 ((q14o r0.2.1.1 (EC.decL q9k (EC.encL q9k r0.2.1.2.1)) r0.2.1.2.2.1 (EC.decL q9j (EC.encL q9j r0.2.1.2.2.2.1)) (EC.decL q9i (EC.encL q9i r0.2.1.2.2.2.2)) ⟨#[]⟩ (EC.decL q9k []) ⟨#[]⟩ (EC.decL q9j []) (EC.decL q9i [])).bind fun r10 =>
 (brE (r10==true)
 (some true)
 (some false))))))
 (some false))
 (some false))
 (some false))
 (brE ((r0.2.2.2.1==0)==true)
 (brE ((r0.2.2.1==r5)==true)
 (gdE (EC.isL q9h (EC.encL q9h r0.1))<|
 (gdE (EC.isL q9h (EC.encL q9h r7.2))<|
 ((q152 (EC.decL q9h (EC.encL q9h r0.1)) (EC.decL q9h (EC.encL q9h r7.2))).bind fun r10 =>
 (brE (r10==true)
 (gdE (EC.isL q9k (EC.encL q9k r0.2.1.2.1))<|
 (gdE (EC.isL q9j (EC.encL q9j r0.2.1.2.2.2.1))<|
 (gdE (EC.isL q9i (EC.encL q9i r0.2.1.2.2.2.2))<|
 (gdE (EC.isL q9k (EC.encL q9k r6.2.1))<|
 (gdE (EC.isL q9j (EC.encL q9j r6.2.2.1))<|
 (gdE (EC.isL q9i (EC.encL q9i r6.2.2.2))<|
 ((q14o r0.2.1.1 (EC.decL q9k (EC.encL q9k r0.2.1.2.1)) r0.2.1.2.2.1 (EC.decL q9j (EC.encL q9j r0.2.1.2.2.2.1)) (EC.decL q9i (EC.encL q9i r0.2.1.2.2.2.2)) r6.1.1 (EC.decL q9k (EC.encL q9k r6.2.1)) r6.1.2.2.1 (EC.decL q9j (EC.encL q9j r6.2.2.1)) (EC.decL q9i (EC.encL q9i r6.2.2.2))).bind fun r11 =>
 (brE (r11==true)
 (some true)
 (some false)))))))))
 (some false)))))
 (some false))
 (some false)))))))))))))))))
 (brE (r4.1 != 0)
 (brE (((r0.2.2.2.1==r4.1)&&((r0.2.2.2.2==r4.2)&&true))==true)
 (brE ((!r0.2.2.1)==true)
 (brE (((((List.length (EC.encL q9h r0.1)):Nat):Int)==0)==true)
 (gdE (EC.isL q9k (EC.encL q9k r0.2.1.2.1))<|
 (gdE (EC.isL q9j (EC.encL q9j r0.2.1.2.2.2.1))<|
 (gdE (EC.isL q9i (EC.encL q9i r0.2.1.2.2.2.2))<|
 ((q14o r0.2.1.1 (EC.decL q9k (EC.encL q9k r0.2.1.2.1)) r0.2.1.2.2.1 (EC.decL q9j (EC.encL q9j r0.2.1.2.2.2.1)) (EC.decL q9i (EC.encL q9i r0.2.1.2.2.2.2)) ⟨#[]⟩ (EC.decL q9k []) ⟨#[]⟩ (EC.decL q9j []) (EC.decL q9i [])).bind fun r6 =>
 (brE (r6==true)
 (some true)
 (some false))))))
 (some false))
 (some false))
 (some false))
 (brE ((r0.2.2.2.1==0)==true)
 (brE ((r0.2.2.1==r5)==true)
 (gdE (EC.isL q9h (EC.encL q9h r0.1))<|
 (gdE (EC.isL q9h (EC.encL q9h r_))<|
 ((q152 (EC.decL q9h (EC.encL q9h r0.1)) (EC.decL q9h (EC.encL q9h r_))).bind fun r6 =>
 (brE (r6==true)
 (gdE (EC.isL q9k (EC.encL q9k r0.2.1.2.1))<|
 (gdE (EC.isL q9j (EC.encL q9j r0.2.1.2.2.2.1))<|
 (gdE (EC.isL q9i (EC.encL q9i r0.2.1.2.2.2.2))<|
 ((q14o r0.2.1.1 (EC.decL q9k (EC.encL q9k r0.2.1.2.1)) r0.2.1.2.2.1 (EC.decL q9j (EC.encL q9j r0.2.1.2.2.2.1)) (EC.decL q9i (EC.encL q9i r0.2.1.2.2.2.2)) ⟨#[]⟩ (EC.decL q9k []) ⟨#[]⟩ (EC.decL q9j []) (EC.decL q9i [])).bind fun r7 =>
 (brE (r7==true)
 (some true)
 (some false))))))
 (some false)))))
 (some false))
 (some false)))))))))
 (brE (r4.1 != 0)
 (brE (((r0.2.2.2.1==r4.1)&&((r0.2.2.2.2==r4.2)&&true))==true)
 (brE ((!r0.2.2.1)==true)
 (brE (((((List.length (EC.encL q9h r0.1)):Nat):Int)==0)==true)
 (gdE (EC.isL q9k (EC.encL q9k r0.2.1.2.1))<|
 (gdE (EC.isL q9j (EC.encL q9j r0.2.1.2.2.2.1))<|
 (gdE (EC.isL q9i (EC.encL q9i r0.2.1.2.2.2.2))<|
 ((q14o r0.2.1.1 (EC.decL q9k (EC.encL q9k r0.2.1.2.1)) r0.2.1.2.2.1 (EC.decL q9j (EC.encL q9j r0.2.1.2.2.2.1)) (EC.decL q9i (EC.encL q9i r0.2.1.2.2.2.2)) ⟨#[]⟩ (EC.decL q9k []) ⟨#[]⟩ (EC.decL q9j []) (EC.decL q9i [])).bind fun r5 =>
 (brE (r5==true)
 (some true)
 (some false))))))
 (some false))
 (some false))
 (some false))
 (brE ((r0.2.2.2.1==0)==true)
 (brE ((r0.2.2.1==false)==true)
 (gdE (EC.isL q9h (EC.encL q9h r0.1))<|
 (gdE (EC.isL q9h (EC.encL q9h r_))<|
 ((q152 (EC.decL q9h (EC.encL q9h r0.1)) (EC.decL q9h (EC.encL q9h r_))).bind fun r5 =>
 (brE (r5==true)
 (gdE (EC.isL q9k (EC.encL q9k r0.2.1.2.1))<|
 (gdE (EC.isL q9j (EC.encL q9j r0.2.1.2.2.2.1))<|
 (gdE (EC.isL q9i (EC.encL q9i r0.2.1.2.2.2.2))<|
 ((q14o r0.2.1.1 (EC.decL q9k (EC.encL q9k r0.2.1.2.1)) r0.2.1.2.2.1 (EC.decL q9j (EC.encL q9j r0.2.1.2.2.2.1)) (EC.decL q9i (EC.encL q9i r0.2.1.2.2.2.2)) ⟨#[]⟩ (EC.decL q9k []) ⟨#[]⟩ (EC.decL q9j []) (EC.decL q9i [])).bind fun r6 =>
 (brE (r6==true)
 (some true)
 (some false))))))
 (some false)))))
 (some false))
 (some false)))))
 (gdE (EC.isL q9k (EC.encL q9k m_Envelope_To))<|
 ((qbd m_Envelope_From (EC.decL q9k (EC.encL q9k m_Envelope_To)) m_Envelope_Id).bind fun r4 =>
 (brE (r4.1 != 0)
 ((qzg r4.1 (-3)).bind fun r5 =>
 (brE ((r5.1==0)==true)
 (gdE (EC.isL q9h (EC.encL q9h r_))<|
 (gdE (EC.isL q9k (EC.encL q9k m_Envelope_To))<|
 (gdE (EC.isL q9j (EC.encL q9j m_Message_Fields))<|
 (gdE (EC.isL q9i (EC.encL q9i m_Message_Body))<|
 ((q12m (EC.decL q9h (EC.encL q9h r_)) m_Envelope_From (EC.decL q9k (EC.encL q9k m_Envelope_To)) m_Envelope_Id (EC.decL q9j (EC.encL q9j m_Message_Fields)) (EC.decL q9i (EC.encL q9i m_Message_Body)) me now).bind fun r6 =>
 (brE r6
 (gdE (EC.isL q9k (EC.encL q9k m_Envelope_To))<|
 (gdE (EC.isL q9j (EC.encL q9j m_Message_Fields))<|
 (gdE (EC.isL q9i (EC.encL q9i m_Message_Body))<|
 ((q14a m_Envelope_From (EC.decL q9k (EC.encL q9k m_Envelope_To)) m_Envelope_Id (EC.decL q9j (EC.encL q9j m_Message_Fields)) (EC.decL q9i (EC.encL q9i m_Message_Body)) me text).bind fun r7 =>
 (gdE (EC.isL q9h (EC.encL q9h r_))<|
 ((q144 (EC.decL q9h (EC.encL q9h r_)) m_Envelope_From now).bind fun r8 =>
 (gdE (EC.isL q9k (EC.encL q9k r7.2.1))<|
 ((qbd r7.1.1 (EC.decL q9k (EC.encL q9k r7.2.1)) r7.1.2.2.1).bind fun r9 =>
 (brE (r9.1 != 0)
 ((qzg r9.1 (-7)).bind fun r10 =>
 (brE (r10.1 != 0)
 (brE (((r0.2.2.2.1==r10.1)&&((r0.2.2.2.2==r10.2)&&true))==true)
 (brE ((!r0.2.2.1)==true)
 (brE (((((List.length (EC.encL q9h r0.1)):Nat):Int)==0)==true)
 (gdE (EC.isL q9k (EC.encL q9k r0.2.1.2.1))<|
 (gdE (EC.isL q9j (EC.encL q9j r0.2.1.2.2.2.1))<|
 (gdE (EC.isL q9i (EC.encL q9i r0.2.1.2.2.2.2))<|
 ((q14o r0.2.1.1 (EC.decL q9k (EC.encL q9k r0.2.1.2.1)) r0.2.1.2.2.1 (EC.decL q9j (EC.encL q9j r0.2.1.2.2.2.1)) (EC.decL q9i (EC.encL q9i r0.2.1.2.2.2.2)) ⟨#[]⟩ (EC.decL q9k []) ⟨#[]⟩ (EC.decL q9j []) (EC.decL q9i [])).bind fun r11 =>
 (brE (r11==true)
 (some true)
 (some false))))))
 (some false))
 (some false))
 (some false))
 (brE ((r0.2.2.2.1==0)==true)
 (brE ((r0.2.2.1==r6)==true)
 (gdE (EC.isL q9h (EC.encL q9h r0.1))<|
 (gdE (EC.isL q9h (EC.encL q9h r8.2))<|
 ((q152 (EC.decL q9h (EC.encL q9h r0.1)) (EC.decL q9h (EC.encL q9h r8.2))).bind fun r11 =>
 (brE (r11==true)
 (gdE (EC.isL q9k (EC.encL q9k r0.2.1.2.1))<|
 (gdE (EC.isL q9j (EC.encL q9j r0.2.1.2.2.2.1))<|
 (gdE (EC.isL q9i (EC.encL q9i r0.2.1.2.2.2.2))<|
 (gdE (EC.isL q9k (EC.encL q9k r7.2.1))<|
 (gdE (EC.isL q9j (EC.encL q9j r7.2.2.1))<|
 (gdE (EC.isL q9i (EC.encL q9i r7.2.2.2))<|
 ((q14o r0.2.1.1 (EC.decL q9k (EC.encL q9k r0.2.1.2.1)) r0.2.1.2.2.1 (EC.decL q9j (EC.encL q9j r0.2.1.2.2.2.1)) (EC.decL q9i (EC.encL q9i r0.2.1.2.2.2.2)) r7.1.1 (EC.decL q9k (EC.encL q9k r7.2.1)) r7.1.2.2.1 (EC.decL q9j (EC.encL q9j r7.2.2.1)) (EC.decL q9i (EC.encL q9i r7.2.2.2))).bind fun r12 =>
 (brE (r12==true)
 (some true)
 (some false)))))))))
 (some false)))))
 (some false))
 (some false))))
 (gdE (EC.isL q9j (EC.encL q9j r7.2.2.1))<|
 (gdE (EC.isL q9i (EC.encL q9i r7.2.2.2))<|
 ((qlf (EC.decL q9j (EC.encL q9j r7.2.2.1)) (EC.decL q9i (EC.encL q9i r7.2.2.2))).bind fun r10 =>
 (brE (r10.1 != 0)
 ((qzg r10.1 (-7)).bind fun r11 =>
 (brE (r11.1 != 0)
 (brE (((r0.2.2.2.1==r11.1)&&((r0.2.2.2.2==r11.2)&&true))==true)
 (brE ((!r0.2.2.1)==true)
 (brE (((((List.length (EC.encL q9h r0.1)):Nat):Int)==0)==true)
 (gdE (EC.isL q9k (EC.encL q9k r0.2.1.2.1))<|
 (gdE (EC.isL q9j (EC.encL q9j r0.2.1.2.2.2.1))<|
 (gdE (EC.isL q9i (EC.encL q9i r0.2.1.2.2.2.2))<|
 ((q14o r0.2.1.1 (EC.decL q9k (EC.encL q9k r0.2.1.2.1)) r0.2.1.2.2.1 (EC.decL q9j (EC.encL q9j r0.2.1.2.2.2.1)) (EC.decL q9i (EC.encL q9i r0.2.1.2.2.2.2)) ⟨#[]⟩ (EC.decL q9k []) ⟨#[]⟩ (EC.decL q9j []) (EC.decL q9i [])).bind fun r12 =>
 (brE (r12==true)
 (some true)
 (some false))))))
 (some false))
 (some false))
 (some false))
 (brE ((r0.2.2.2.1==0)==true)
 (brE ((r0.2.2.1==r6)==true)
 (gdE (EC.isL q9h (EC.encL q9h r0.1))<|
 (gdE (EC.isL q9h (EC.encL q9h r8.2))<|
 ((q152 (EC.decL q9h (EC.encL q9h r0.1)) (EC.decL q9h (EC.encL q9h r8.2))).bind fun r12 =>
 (brE (r12==true)
 (gdE (EC.isL q9k (EC.encL q9k r0.2.1.2.1))<|
 (gdE (EC.isL q9j (EC.encL q9j r0.2.1.2.2.2.1))<|
 (gdE (EC.isL q9i (EC.encL q9i r0.2.1.2.2.2.2))<|
 (gdE (EC.isL q9k (EC.encL q9k r7.2.1))<|
 (gdE (EC.isL q9j (EC.encL q9j r7.2.2.1))<|
 (gdE (EC.isL q9i (EC.encL q9i r7.2.2.2))<|
 ((q14o r0.2.1.1 (EC.decL q9k (EC.encL q9k r0.2.1.2.1)) r0.2.1.2.2.1 (EC.decL q9j (EC.encL q9j r0.2.1.2.2.2.1)) (EC.decL q9i (EC.encL q9i r0.2.1.2.2.2.2)) r7.1.1 (EC.decL q9k (EC.encL q9k r7.2.1)) r7.1.2.2.1 (EC.decL q9j (EC.encL q9j r7.2.2.1)) (EC.decL q9i (EC.encL q9i r7.2.2.2))).bind fun r13 =>
 (brE (r13==true)
 (some true)
 (some false)))))))))
 (some false)))))
 (some false))
 (some false))))
 (brE (!r8.1.2)
 ((qzg 2 (-1)).bind fun r11 =>
 (brE (r11.1 != 0)
 (brE (((r0.2.2.2.1==r11.1)&&((r0.2.2.2.2==r11.2)&&true))==true)
 (brE ((!r0.2.2.1)==true)
 (brE (((((List.length (EC.encL q9h r0.1)):Nat):Int)==0)==true)
 (gdE (EC.isL q9k (EC.encL q9k r0.2.1.2.1))<|
 (gdE (EC.isL q9j (EC.encL q9j r0.2.1.2.2.2.1))<|
 (gdE (EC.isL q9i (EC.encL q9i r0.2.1.2.2.2.2))<|
 ((q14o r0.2.1.1 (EC.decL q9k (EC.encL q9k r0.2.1.2.1)) r0.2.1.2.2.1 (EC.decL q9j (EC.encL q9j r0.2.1.2.2.2.1)) (EC.decL q9i (EC.encL q9i r0.2.1.2.2.2.2)) ⟨#[]⟩ (EC.decL q9k []) ⟨#[]⟩ (EC.decL q9j []) (EC.decL q9i [])).bind fun r12 =>
 (brE (r12==true)
 (some true)
 (some false))))))
 (some false))
 (some false))
 (some false))
 (brE ((r0.2.2.2.1==0)==true)
 (brE ((r0.2.2.1==r6)==true)
 (gdE (EC.isL q9h (EC.encL q9h r0.1))<|
 (gdE (EC.isL q9h (EC.encL q9h r8.2))<|
 ((q152 (EC.decL q9h (EC.encL q9h r0.1)) (EC.decL q9h (EC.encL q9h r8.2))).bind fun r12 =>
 (brE (r12==true)
 (gdE (EC.isL q9k (EC.encL q9k r0.2.1.2.1))<|
 (gdE (EC.isL q9j (EC.encL q9j r0.2.1.2.2.2.1))<|
 (gdE (EC.isL q9i (EC.encL q9i r0.2.1.2.2.2.2))<|
 (gdE (EC.isL q9k (EC.encL q9k r7.2.1))<|
 (gdE (EC.isL q9j (EC.encL q9j r7.2.2.1))<|
 (gdE (EC.isL q9i (EC.encL q9i r7.2.2.2))<|
 ((q14o r0.2.1.1 (EC.decL q9k (EC.encL q9k r0.2.1.2.1)) r0.2.1.2.2.1 (EC.decL q9j (EC.encL q9j r0.2.1.2.2.2.1)) (EC.decL q9i (EC.encL q9i r0.2.1.2.2.2.2)) r7.1.1 (EC.decL q9k (EC.encL q9k r7.2.1)) r7.1.2.2.1 (EC.decL q9j (EC.encL q9j r7.2.2.1)) (EC.decL q9i (EC.encL q9i r7.2.2.2))).bind fun r13 =>
 (brE (r13==true)
 (some true)
 (some false)))))))))
 (some false)))))
 (some false))
 (some false))))
 (brE (r5.1 != 0)
 (brE (((r0.2.2.2.1==r5.1)&&((r0.2.2.2.2==r5.2)&&true))==true)
 (brE ((!r0.2.2.1)==true)
 (brE (((((List.length (EC.encL q9h r0.1)):Nat):Int)==0)==true)
 (gdE (EC.isL q9k (EC.encL q9k r0.2.1.2.1))<|
 (gdE (EC.isL q9j (EC.encL q9j r0.2.1.2.2.2.1))<|
 (gdE (EC.isL q9i (EC.encL q9i r0.2.1.2.2.2.2))<|
 ((q14o r0.2.1.1 (EC.decL q9k (EC.encL q9k r0.2.1.2.1)) r0.2.1.2.2.1 (EC.decL q9j (EC.encL q9j r0.2.1.2.2.2.1)) (EC.decL q9i (EC.encL q9i r0.2.1.2.2.2.2)) ⟨#[]⟩ (EC.decL q9k []) ⟨#[]⟩ (EC.decL q9j []) (EC.decL q9i [])).bind fun r11 =>
 (brE (r11==true)
 (some true)
 (some false))))))
 (some false))
 (some false))
 (some false))
 (brE ((r0.2.2.2.1==0)==true)
 (brE ((r0.2.2.1==r6)==true)
 (gdE (EC.isL q9h (EC.encL q9h r0.1))<|
 (gdE (EC.isL q9h (EC.encL q9h r8.2))<|
 ((q152 (EC.decL q9h (EC.encL q9h r0.1)) (EC.decL q9h (EC.encL q9h r8.2))).bind fun r11 =>
 (brE (r11==true)
 (gdE (EC.isL q9k (EC.encL q9k r0.2.1.2.1))<|
 (gdE (EC.isL q9j (EC.encL q9j r0.2.1.2.2.2.1))<|
 (gdE (EC.isL q9i (EC.encL q9i r0.2.1.2.2.2.2))<|
 (gdE (EC.isL q9k (EC.encL q9k r7.2.1))<|
 (gdE (EC.isL q9j (EC.encL q9j r7.2.2.1))<|
 (gdE (EC.isL q9i (EC.encL q9i r7.2.2.2))<|
 ((q14o r0.2.1.1 (EC.decL q9k (EC.encL q9k r0.2.1.2.1)) r0.2.1.2.2.1 (EC.decL q9j (EC.encL q9j r0.2.1.2.2.2.1)) (EC.decL q9i (EC.encL q9i r0.2.1.2.2.2.2)) r7.1.1 (EC.decL q9k (EC.encL q9k r7.2.1)) r7.1.2.2.1 (EC.decL q9j (EC.encL q9j r7.2.2.1)) (EC.decL q9i (EC.encL q9i r7.2.2.2))).bind fun r12 =>
 (brE (r12==true)
 (some true)
 (some false)))))))))
 (some false)))))
 (some false))
 (some false)))))))))))))))))
 (brE (r5.1 != 0)
 (brE (((r0.2.2.2.1==r5.1)&&((r0.2.2.2.2==r5.2)&&true))==true)
 (brE ((!r0.2.2.1)==true)
 (brE (((((List.length (EC.encL q9h r0.1)):Nat):Int)==0)==true)
 (gdE (EC.isL q9k (EC.encL q9k r0.2.1.2.1))<|
 (gdE (EC.isL q9j (EC.encL q9j r0.2.1.2.2.2.1))<|
 (gdE (EC.isL q9i (EC.encL q9i r0.2.1.2.2.2.2))<|
 ((q14o r0.2.1.1 (EC.decL q9k (EC.encL q9k r0.2.1.2.1)) r0.2.1.2.2.1 (EC.decL q9j (EC.encL q9j r0.2.1.2.2.2.1)) (EC.decL q9i (EC.encL q9i r0.2.1.2.2.2.2)) ⟨#[]⟩ (EC.decL q9k []) ⟨#[]⟩ (EC.decL q9j []) (EC.decL q9i [])).bind fun r7 =>
 (brE (r7==true)
 (some true)
 (some false))))))
 (some false))
 (some false))
 (some false))
 (brE ((r0.2.2.2.1==0)==true)
 (brE ((r0.2.2.1==r6)==true)
 (gdE (EC.isL q9h (EC.encL q9h r0.1))<|
 (gdE (EC.isL q9h (EC.encL q9h r_))<|
 ((q152 (EC.decL q9h (EC.encL q9h r0.1)) (EC.decL q9h (EC.encL q9h r_))).bind fun r7 =>
 (brE (r7==true)
 (gdE (EC.isL q9k (EC.encL q9k r0.2.1.2.1))<|
 (gdE (EC.isL q9j (EC.encL q9j r0.2.1.2.2.2.1))<|
 (gdE (EC.isL q9i (EC.encL q9i r0.2.1.2.2.2.2))<|
 ((q14o r0.2.1.1 (EC.decL q9k (EC.encL q9k r0.2.1.2.1)) r0.2.1.2.2.1 (EC.decL q9j (EC.encL q9j r0.2.1.2.2.2.1)) (EC.decL q9i (EC.encL q9i r0.2.1.2.2.2.2)) ⟨#[]⟩ (EC.decL q9k []) ⟨#[]⟩ (EC.decL q9j []) (EC.decL q9i [])).bind fun r8 =>
 (brE (r8==true)
 (some true)
 (some false))))))
 (some false)))))
 (some false))
 (some false)))))))))
 (brE (r5.1 != 0)
 (brE (((r0.2.2.2.1==r5.1)&&((r0.2.2.2.2==r5.2)&&true))==true)
 (brE ((!r0.2.2.1)==true)
 (brE (((((List.length (EC.encL q9h r0.1)):Nat):Int)==0)==true)
 (gdE (EC.isL q9k (EC.encL q9k r0.2.1.2.1))<|
 (gdE (EC.isL q9j (EC.encL q9j r0.2.1.2.2.2.1))<|
 (gdE (EC.isL q9i (EC.encL q9i r0.2.1.2.2.2.2))<|
 ((q14o r0.2.1.1 (EC.decL q9k (EC.encL q9k r0.2.1.2.1)) r0.2.1.2.2.1 (EC.decL q9j (EC.encL q9j r0.2.1.2.2.2.1)) (EC.decL q9i (EC.encL q9i r0.2.1.2.2.2.2)) ⟨#[]⟩ (EC.decL q9k []) ⟨#[]⟩ (EC.decL q9j []) (EC.decL q9i [])).bind fun r6 =>
 (brE (r6==true)
 (some true)
 (some false))))))
 (some false))
 (some false))
 (some false))
 (brE ((r0.2.2.2.1==0)==true)
 (brE ((r0.2.2.1==false)==true)
 (gdE (EC.isL q9h (EC.encL q9h r0.1))<|
 (gdE (EC.isL q9h (EC.encL q9h r_))<|
 ((q152 (EC.decL q9h (EC.encL q9h r0.1)) (EC.decL q9h (EC.encL q9h r_))).bind fun r6 =>
 (brE (r6==true)
 (gdE (EC.isL q9k (EC.encL q9k r0.2.1.2.1))<|
 (gdE (EC.isL q9j (EC.encL q9j r0.2.1.2.2.2.1))<|
 (gdE (EC.isL q9i (EC.encL q9i r0.2.1.2.2.2.2))<|
 ((q14o r0.2.1.1 (EC.decL q9k (EC.encL q9k r0.2.1.2.1)) r0.2.1.2.2.1 (EC.decL q9j (EC.encL q9j r0.2.1.2.2.2.1)) (EC.decL q9i (EC.encL q9i r0.2.1.2.2.2.2)) ⟨#[]⟩ (EC.decL q9k []) ⟨#[]⟩ (EC.decL q9j []) (EC.decL q9i [])).bind fun r7 =>
 (brE (r7==true)
 (some true)
 (some false))))))
 (some false)))))
 (some false))
 (some false)))))
 ((q122 me).bind fun r5 =>
 (brE (!r5)
 ((qzg 10 (-4)).bind fun r6 =>
 (brE ((r6.1==0)==true)
 (gdE (EC.isL q9h (EC.encL q9h r_))<|
 (gdE (EC.isL q9k (EC.encL q9k m_Envelope_To))<|
 (gdE (EC.isL q9j (EC.encL q9j m_Message_Fields))<|
 (gdE (EC.isL q9i (EC.encL q9i m_Message_Body))<|
 ((q12m (EC.decL q9h (EC.encL q9h r_)) m_Envelope_From (EC.decL q9k (EC.encL q9k m_Envelope_To)) m_Envelope_Id (EC.decL q9j (EC.encL q9j m_Message_Fields)) (EC.decL q9i (EC.encL q9i m_Message_Body)) me now).bind fun r7 =>
 (brE r7
 (gdE (EC.isL q9k (EC.encL q9k m_Envelope_To))<|
 (gdE (EC.isL q9j (EC.encL q9j m_Message_Fields))<|
 (gdE (EC.isL q9i (EC.encL q9i m_Message_Body))<|
 ((q14a m_Envelope_From (EC.decL q9k (EC.encL q9k m_Envelope_To)) m_Envelope_Id (EC.decL q9j (EC.encL q9j m_Message_Fields)) (EC.decL q9i (EC.encL q9i m_Message_Body)) me text).bind fun r8 =>
 (gdE (EC.isL q9h (EC.encL q9h r_))<|
 ((q144 (EC.decL q9h (EC.encL q9h r_)) m_Envelope_From now).bind fun r9 =>
 (gdE (EC.isL q9k (EC.encL q9k r8.2.1))<|
 ((qbd r8.1.1 (EC.decL q9k (EC.encL q9k r8.2.1)) r8.1.2.2.1).bind fun r10 =>
 (brE (r10.1 != 0)
 ((qzg r10.1 (-7)).bind fun r11 =>
 (brE (r11.1 != 0)
 (brE (((r0.2.2.2.1==r11.1)&&((r0.2.2.2.2==r11.2)&&true))==true)
 (brE ((!r0.2.2.1)==true)
 (brE (((((List.length (EC.encL q9h r0.1)):Nat):Int)==0)==true)
 (gdE (EC.isL q9k (EC.encL q9k r0.2.1.2.1))<|
 (gdE (EC.isL q9j (EC.encL q9j r0.2.1.2.2.2.1))<|
 (gdE (EC.isL q9i (EC.encL q9i r0.2.1.2.2.2.2))<|
 ((q14o r0.2.1.1 (EC.decL q9k (EC.encL q9k r0.2.1.2.1)) r0.2.1.2.2.1 (EC.decL q9j (EC.encL q9j r0.2.1.2.2.2.1)) (EC.decL q9i (EC.encL q9i r0.2.1.2.2.2.2)) ⟨#[]⟩ (EC.decL q9k []) ⟨#[]⟩ (EC.decL q9j []) (EC.decL q9i [])).bind fun r12 =>
 (brE (r12==true)
 (some true)
 (some false))))))
 (some false))
 (some false))
 (some false))
 (brE ((r0.2.2.2.1==0)==true)
 (brE ((r0.2.2.1==r7)==true)
 (gdE (EC.isL q9h (EC.encL q9h r0.1))<|
 (gdE (EC.isL q9h (EC.encL q9h r9.2))<|
 ((q152 (EC.decL q9h (EC.encL q9h r0.1)) (EC.decL q9h (EC.encL q9h r9.2))).bind fun r12 =>
 (brE (r12==true)
 (gdE (EC.isL q9k (EC.encL q9k r0.2.1.2.1))<|
 (gdE (EC.isL q9j (EC.encL q9j r0.2.1.2.2.2.1))<|
 (gdE (EC.isL q9i (EC.encL q9i r0.2.1.2.2.2.2))<|
 (gdE (EC.isL q9k (EC.encL q9k r8.2.1))<|
 (gdE (EC.isL q9j (EC.encL q9j r8.2.2.1))<|
 (gdE (EC.isL q9i (EC.encL q9i r8.2.2.2))<|
 ((q14o r0.2.1.1 (EC.decL q9k (EC.encL q9k r0.2.1.2.1)) r0.2.1.2.2.1 (EC.decL q9j (EC.encL q9j r0.2.1.2.2.2.1)) (EC.decL q9i (EC.encL q9i r0.2.1.2.2.2.2)) r8.1.1 (EC.decL q9k (EC.encL q9k r8.2.1)) r8.1.2.2.1 (EC.decL q9j (EC.encL q9j r8.2.2.1)) (EC.decL q9i (EC.encL q9i r8.2.2.2))).bind fun r13 =>
 (brE (r13==true)
 (some true)
 (some false)))))))))
 (some false)))))
 (some false))
 (some false))))
 (gdE (EC.isL q9j (EC.encL q9j r8.2.2.1))<|
 (gdE (EC.isL q9i (EC.encL q9i r8.2.2.2))<|
 ((qlf (EC.decL q9j (EC.encL q9j r8.2.2.1)) (EC.decL q9i (EC.encL q9i r8.2.2.2))).bind fun r11 =>
 (brE (r11.1 != 0)
 ((qzg r11.1 (-7)).bind fun r12 =>
 (brE (r12.1 != 0)
 (brE (((r0.2.2.2.1==r12.1)&&((r0.2.2.2.2==r12.2)&&true))==true)
 (brE ((!r0.2.2.1)==true)
 (brE (((((List.length (EC.encL q9h r0.1)):Nat):Int)==0)==true)
 (gdE (EC.isL q9k (EC.encL q9k r0.2.1.2.1))<|
 (gdE (EC.isL q9j (EC.encL q9j r0.2.1.2.2.2.1))<|
 (gdE (EC.isL q9i (EC.encL q9i r0.2.1.2.2.2.2))<|
 ((q14o r0.2.1.1 (EC.decL q9k (EC.encL q9k r0.2.1.2.1)) r0.2.1.2.2.1 (EC.decL q9j (EC.encL q9j r0.2.1.2.2.2.1)) (EC.decL q9i (EC.encL q9i r0.2.1.2.2.2.2)) ⟨#[]⟩ (EC.decL q9k []) ⟨#[]⟩ (EC.decL q9j []) (EC.decL q9i [])).bind fun r13 =>
 (brE (r13==true)
 (some true)
 (some false))))))
 (some false))
 (some false))
 (some false))
 (brE ((r0.2.2.2.1==0)==true)
 (brE ((r0.2.2.1==r7)==true)
 (gdE (EC.isL q9h (EC.encL q9h r0.1))<|
 (gdE (EC.isL q9h (EC.encL q9h r9.2))<|
 ((q152 (EC.decL q9h (EC.encL q9h r0.1)) (EC.decL q9h (EC.encL q9h r9.2))).bind fun r13 =>
 (brE (r13==true)
 (gdE (EC.isL q9k (EC.encL q9k r0.2.1.2.1))<|
 (gdE (EC.isL q9j (EC.encL q9j r0.2.1.2.2.2.1))<|
 (gdE (EC.isL q9i (EC.encL q9i r0.2.1.2.2.2.2))<|
 (gdE (EC.isL q9k (EC.encL q9k r8.2.1))<|
 (gdE (EC.isL q9j (EC.encL q9j r8.2.2.1))<|
 (gdE (EC.isL q9i (EC.encL q9i r8.2.2.2))<|
 ((q14o r0.2.1.1 (EC.decL q9k (EC.encL q9k r0.2.1.2.1)) r0.2.1.2.2.1 (EC.decL q9j (EC.encL q9j r0.2.1.2.2.2.1)) (EC.decL q9i (EC.encL q9i r0.2.1.2.2.2.2)) r8.1.1 (EC.decL q9k (EC.encL q9k r8.2.1)) r8.1.2.2.1 (EC.decL q9j (EC.encL q9j r8.2.2.1)) (EC.decL q9i (EC.encL q9i r8.2.2.2))).bind fun r14 =>
 (brE (r14==true)
 (some true)
 (some false)))))))))
 (some false)))))
 (some false))
 (some false))))
 (brE (!r9.1.2)
 ((qzg 2 (-1)).bind fun r12 =>
 (brE (r12.1 != 0)
 (brE (((r0.2.2.2.1==r12.1)&&((r0.2.2.2.2==r12.2)&&true))==true)
 (brE ((!r0.2.2.1)==true)
 (brE (((((List.length (EC.encL q9h r0.1)):Nat):Int)==0)==true)
 (gdE (EC.isL q9k (EC.encL q9k r0.2.1.2.1))<|
 (gdE (EC.isL q9j (EC.encL q9j r0.2.1.2.2.2.1))<|
 (gdE (EC.isL q9i (EC.encL q9i r0.2.1.2.2.2.2))<|
 ((q14o r0.2.1.1 (EC.decL q9k (EC.encL q9k r0.2.1.2.1)) r0.2.1.2.2.1 (EC.decL q9j (EC.encL q9j r0.2.1.2.2.2.1)) (EC.decL q9i (EC.encL q9i r0.2.1.2.2.2.2)) ⟨#[]⟩ (EC.decL q9k []) ⟨#[]⟩ (EC.decL q9j []) (EC.decL q9i [])).bind fun r13 =>
 (brE (r13==true)
 (some true)
 (some false))))))
 (some false))
 (some false))
 (some false))
 (brE ((r0.2.2.2.1==0)==true)
 (brE ((r0.2.2.1==r7)==true)
 (gdE (EC.isL q9h (EC.encL q9h r0.1))<|
 (gdE (EC.isL q9h (EC.encL q9h r9.2))<|
 ((q152 (EC.decL q9h (EC.encL q9h r0.1)) (EC.decL q9h (EC.encL q9h r9.2))).bind fun r13 =>
 (brE (r13==true)
 (gdE (EC.isL q9k (EC.encL q9k r0.2.1.2.1))<|
 (gdE (EC.isL q9j (EC.encL q9j r0.2.1.2.2.2.1))<|
 (gdE (EC.isL q9i (EC.encL q9i r0.2.1.2.2.2.2))<|
 (gdE (EC.isL q9k (EC.encL q9k r8.2.1))<|
 (gdE (EC.isL q9j (EC.encL q9j r8.2.2.1))<|
 (gdE (EC.isL q9i (EC.encL q9i r8.2.2.2))<|
 ((q14o r0.2.1.1 (EC.decL q9k (EC.encL q9k r0.2.1.2.1)) r0.2.1.2.2.1 (EC.decL q9j (EC.encL q9j r0.2.1.2.2.2.1)) (EC.decL q9i (EC.encL q9i r0.2.1.2.2.2.2)) r8.1.1 (EC.decL q9k (EC.encL q9k r8.2.1)) r8.1.2.2.1 (EC.decL q9j (EC.encL q9j r8.2.2.1)) (EC.decL q9i (EC.encL q9i r8.2.2.2))).bind fun r14 =>
 (brE (r14==true)
 (some true)
 (some false)))))))))
 (some false)))))
 (some false))
 (some false))))
 (brE (r6.1 != 0)
 (brE (((r0.2.2.2.1==r6.1)&&((r0.2.2.2.2==r6.2)&&true))==true)
 (brE ((!r0.2.2.1)==true)
 (brE (((((List.length (EC.encL q9h r0.1)):Nat):Int)==0)==true)
 (gdE (EC.isL q9k (EC.encL q9k r0.2.1.2.1))<|
 (gdE (EC.isL q9j (EC.encL q9j r0.2.1.2.2.2.1))<|
 (gdE (EC.isL q9i (EC.encL q9i r0.2.1.2.2.2.2))<|
 ((q14o r0.2.1.1 (EC.decL q9k (EC.encL q9k r0.2.1.2.1)) r0.2.1.2.2.1 (EC.decL q9j (EC.encL q9j r0.2.1.2.2.2.1)) (EC.decL q9i (EC.encL q9i r0.2.1.2.2.2.2)) ⟨#[]⟩ (EC.decL q9k []) ⟨#[]⟩ (EC.decL q9j []) (EC.decL q9i [])).bind fun r12 =>
 (brE (r12==true)
 (some true)
 (some false))))))
 (some false))
 (some false))
 (some false))
 (brE ((r0.2.2.2.1==0)==true)
 (brE ((r0.2.2.1==r7)==true)
 (gdE (EC.isL q9h (EC.encL q9h r0.1))<|
 (gdE (EC.isL q9h (EC.encL q9h r9.2))<|
 ((q152 (EC.decL q9h (EC.encL q9h r0.1)) (EC.decL q9h (EC.encL q9h r9.2))).bind fun r12 =>
 (brE (r12==true)
 (gdE (EC.isL q9k (EC.encL q9k r0.2.1.2.1))<|
 (gdE (EC.isL q9j (EC.encL q9j r0.2.1.2.2.2.1))<|
 (gdE (EC.isL q9i (EC.encL q9i r0.2.1.2.2.2.2))<|
 (gdE (EC.isL q9k (EC.encL q9k r8.2.1))<|
 (gdE (EC.isL q9j (EC.encL q9j r8.2.2.1))<|
 (gdE (EC.isL q9i (EC.encL q9i r8.2.2.2))<|
 ((q14o r0.2.1.1 (EC.decL q9k (EC.encL q9k r0.2.1.2.1)) r0.2.1.2.2.1 (EC.decL q9j (EC.encL q9j r0.2.1.2.2.2.1)) (EC.decL q9i (EC.encL q9i r0.2.1.2.2.2.2)) r8.1.1 (EC.decL q9k (EC.encL q9k r8.2.1)) r8.1.2.2.1 (EC.decL q9j (EC.encL q9j r8.2.2.1)) (EC.decL q9i (EC.encL q9i r8.2.2.2))).bind fun r13 =>
 (brE (r13==true)
 (some true)
 (some false)))))))))
 (some false)))))
 (some false))
 (some false)))))))))))))))))
 (brE (r6.1 != 0)
 (brE (((r0.2.2.2.1==r6.1)&&((r0.2.2.2.2==r6.2)&&true))==true)
 (brE ((!r0.2.2.1)==true)
 (brE (((((List.length (EC.encL q9h r0.1)):Nat):Int)==0)==true)
 (gdE (EC.isL q9k (EC.encL q9k r0.2.1.2.1))<|
 (gdE (EC.isL q9j (EC.encL q9j r0.2.1.2.2.2.1))<|
 (gdE (EC.isL q9i (EC.encL q9i r0.2.1.2.2.2.2))<|
 ((q14o r0.2.1.1 (EC.decL q9k (EC.encL q9k r0.2.1.2.1)) r0.2.1.2.2.1 (EC.decL q9j (EC.encL q9j r0.2.1.2.2.2.1)) (EC.decL q9i (EC.encL q9i r0.2.1.2.2.2.2)) ⟨#[]⟩ (EC.decL q9k []) ⟨#[]⟩ (EC.decL q9j []) (EC.decL q9i [])).bind fun r8 =>
 (brE (r8==true)
 (some true)
 (some false))))))
 (some false))
 (some false))
 (some false))
 (brE ((r0.2.2.2.1==0)==true)
 (brE ((r0.2.2.1==r7)==true)
 (gdE (EC.isL q9h (EC.encL q9h r0.1))<|
 (gdE (EC.isL q9h (EC.encL q9h r_))<|
 ((q152 (EC.decL q9h (EC.encL q9h r0.1)) (EC.decL q9h (EC.encL q9h r_))).bind fun r8 =>
 (brE (r8==true)
 (gdE (EC.isL q9k (EC.encL q9k r0.2.1.2.1))<|
 (gdE (EC.isL q9j (EC.encL q9j r0.2.1.2.2.2.1))<|
 (gdE (EC.isL q9i (EC.encL q9i r0.2.1.2.2.2.2))<|
 ((q14o r0.2.1.1 (EC.decL q9k (EC.encL q9k r0.2.1.2.1)) r0.2.1.2.2.1 (EC.decL q9j (EC.encL q9j r0.2.1.2.2.2.1)) (EC.decL q9i (EC.encL q9i r0.2.1.2.2.2.2)) ⟨#[]⟩ (EC.decL q9k []) ⟨#[]⟩ (EC.decL q9j []) (EC.decL q9i [])).bind fun r9 =>
 (brE (r9==true)
 (some true)
 (some false))))))
 (some false)))))
 (some false))
 (some false)))))))))
 (brE (r6.1 != 0)
 (brE (((r0.2.2.2.1==r6.1)&&((r0.2.2.2.2==r6.2)&&true))==true)
 (brE ((!r0.2.2.1)==true)
 (brE (((((List.length (EC.encL q9h r0.1)):Nat):Int)==0)==true)
 (gdE (EC.isL q9k (EC.encL q9k r0.2.1.2.1))<|
 (gdE (EC.isL q9j (EC.encL q9j r0.2.1.2.2.2.1))<|
 (gdE (EC.isL q9i (EC.encL q9i r0.2.1.2.2.2.2))<|
 ((q14o r0.2.1.1 (EC.decL q9k (EC.encL q9k r0.2.1.2.1)) r0.2.1.2.2.1 (EC.decL q9j (EC.encL q9j r0.2.1.2.2.2.1)) (EC.decL q9i (EC.encL q9i r0.2.1.2.2.2.2)) ⟨#[]⟩ (EC.decL q9k []) ⟨#[]⟩ (EC.decL q9j []) (EC.decL q9i [])).bind fun r7 =>
 (brE (r7==true)
 (some true)
 (some false))))))
 (some false))
 (some false))
 (some false))
 (brE ((r0.2.2.2.1==0)==true)
 (brE ((r0.2.2.1==false)==true)
 (gdE (EC.isL q9h (EC.encL q9h r0.1))<|
 (gdE (EC.isL q9h (EC.encL q9h r_))<|
 ((q152 (EC.decL q9h (EC.encL q9h r0.1)) (EC.decL q9h (EC.encL q9h r_))).bind fun r7 =>
 (brE (r7==true)
 (gdE (EC.isL q9k (EC.encL q9k r0.2.1.2.1))<|
 (gdE (EC.isL q9j (EC.encL q9j r0.2.1.2.2.2.1))<|
 (gdE (EC.isL q9i (EC.encL q9i r0.2.1.2.2.2.2))<|
 ((q14o r0.2.1.1 (EC.decL q9k (EC.encL q9k r0.2.1.2.1)) r0.2.1.2.2.1 (EC.decL q9j (EC.encL q9j r0.2.1.2.2.2.1)) (EC.decL q9i (EC.encL q9i r0.2.1.2.2.2.2)) ⟨#[]⟩ (EC.decL q9k []) ⟨#[]⟩ (EC.decL q9j []) (EC.decL q9i [])).bind fun r8 =>
 (brE (r8==true)
 (some true)
 (some false))))))
 (some false)))))
 (some false))
 (some false)))))
 (brE (decide ((text.size:Int)>4000))
 ((qzg 1 (-5)).bind fun r6 =>
 (brE ((r6.1==0)==true)
 (gdE (EC.isL q9h (EC.encL q9h r_))<|
 (gdE (EC.isL q9k (EC.encL q9k m_Envelope_To))<|
 (gdE (EC.isL q9j (EC.encL q9j m_Message_Fields))<|
 (gdE (EC.isL q9i (EC.encL q9i m_Message_Body))<|
 ((q12m (EC.decL q9h (EC.encL q9h r_)) m_Envelope_From (EC.decL q9k (EC.encL q9k m_Envelope_To)) m_Envelope_Id (EC.decL q9j (EC.encL q9j m_Message_Fields)) (EC.decL q9i (EC.encL q9i m_Message_Body)) me now).bind fun r7 =>
 (brE r7
 (gdE (EC.isL q9k (EC.encL q9k m_Envelope_To))<|
 (gdE (EC.isL q9j (EC.encL q9j m_Message_Fields))<|
 (gdE (EC.isL q9i (EC.encL q9i m_Message_Body))<|
 ((q14a m_Envelope_From (EC.decL q9k (EC.encL q9k m_Envelope_To)) m_Envelope_Id (EC.decL q9j (EC.encL q9j m_Message_Fields)) (EC.decL q9i (EC.encL q9i m_Message_Body)) me text).bind fun r8 =>
 (gdE (EC.isL q9h (EC.encL q9h r_))<|
 ((q144 (EC.decL q9h (EC.encL q9h r_)) m_Envelope_From now).bind fun r9 =>
 (gdE (EC.isL q9k (EC.encL q9k r8.2.1))<|
 ((qbd r8.1.1 (EC.decL q9k (EC.encL q9k r8.2.1)) r8.1.2.2.1).bind fun r10 =>
 (brE (r10.1 != 0)
 ((qzg r10.1 (-7)).bind fun r11 =>
 (brE (r11.1 != 0)
 (brE (((r0.2.2.2.1==r11.1)&&((r0.2.2.2.2==r11.2)&&true))==true)
 (brE ((!r0.2.2.1)==true)
 (brE (((((List.length (EC.encL q9h r0.1)):Nat):Int)==0)==true)
 (gdE (EC.isL q9k (EC.encL q9k r0.2.1.2.1))<|
 (gdE (EC.isL q9j (EC.encL q9j r0.2.1.2.2.2.1))<|
 (gdE (EC.isL q9i (EC.encL q9i r0.2.1.2.2.2.2))<|
 ((q14o r0.2.1.1 (EC.decL q9k (EC.encL q9k r0.2.1.2.1)) r0.2.1.2.2.1 (EC.decL q9j (EC.encL q9j r0.2.1.2.2.2.1)) (EC.decL q9i (EC.encL q9i r0.2.1.2.2.2.2)) ⟨#[]⟩ (EC.decL q9k []) ⟨#[]⟩ (EC.decL q9j []) (EC.decL q9i [])).bind fun r12 =>
 (brE (r12==true)
 (some true)
 (some false))))))
 (some false))
 (some false))
 (some false))
 (brE ((r0.2.2.2.1==0)==true)
 (brE ((r0.2.2.1==r7)==true)
 (gdE (EC.isL q9h (EC.encL q9h r0.1))<|
 (gdE (EC.isL q9h (EC.encL q9h r9.2))<|
 ((q152 (EC.decL q9h (EC.encL q9h r0.1)) (EC.decL q9h (EC.encL q9h r9.2))).bind fun r12 =>
 (brE (r12==true)
 (gdE (EC.isL q9k (EC.encL q9k r0.2.1.2.1))<|
 (gdE (EC.isL q9j (EC.encL q9j r0.2.1.2.2.2.1))<|
 (gdE (EC.isL q9i (EC.encL q9i r0.2.1.2.2.2.2))<|
 (gdE (EC.isL q9k (EC.encL q9k r8.2.1))<|
 (gdE (EC.isL q9j (EC.encL q9j r8.2.2.1))<|
 (gdE (EC.isL q9i (EC.encL q9i r8.2.2.2))<|
 ((q14o r0.2.1.1 (EC.decL q9k (EC.encL q9k r0.2.1.2.1)) r0.2.1.2.2.1 (EC.decL q9j (EC.encL q9j r0.2.1.2.2.2.1)) (EC.decL q9i (EC.encL q9i r0.2.1.2.2.2.2)) r8.1.1 (EC.decL q9k (EC.encL q9k r8.2.1)) r8.1.2.2.1 (EC.decL q9j (EC.encL q9j r8.2.2.1)) (EC.decL q9i (EC.encL q9i r8.2.2.2))).bind fun r13 =>
 (brE (r13==true)
 (some true)
 (some false)))))))))
 (some false)))))
 (some false))
 (some false))))
 (gdE (EC.isL q9j (EC.encL q9j r8.2.2.1))<|
 (gdE (EC.isL q9i (EC.encL q9i r8.2.2.2))<|
 ((qlf (EC.decL q9j (EC.encL q9j r8.2.2.1)) (EC.decL q9i (EC.encL q9i r8.2.2.2))).bind fun r11 =>
 (brE (r11.1 != 0)
 ((qzg r11.1 (-7)).bind fun r12 =>
 (brE (r12.1 != 0)
 (brE (((r0.2.2.2.1==r12.1)&&((r0.2.2.2.2==r12.2)&&true))==true)
 (brE ((!r0.2.2.1)==true)
 (brE (((((List.length (EC.encL q9h r0.1)):Nat):Int)==0)==true)
 (gdE (EC.isL q9k (EC.encL q9k r0.2.1.2.1))<|
 (gdE (EC.isL q9j (EC.encL q9j r0.2.1.2.2.2.1))<|
 (gdE (EC.isL q9i (EC.encL q9i r0.2.1.2.2.2.2))<|
 ((q14o r0.2.1.1 (EC.decL q9k (EC.encL q9k r0.2.1.2.1)) r0.2.1.2.2.1 (EC.decL q9j (EC.encL q9j r0.2.1.2.2.2.1)) (EC.decL q9i (EC.encL q9i r0.2.1.2.2.2.2)) ⟨#[]⟩ (EC.decL q9k []) ⟨#[]⟩ (EC.decL q9j []) (EC.decL q9i [])).bind fun r13 =>
 (brE (r13==true)
 (some true)
 (some false))))))
 (some false))
 (some false))
 (some false))
 (brE ((r0.2.2.2.1==0)==true)
 (brE ((r0.2.2.1==r7)==true)
 (gdE (EC.isL q9h (EC.encL q9h r0.1))<|
 (gdE (EC.isL q9h (EC.encL q9h r9.2))<|
 ((q152 (EC.decL q9h (EC.encL q9h r0.1)) (EC.decL q9h (EC.encL q9h r9.2))).bind fun r13 =>
 (brE (r13==true)
 (gdE (EC.isL q9k (EC.encL q9k r0.2.1.2.1))<|
 (gdE (EC.isL q9j (EC.encL q9j r0.2.1.2.2.2.1))<|
 (gdE (EC.isL q9i (EC.encL q9i r0.2.1.2.2.2.2))<|
 (gdE (EC.isL q9k (EC.encL q9k r8.2.1))<|
 (gdE (EC.isL q9j (EC.encL q9j r8.2.2.1))<|
 (gdE (EC.isL q9i (EC.encL q9i r8.2.2.2))<|
 ((q14o r0.2.1.1 (EC.decL q9k (EC.encL q9k r0.2.1.2.1)) r0.2.1.2.2.1 (EC.decL q9j (EC.encL q9j r0.2.1.2.2.2.1)) (EC.decL q9i (EC.encL q9i r0.2.1.2.2.2.2)) r8.1.1 (EC.decL q9k (EC.encL q9k r8.2.1)) r8.1.2.2.1 (EC.decL q9j (EC.encL q9j r8.2.2.1)) (EC.decL q9i (EC.encL q9i r8.2.2.2))).bind fun r14 =>
 (brE (r14==true)
 (some true)
 (some false)))))))))
 (some false)))))
 (some false))
 (some false))))
 (brE (!r9.1.2)
 ((qzg 2 (-1)).bind fun r12 =>
 (brE (r12.1 != 0)
 (brE (((r0.2.2.2.1==r12.1)&&((r0.2.2.2.2==r12.2)&&true))==true)
 (brE ((!r0.2.2.1)==true)
 (brE (((((List.length (EC.encL q9h r0.1)):Nat):Int)==0)==true)
 (gdE (EC.isL q9k (EC.encL q9k r0.2.1.2.1))<|
 (gdE (EC.isL q9j (EC.encL q9j r0.2.1.2.2.2.1))<|
 (gdE (EC.isL q9i (EC.encL q9i r0.2.1.2.2.2.2))<|
 ((q14o r0.2.1.1 (EC.decL q9k (EC.encL q9k r0.2.1.2.1)) r0.2.1.2.2.1 (EC.decL q9j (EC.encL q9j r0.2.1.2.2.2.1)) (EC.decL q9i (EC.encL q9i r0.2.1.2.2.2.2)) ⟨#[]⟩ (EC.decL q9k []) ⟨#[]⟩ (EC.decL q9j []) (EC.decL q9i [])).bind fun r13 =>
 (brE (r13==true)
 (some true)
 (some false))))))
 (some false))
 (some false))
 (some false))
 (brE ((r0.2.2.2.1==0)==true)
 (brE ((r0.2.2.1==r7)==true)
 (gdE (EC.isL q9h (EC.encL q9h r0.1))<|
 (gdE (EC.isL q9h (EC.encL q9h r9.2))<|
 ((q152 (EC.decL q9h (EC.encL q9h r0.1)) (EC.decL q9h (EC.encL q9h r9.2))).bind fun r13 =>
 (brE (r13==true)
 (gdE (EC.isL q9k (EC.encL q9k r0.2.1.2.1))<|
 (gdE (EC.isL q9j (EC.encL q9j r0.2.1.2.2.2.1))<|
 (gdE (EC.isL q9i (EC.encL q9i r0.2.1.2.2.2.2))<|
 (gdE (EC.isL q9k (EC.encL q9k r8.2.1))<|
 (gdE (EC.isL q9j (EC.encL q9j r8.2.2.1))<|
 (gdE (EC.isL q9i (EC.encL q9i r8.2.2.2))<|
 ((q14o r0.2.1.1 (EC.decL q9k (EC.encL q9k r0.2.1.2.1)) r0.2.1.2.2.1 (EC.decL q9j (EC.encL q9j r0.2.1.2.2.2.1)) (EC.decL q9i (EC.encL q9i r0.2.1.2.2.2.2)) r8.1.1 (EC.decL q9k (EC.encL q9k r8.2.1)) r8.1.2.2.1 (EC.decL q9j (EC.encL q9j r8.2.2.1)) (EC.decL q9i (EC.encL q9i r8.2.2.2))).bind fun r14 =>
 (brE (r14==true)
 (some true)
 (some false)))))))))
 (some false)))))
 (some false))
 (some false))))
 (brE (r6.1 != 0)
 (brE (((r0.2.2.2.1==r6.1)&&((r0.2.2.2.2==r6.2)&&true))==true)
 (brE ((!r0.2.2.1)==true)
 (brE (((((List.length (EC.encL q9h r0.1)):Nat):Int)==0)==true)
 (gdE (EC.isL q9k (EC.encL q9k r0.2.1.2.1))<|
 (gdE (EC.isL q9j (EC.encL q9j r0.2.1.2.2.2.1))<|
 (gdE (EC.isL q9i (EC.encL q9i r0.2.1.2.2.2.2))<|
 ((q14o r0.2.1.1 (EC.decL q9k (EC.encL q9k r0.2.1.2.1)) r0.2.1.2.2.1 (EC.decL q9j (EC.encL q9j r0.2.1.2.2.2.1)) (EC.decL q9i (EC.encL q9i r0.2.1.2.2.2.2)) ⟨#[]⟩ (EC.decL q9k []) ⟨#[]⟩ (EC.decL q9j []) (EC.decL q9i [])).bind fun r12 =>
 (brE (r12==true)
 (some true)
 (some false))))))
 (some false))
 (some false))
 (some false))
 (brE ((r0.2.2.2.1==0)==true)
 (brE ((r0.2.2.1==r7)==true)
 (gdE (EC.isL q9h (EC.encL q9h r0.1))<|
 (gdE (EC.isL q9h (EC.encL q9h r9.2))<|
 ((q152 (EC.decL q9h (EC.encL q9h r0.1)) (EC.decL q9h (EC.encL q9h r9.2))).bind fun r12 =>
 (brE (r12==true)
 (gdE (EC.isL q9k (EC.encL q9k r0.2.1.2.1))<|
 (gdE (EC.isL q9j (EC.encL q9j r0.2.1.2.2.2.1))<|
 (gdE (EC.isL q9i (EC.encL q9i r0.2.1.2.2.2.2))<|
 (gdE (EC.isL q9k (EC.encL q9k r8.2.1))<|
 (gdE (EC.isL q9j (EC.encL q9j r8.2.2.1))<|
 (gdE (EC.isL q9i (EC.encL q9i r8.2.2.2))<|
 ((q14o r0.2.1.1 (EC.decL q9k (EC.encL q9k r0.2.1.2.1)) r0.2.1.2.2.1 (EC.decL q9j (EC.encL q9j r0.2.1.2.2.2.1)) (EC.decL q9i (EC.encL q9i r0.2.1.2.2.2.2)) r8.1.1 (EC.decL q9k (EC.encL q9k r8.2.1)) r8.1.2.2.1 (EC.decL q9j (EC.encL q9j r8.2.2.1)) (EC.decL q9i (EC.encL q9i r8.2.2.2))).bind fun r13 =>
 (brE (r13==true)
 (some true)
 (some false)))))))))
 (some false)))))
 (some false))
 (some false)))))))))))))))))
 (brE (r6.1 != 0)
 (brE (((r0.2.2.2.1==r6.1)&&((r0.2.2.2.2==r6.2)&&true))==true)
 (brE ((!r0.2.2.1)==true)
 (brE (((((List.length (EC.encL q9h r0.1)):Nat):Int)==0)==true)
 (gdE (EC.isL q9k (EC.encL q9k r0.2.1.2.1))<|
 (gdE (EC.isL q9j (EC.encL q9j r0.2.1.2.2.2.1))<|
 (gdE (EC.isL q9i (EC.encL q9i r0.2.1.2.2.2.2))<|
 ((q14o r0.2.1.1 (EC.decL q9k (EC.encL q9k r0.2.1.2.1)) r0.2.1.2.2.1 (EC.decL q9j (EC.encL q9j r0.2.1.2.2.2.1)) (EC.decL q9i (EC.encL q9i r0.2.1.2.2.2.2)) ⟨#[]⟩ (EC.decL q9k []) ⟨#[]⟩ (EC.decL q9j []) (EC.decL q9i [])).bind fun r8 =>
 (brE (r8==true)
 (some true)
 (some false))))))
 (some false))
 (some false))
 (some false))
 (brE ((r0.2.2.2.1==0)==true)
 (brE ((r0.2.2.1==r7)==true)
 (gdE (EC.isL q9h (EC.encL q9h r0.1))<|
 (gdE (EC.isL q9h (EC.encL q9h r_))<|
 ((q152 (EC.decL q9h (EC.encL q9h r0.1)) (EC.decL q9h (EC.encL q9h r_))).bind fun r8 =>
 (brE (r8==true)
 (gdE (EC.isL q9k (EC.encL q9k r0.2.1.2.1))<|
 (gdE (EC.isL q9j (EC.encL q9j r0.2.1.2.2.2.1))<|
 (gdE (EC.isL q9i (EC.encL q9i r0.2.1.2.2.2.2))<|
 ((q14o r0.2.1.1 (EC.decL q9k (EC.encL q9k r0.2.1.2.1)) r0.2.1.2.2.1 (EC.decL q9j (EC.encL q9j r0.2.1.2.2.2.1)) (EC.decL q9i (EC.encL q9i r0.2.1.2.2.2.2)) ⟨#[]⟩ (EC.decL q9k []) ⟨#[]⟩ (EC.decL q9j []) (EC.decL q9i [])).bind fun r9 =>
 (brE (r9==true)
 (some true)
 (some false))))))
 (some false)))))
 (some false))
 (some false)))))))))
 (brE (r6.1 != 0)
 (brE (((r0.2.2.2.1==r6.1)&&((r0.2.2.2.2==r6.2)&&true))==true)
 (brE ((!r0.2.2.1)==true)
 (brE (((((List.length (EC.encL q9h r0.1)):Nat):Int)==0)==true)
 (gdE (EC.isL q9k (EC.encL q9k r0.2.1.2.1))<|
 (gdE (EC.isL q9j (EC.encL q9j r0.2.1.2.2.2.1))<|
 (gdE (EC.isL q9i (EC.encL q9i r0.2.1.2.2.2.2))<|
 ((q14o r0.2.1.1 (EC.decL q9k (EC.encL q9k r0.2.1.2.1)) r0.2.1.2.2.1 (EC.decL q9j (EC.encL q9j r0.2.1.2.2.2.1)) (EC.decL q9i (EC.encL q9i r0.2.1.2.2.2.2)) ⟨#[]⟩ (EC.decL q9k []) ⟨#[]⟩ (EC.decL q9j []) (EC.decL q9i [])).bind fun r7 =>
 (brE (r7==true)
 (some true)
 (some false))))))
 (some false))
 (some false))
 (some false))
 (brE ((r0.2.2.2.1==0)==true)
 (brE ((r0.2.2.1==false)==true)
 (gdE (EC.isL q9h (EC.encL q9h r0.1))<|
 (gdE (EC.isL q9h (EC.encL q9h r_))<|
 ((q152 (EC.decL q9h (EC.encL q9h r0.1)) (EC.decL q9h (EC.encL q9h r_))).bind fun r7 =>
 (brE (r7==true)
 (gdE (EC.isL q9k (EC.encL q9k r0.2.1.2.1))<|
 (gdE (EC.isL q9j (EC.encL q9j r0.2.1.2.2.2.1))<|
 (gdE (EC.isL q9i (EC.encL q9i r0.2.1.2.2.2.2))<|
 ((q14o r0.2.1.1 (EC.decL q9k (EC.encL q9k r0.2.1.2.1)) r0.2.1.2.2.1 (EC.decL q9j (EC.encL q9j r0.2.1.2.2.2.1)) (EC.decL q9i (EC.encL q9i r0.2.1.2.2.2.2)) ⟨#[]⟩ (EC.decL q9k []) ⟨#[]⟩ (EC.decL q9j []) (EC.decL q9i [])).bind fun r8 =>
 (brE (r8==true)
 (some true)
 (some false))))))
 (some false)))))
 (some false))
 (some false)))))
 ((q105 now).bind fun r6 =>
 (brE (!r6)
 ((qzg 3 (-6)).bind fun r7 =>
 (brE ((r7.1==0)==true)
 (gdE (EC.isL q9h (EC.encL q9h r_))<|
 (gdE (EC.isL q9k (EC.encL q9k m_Envelope_To))<|
 (gdE (EC.isL q9j (EC.encL q9j m_Message_Fields))<|
 (gdE (EC.isL q9i (EC.encL q9i m_Message_Body))<|
 ((q12m (EC.decL q9h (EC.encL q9h r_)) m_Envelope_From (EC.decL q9k (EC.encL q9k m_Envelope_To)) m_Envelope_Id (EC.decL q9j (EC.encL q9j m_Message_Fields)) (EC.decL q9i (EC.encL q9i m_Message_Body)) me now).bind fun r8 =>
 (brE r8
 (gdE (EC.isL q9k (EC.encL q9k m_Envelope_To))<|
 (gdE (EC.isL q9j (EC.encL q9j m_Message_Fields))<|
 (gdE (EC.isL q9i (EC.encL q9i m_Message_Body))<|
 ((q14a m_Envelope_From (EC.decL q9k (EC.encL q9k m_Envelope_To)) m_Envelope_Id (EC.decL q9j (EC.encL q9j m_Message_Fields)) (EC.decL q9i (EC.encL q9i m_Message_Body)) me text).bind fun r9 =>
 (gdE (EC.isL q9h (EC.encL q9h r_))<|
 ((q144 (EC.decL q9h (EC.encL q9h r_)) m_Envelope_From now).bind fun r10 =>
 (gdE (EC.isL q9k (EC.encL q9k r9.2.1))<|
 ((qbd r9.1.1 (EC.decL q9k (EC.encL q9k r9.2.1)) r9.1.2.2.1).bind fun r11 =>
 (brE (r11.1 != 0)
 ((qzg r11.1 (-7)).bind fun r12 =>
 (brE (r12.1 != 0)
 (brE (((r0.2.2.2.1==r12.1)&&((r0.2.2.2.2==r12.2)&&true))==true)
 (brE ((!r0.2.2.1)==true)
 (brE (((((List.length (EC.encL q9h r0.1)):Nat):Int)==0)==true)
 (gdE (EC.isL q9k (EC.encL q9k r0.2.1.2.1))<|
 (gdE (EC.isL q9j (EC.encL q9j r0.2.1.2.2.2.1))<|
 (gdE (EC.isL q9i (EC.encL q9i r0.2.1.2.2.2.2))<|
 ((q14o r0.2.1.1 (EC.decL q9k (EC.encL q9k r0.2.1.2.1)) r0.2.1.2.2.1 (EC.decL q9j (EC.encL q9j r0.2.1.2.2.2.1)) (EC.decL q9i (EC.encL q9i r0.2.1.2.2.2.2)) ⟨#[]⟩ (EC.decL q9k []) ⟨#[]⟩ (EC.decL q9j []) (EC.decL q9i [])).bind fun r13 =>
 (brE (r13==true)
 (some true)
 (some false))))))
 (some false))
 (some false))
 (some false))
 (brE ((r0.2.2.2.1==0)==true)
 (brE ((r0.2.2.1==r8)==true)
 (gdE (EC.isL q9h (EC.encL q9h r0.1))<|
 (gdE (EC.isL q9h (EC.encL q9h r10.2))<|
 ((q152 (EC.decL q9h (EC.encL q9h r0.1)) (EC.decL q9h (EC.encL q9h r10.2))).bind fun r13 =>
 (brE (r13==true)
 (gdE (EC.isL q9k (EC.encL q9k r0.2.1.2.1))<|
 (gdE (EC.isL q9j (EC.encL q9j r0.2.1.2.2.2.1))<|
 (gdE (EC.isL q9i (EC.encL q9i r0.2.1.2.2.2.2))<|
 (gdE (EC.isL q9k (EC.encL q9k r9.2.1))<|
 (gdE (EC.isL q9j (EC.encL q9j r9.2.2.1))<|
 (gdE (EC.isL q9i (EC.encL q9i r9.2.2.2))<|
 ((q14o r0.2.1.1 (EC.decL q9k (EC.encL q9k r0.2.1.2.1)) r0.2.1.2.2.1 (EC.decL q9j (EC.encL q9j r0.2.1.2.2.2.1)) (EC.decL q9i (EC.encL q9i r0.2.1.2.2.2.2)) r9.1.1 (EC.decL q9k (EC.encL q9k r9.2.1)) r9.1.2.2.1 (EC.decL q9j (EC.encL q9j r9.2.2.1)) (EC.decL q9i (EC.encL q9i r9.2.2.2))).bind fun r14 =>
 (brE (r14==true)
 (some true)
 (some false)))))))))
 (some false)))))
 (some false))
 (some false))))
 (gdE (EC.isL q9j (EC.encL q9j r9.2.2.1))<|
 (gdE (EC.isL q9i (EC.encL q9i r9.2.2.2))<|
 ((qlf (EC.decL q9j (EC.encL q9j r9.2.2.1)) (EC.decL q9i (EC.encL q9i r9.2.2.2))).bind fun r12 =>
 (brE (r12.1 != 0)
 ((qzg r12.1 (-7)).bind fun r13 =>
 (brE (r13.1 != 0)
 (brE (((r0.2.2.2.1==r13.1)&&((r0.2.2.2.2==r13.2)&&true))==true)
 (brE ((!r0.2.2.1)==true)
 (brE (((((List.length (EC.encL q9h r0.1)):Nat):Int)==0)==true)
 (gdE (EC.isL q9k (EC.encL q9k r0.2.1.2.1))<|
 (gdE (EC.isL q9j (EC.encL q9j r0.2.1.2.2.2.1))<|
 (gdE (EC.isL q9i (EC.encL q9i r0.2.1.2.2.2.2))<|
 ((q14o r0.2.1.1 (EC.decL q9k (EC.encL q9k r0.2.1.2.1)) r0.2.1.2.2.1 (EC.decL q9j (EC.encL q9j r0.2.1.2.2.2.1)) (EC.decL q9i (EC.encL q9i r0.2.1.2.2.2.2)) ⟨#[]⟩ (EC.decL q9k []) ⟨#[]⟩ (EC.decL q9j []) (EC.decL q9i [])).bind fun r14 =>
 (brE (r14==true)
 (some true)
 (some false))))))
 (some false))
 (some false))
 (some false))
 (brE ((r0.2.2.2.1==0)==true)
 (brE ((r0.2.2.1==r8)==true)
 (gdE (EC.isL q9h (EC.encL q9h r0.1))<|
 (gdE (EC.isL q9h (EC.encL q9h r10.2))<|
 ((q152 (EC.decL q9h (EC.encL q9h r0.1)) (EC.decL q9h (EC.encL q9h r10.2))).bind fun r14 =>
 (brE (r14==true)
 (gdE (EC.isL q9k (EC.encL q9k r0.2.1.2.1))<|
 (gdE (EC.isL q9j (EC.encL q9j r0.2.1.2.2.2.1))<|
 (gdE (EC.isL q9i (EC.encL q9i r0.2.1.2.2.2.2))<|
 (gdE (EC.isL q9k (EC.encL q9k r9.2.1))<|
 (gdE (EC.isL q9j (EC.encL q9j r9.2.2.1))<|
 (gdE (EC.isL q9i (EC.encL q9i r9.2.2.2))<|
 ((q14o r0.2.1.1 (EC.decL q9k (EC.encL q9k r0.2.1.2.1)) r0.2.1.2.2.1 (EC.decL q9j (EC.encL q9j r0.2.1.2.2.2.1)) (EC.decL q9i (EC.encL q9i r0.2.1.2.2.2.2)) r9.1.1 (EC.decL q9k (EC.encL q9k r9.2.1)) r9.1.2.2.1 (EC.decL q9j (EC.encL q9j r9.2.2.1)) (EC.decL q9i (EC.encL q9i r9.2.2.2))).bind fun r15 =>
 (brE (r15==true)
 (some true)
 (some false)))))))))
 (some false)))))
 (some false))
 (some false))))
 (brE (!r10.1.2)
 ((qzg 2 (-1)).bind fun r13 =>
 (brE (r13.1 != 0)
 (brE (((r0.2.2.2.1==r13.1)&&((r0.2.2.2.2==r13.2)&&true))==true)
 (brE ((!r0.2.2.1)==true)
 (brE (((((List.length (EC.encL q9h r0.1)):Nat):Int)==0)==true)
 (gdE (EC.isL q9k (EC.encL q9k r0.2.1.2.1))<|
 (gdE (EC.isL q9j (EC.encL q9j r0.2.1.2.2.2.1))<|
 (gdE (EC.isL q9i (EC.encL q9i r0.2.1.2.2.2.2))<|
 ((q14o r0.2.1.1 (EC.decL q9k (EC.encL q9k r0.2.1.2.1)) r0.2.1.2.2.1 (EC.decL q9j (EC.encL q9j r0.2.1.2.2.2.1)) (EC.decL q9i (EC.encL q9i r0.2.1.2.2.2.2)) ⟨#[]⟩ (EC.decL q9k []) ⟨#[]⟩ (EC.decL q9j []) (EC.decL q9i [])).bind fun r14 =>
 (brE (r14==true)
 (some true)
 (some false))))))
 (some false))
 (some false))
 (some false))
 (brE ((r0.2.2.2.1==0)==true)
 (brE ((r0.2.2.1==r8)==true)
 (gdE (EC.isL q9h (EC.encL q9h r0.1))<|
 (gdE (EC.isL q9h (EC.encL q9h r10.2))<|
 ((q152 (EC.decL q9h (EC.encL q9h r0.1)) (EC.decL q9h (EC.encL q9h r10.2))).bind fun r14 =>
 (brE (r14==true)
 (gdE (EC.isL q9k (EC.encL q9k r0.2.1.2.1))<|
 (gdE (EC.isL q9j (EC.encL q9j r0.2.1.2.2.2.1))<|
 (gdE (EC.isL q9i (EC.encL q9i r0.2.1.2.2.2.2))<|
 (gdE (EC.isL q9k (EC.encL q9k r9.2.1))<|
 (gdE (EC.isL q9j (EC.encL q9j r9.2.2.1))<|
 (gdE (EC.isL q9i (EC.encL q9i r9.2.2.2))<|
 ((q14o r0.2.1.1 (EC.decL q9k (EC.encL q9k r0.2.1.2.1)) r0.2.1.2.2.1 (EC.decL q9j (EC.encL q9j r0.2.1.2.2.2.1)) (EC.decL q9i (EC.encL q9i r0.2.1.2.2.2.2)) r9.1.1 (EC.decL q9k (EC.encL q9k r9.2.1)) r9.1.2.2.1 (EC.decL q9j (EC.encL q9j r9.2.2.1)) (EC.decL q9i (EC.encL q9i r9.2.2.2))).bind fun r15 =>
 (brE (r15==true)
 (some true)
 (some false)))))))))
 (some false)))))
 (some false))
 (some false))))
 (brE (r7.1 != 0)
 (brE (((r0.2.2.2.1==r7.1)&&((r0.2.2.2.2==r7.2)&&true))==true)
 (brE ((!r0.2.2.1)==true)
 (brE (((((List.length (EC.encL q9h r0.1)):Nat):Int)==0)==true)
 (gdE (EC.isL q9k (EC.encL q9k r0.2.1.2.1))<|
 (gdE (EC.isL q9j (EC.encL q9j r0.2.1.2.2.2.1))<|
 (gdE (EC.isL q9i (EC.encL q9i r0.2.1.2.2.2.2))<|
 ((q14o r0.2.1.1 (EC.decL q9k (EC.encL q9k r0.2.1.2.1)) r0.2.1.2.2.1 (EC.decL q9j (EC.encL q9j r0.2.1.2.2.2.1)) (EC.decL q9i (EC.encL q9i r0.2.1.2.2.2.2)) ⟨#[]⟩ (EC.decL q9k []) ⟨#[]⟩ (EC.decL q9j []) (EC.decL q9i [])).bind fun r13 =>
 (brE (r13==true)
 (some true)
 (some false))))))
 (some false))
 (some false))
 (some false))
 (brE ((r0.2.2.2.1==0)==true)
 (brE ((r0.2.2.1==r8)==true)
 (gdE (EC.isL q9h (EC.encL q9h r0.1))<|
 (gdE (EC.isL q9h (EC.encL q9h r10.2))<|
 ((q152 (EC.decL q9h (EC.encL q9h r0.1)) (EC.decL q9h (EC.encL q9h r10.2))).bind fun r13 =>
 (brE (r13==true)
 (gdE (EC.isL q9k (EC.encL q9k r0.2.1.2.1))<|
 (gdE (EC.isL q9j (EC.encL q9j r0.2.1.2.2.2.1))<|
 (gdE (EC.isL q9i (EC.encL q9i r0.2.1.2.2.2.2))<|
 (gdE (EC.isL q9k (EC.encL q9k r9.2.1))<|
 (gdE (EC.isL q9j (EC.encL q9j r9.2.2.1))<|
 (gdE (EC.isL q9i (EC.encL q9i r9.2.2.2))<|
 ((q14o r0.2.1.1 (EC.decL q9k (EC.encL q9k r0.2.1.2.1)) r0.2.1.2.2.1 (EC.decL q9j (EC.encL q9j r0.2.1.2.2.2.1)) (EC.decL q9i (EC.encL q9i r0.2.1.2.2.2.2)) r9.1.1 (EC.decL q9k (EC.encL q9k r9.2.1)) r9.1.2.2.1 (EC.decL q9j (EC.encL q9j r9.2.2.1)) (EC.decL q9i (EC.encL q9i r9.2.2.2))).bind fun r14 =>
 (brE (r14==true)
 (some true)
 (some false)))))))))
 (some false)))))
 (some false))
 (some false)))))))))))))))))
 (brE (r7.1 != 0)
 (brE (((r0.2.2.2.1==r7.1)&&((r0.2.2.2.2==r7.2)&&true))==true)
 (brE ((!r0.2.2.1)==true)
 (brE (((((List.length (EC.encL q9h r0.1)):Nat):Int)==0)==true)
 (gdE (EC.isL q9k (EC.encL q9k r0.2.1.2.1))<|
 (gdE (EC.isL q9j (EC.encL q9j r0.2.1.2.2.2.1))<|
 (gdE (EC.isL q9i (EC.encL q9i r0.2.1.2.2.2.2))<|
 ((q14o r0.2.1.1 (EC.decL q9k (EC.encL q9k r0.2.1.2.1)) r0.2.1.2.2.1 (EC.decL q9j (EC.encL q9j r0.2.1.2.2.2.1)) (EC.decL q9i (EC.encL q9i r0.2.1.2.2.2.2)) ⟨#[]⟩ (EC.decL q9k []) ⟨#[]⟩ (EC.decL q9j []) (EC.decL q9i [])).bind fun r9 =>
 (brE (r9==true)
 (some true)
 (some false))))))
 (some false))
 (some false))
 (some false))
 (brE ((r0.2.2.2.1==0)==true)
 (brE ((r0.2.2.1==r8)==true)
 (gdE (EC.isL q9h (EC.encL q9h r0.1))<|
 (gdE (EC.isL q9h (EC.encL q9h r_))<|
 ((q152 (EC.decL q9h (EC.encL q9h r0.1)) (EC.decL q9h (EC.encL q9h r_))).bind fun r9 =>
 (brE (r9==true)
 (gdE (EC.isL q9k (EC.encL q9k r0.2.1.2.1))<|
 (gdE (EC.isL q9j (EC.encL q9j r0.2.1.2.2.2.1))<|
 (gdE (EC.isL q9i (EC.encL q9i r0.2.1.2.2.2.2))<|
 ((q14o r0.2.1.1 (EC.decL q9k (EC.encL q9k r0.2.1.2.1)) r0.2.1.2.2.1 (EC.decL q9j (EC.encL q9j r0.2.1.2.2.2.1)) (EC.decL q9i (EC.encL q9i r0.2.1.2.2.2.2)) ⟨#[]⟩ (EC.decL q9k []) ⟨#[]⟩ (EC.decL q9j []) (EC.decL q9i [])).bind fun r10 =>
 (brE (r10==true)
 (some true)
 (some false))))))
 (some false)))))
 (some false))
 (some false)))))))))
 (brE (r7.1 != 0)
 (brE (((r0.2.2.2.1==r7.1)&&((r0.2.2.2.2==r7.2)&&true))==true)
 (brE ((!r0.2.2.1)==true)
 (brE (((((List.length (EC.encL q9h r0.1)):Nat):Int)==0)==true)
 (gdE (EC.isL q9k (EC.encL q9k r0.2.1.2.1))<|
 (gdE (EC.isL q9j (EC.encL q9j r0.2.1.2.2.2.1))<|
 (gdE (EC.isL q9i (EC.encL q9i r0.2.1.2.2.2.2))<|
 ((q14o r0.2.1.1 (EC.decL q9k (EC.encL q9k r0.2.1.2.1)) r0.2.1.2.2.1 (EC.decL q9j (EC.encL q9j r0.2.1.2.2.2.1)) (EC.decL q9i (EC.encL q9i r0.2.1.2.2.2.2)) ⟨#[]⟩ (EC.decL q9k []) ⟨#[]⟩ (EC.decL q9j []) (EC.decL q9i [])).bind fun r8 =>
 (brE (r8==true)
 (some true)
 (some false))))))
 (some false))
 (some false))
 (some false))
 (brE ((r0.2.2.2.1==0)==true)
 (brE ((r0.2.2.1==false)==true)
 (gdE (EC.isL q9h (EC.encL q9h r0.1))<|
 (gdE (EC.isL q9h (EC.encL q9h r_))<|
 ((q152 (EC.decL q9h (EC.encL q9h r0.1)) (EC.decL q9h (EC.encL q9h r_))).bind fun r8 =>
 (brE (r8==true)
 (gdE (EC.isL q9k (EC.encL q9k r0.2.1.2.1))<|
 (gdE (EC.isL q9j (EC.encL q9j r0.2.1.2.2.2.1))<|
 (gdE (EC.isL q9i (EC.encL q9i r0.2.1.2.2.2.2))<|
 ((q14o r0.2.1.1 (EC.decL q9k (EC.encL q9k r0.2.1.2.1)) r0.2.1.2.2.1 (EC.decL q9j (EC.encL q9j r0.2.1.2.2.2.1)) (EC.decL q9i (EC.encL q9i r0.2.1.2.2.2.2)) ⟨#[]⟩ (EC.decL q9k []) ⟨#[]⟩ (EC.decL q9j []) (EC.decL q9i [])).bind fun r9 =>
 (brE (r9==true)
 (some true)
 (some false))))))
 (some false)))))
 (some false))
 (some false)))))
 (gdE (EC.isL q9h (EC.encL q9h r_))<|
 ((q13d (EC.decL q9h (EC.encL q9h r_)) m_Envelope_From).bind fun r7 =>
 (brE ((decide (r7≥0))==true)
 (gdE (decide (0≤r7))<|
 (gdE ((decide ((Int.toNat r7)<(List.length (EC.encL q9h r_))))&&(isE [K1.str,(K1.int Go.IntKind.i64)] 0 (List.getD (EC.encL q9h r_) (Int.toNat r7) [])))<|
 (brE (decide ((qiy (List.getD (List.getD (EC.encL q9h r_) (Int.toNat r7) []) 1 C.ne))>now))
 ((qzg 19 r7).bind fun r8 =>
 (brE ((r8.1==0)==true)
 (gdE (EC.isL q9h (EC.encL q9h r_))<|
 (gdE (EC.isL q9k (EC.encL q9k m_Envelope_To))<|
 (gdE (EC.isL q9j (EC.encL q9j m_Message_Fields))<|
 (gdE (EC.isL q9i (EC.encL q9i m_Message_Body))<|
 ((q12m (EC.decL q9h (EC.encL q9h r_)) m_Envelope_From (EC.decL q9k (EC.encL q9k m_Envelope_To)) m_Envelope_Id (EC.decL q9j (EC.encL q9j m_Message_Fields)) (EC.decL q9i (EC.encL q9i m_Message_Body)) me now).bind fun r9 =>
 (brE r9
 (gdE (EC.isL q9k (EC.encL q9k m_Envelope_To))<|
 (gdE (EC.isL q9j (EC.encL q9j m_Message_Fields))<|
 (gdE (EC.isL q9i (EC.encL q9i m_Message_Body))<|
 ((q14a m_Envelope_From (EC.decL q9k (EC.encL q9k m_Envelope_To)) m_Envelope_Id (EC.decL q9j (EC.encL q9j m_Message_Fields)) (EC.decL q9i (EC.encL q9i m_Message_Body)) me text).bind fun r10 =>
 (gdE (EC.isL q9h (EC.encL q9h r_))<|
 ((q144 (EC.decL q9h (EC.encL q9h r_)) m_Envelope_From now).bind fun r11 =>
 (gdE (EC.isL q9k (EC.encL q9k r10.2.1))<|
 ((qbd r10.1.1 (EC.decL q9k (EC.encL q9k r10.2.1)) r10.1.2.2.1).bind fun r12 =>
 (brE (r12.1 != 0)
 ((qzg r12.1 (-7)).bind fun r13 =>
 (brE (r13.1 != 0)
 (brE (((r0.2.2.2.1==r13.1)&&((r0.2.2.2.2==r13.2)&&true))==true)
 (brE ((!r0.2.2.1)==true)
 (brE (((((List.length (EC.encL q9h r0.1)):Nat):Int)==0)==true)
 (gdE (EC.isL q9k (EC.encL q9k r0.2.1.2.1))<|
 (gdE (EC.isL q9j (EC.encL q9j r0.2.1.2.2.2.1))<|
 (gdE (EC.isL q9i (EC.encL q9i r0.2.1.2.2.2.2))<|
 ((q14o r0.2.1.1 (EC.decL q9k (EC.encL q9k r0.2.1.2.1)) r0.2.1.2.2.1 (EC.decL q9j (EC.encL q9j r0.2.1.2.2.2.1)) (EC.decL q9i (EC.encL q9i r0.2.1.2.2.2.2)) ⟨#[]⟩ (EC.decL q9k []) ⟨#[]⟩ (EC.decL q9j []) (EC.decL q9i [])).bind fun r14 =>
 (brE (r14==true)
 (some true)
 (some false))))))
 (some false))
 (some false))
 (some false))
 (brE ((r0.2.2.2.1==0)==true)
 (brE ((r0.2.2.1==r9)==true)
 (gdE (EC.isL q9h (EC.encL q9h r0.1))<|
 (gdE (EC.isL q9h (EC.encL q9h r11.2))<|
 ((q152 (EC.decL q9h (EC.encL q9h r0.1)) (EC.decL q9h (EC.encL q9h r11.2))).bind fun r14 =>
 (brE (r14==true)
 (gdE (EC.isL q9k (EC.encL q9k r0.2.1.2.1))<|
 (gdE (EC.isL q9j (EC.encL q9j r0.2.1.2.2.2.1))<|
 (gdE (EC.isL q9i (EC.encL q9i r0.2.1.2.2.2.2))<|
 (gdE (EC.isL q9k (EC.encL q9k r10.2.1))<|
 (gdE (EC.isL q9j (EC.encL q9j r10.2.2.1))<|
 (gdE (EC.isL q9i (EC.encL q9i r10.2.2.2))<|
 ((q14o r0.2.1.1 (EC.decL q9k (EC.encL q9k r0.2.1.2.1)) r0.2.1.2.2.1 (EC.decL q9j (EC.encL q9j r0.2.1.2.2.2.1)) (EC.decL q9i (EC.encL q9i r0.2.1.2.2.2.2)) r10.1.1 (EC.decL q9k (EC.encL q9k r10.2.1)) r10.1.2.2.1 (EC.decL q9j (EC.encL q9j r10.2.2.1)) (EC.decL q9i (EC.encL q9i r10.2.2.2))).bind fun r15 =>
 (brE (r15==true)
 (some true)
 (some false)))))))))
 (some false)))))
 (some false))
 (some false))))
 (gdE (EC.isL q9j (EC.encL q9j r10.2.2.1))<|
 (gdE (EC.isL q9i (EC.encL q9i r10.2.2.2))<|
 ((qlf (EC.decL q9j (EC.encL q9j r10.2.2.1)) (EC.decL q9i (EC.encL q9i r10.2.2.2))).bind fun r13 =>
 (brE (r13.1 != 0)
 ((qzg r13.1 (-7)).bind fun r14 =>
 (brE (r14.1 != 0)
 (brE (((r0.2.2.2.1==r14.1)&&((r0.2.2.2.2==r14.2)&&true))==true)
 (brE ((!r0.2.2.1)==true)
 (brE (((((List.length (EC.encL q9h r0.1)):Nat):Int)==0)==true)
 (gdE (EC.isL q9k (EC.encL q9k r0.2.1.2.1))<|
 (gdE (EC.isL q9j (EC.encL q9j r0.2.1.2.2.2.1))<|
 (gdE (EC.isL q9i (EC.encL q9i r0.2.1.2.2.2.2))<|
 ((q14o r0.2.1.1 (EC.decL q9k (EC.encL q9k r0.2.1.2.1)) r0.2.1.2.2.1 (EC.decL q9j (EC.encL q9j r0.2.1.2.2.2.1)) (EC.decL q9i (EC.encL q9i r0.2.1.2.2.2.2)) ⟨#[]⟩ (EC.decL q9k []) ⟨#[]⟩ (EC.decL q9j []) (EC.decL q9i [])).bind fun r15 =>
 (brE (r15==true)
 (some true)
 (some false))))))
 (some false))
 (some false))
 (some false))
 (brE ((r0.2.2.2.1==0)==true)
 (brE ((r0.2.2.1==r9)==true)
 (gdE (EC.isL q9h (EC.encL q9h r0.1))<|
 (gdE (EC.isL q9h (EC.encL q9h r11.2))<|
 ((q152 (EC.decL q9h (EC.encL q9h r0.1)) (EC.decL q9h (EC.encL q9h r11.2))).bind fun r15 =>
 (brE (r15==true)
 (gdE (EC.isL q9k (EC.encL q9k r0.2.1.2.1))<|
 (gdE (EC.isL q9j (EC.encL q9j r0.2.1.2.2.2.1))<|
 (gdE (EC.isL q9i (EC.encL q9i r0.2.1.2.2.2.2))<|
 (gdE (EC.isL q9k (EC.encL q9k r10.2.1))<|
 (gdE (EC.isL q9j (EC.encL q9j r10.2.2.1))<|
 (gdE (EC.isL q9i (EC.encL q9i r10.2.2.2))<|
 ((q14o r0.2.1.1 (EC.decL q9k (EC.encL q9k r0.2.1.2.1)) r0.2.1.2.2.1 (EC.decL q9j (EC.encL q9j r0.2.1.2.2.2.1)) (EC.decL q9i (EC.encL q9i r0.2.1.2.2.2.2)) r10.1.1 (EC.decL q9k (EC.encL q9k r10.2.1)) r10.1.2.2.1 (EC.decL q9j (EC.encL q9j r10.2.2.1)) (EC.decL q9i (EC.encL q9i r10.2.2.2))).bind fun r16 =>
 (brE (r16==true)
 (some true)
 (some false)))))))))
 (some false)))))
 (some false))
 (some false))))
 (brE (!r11.1.2)
 ((qzg 2 (-1)).bind fun r14 =>
 (brE (r14.1 != 0)
 (brE (((r0.2.2.2.1==r14.1)&&((r0.2.2.2.2==r14.2)&&true))==true)
 (brE ((!r0.2.2.1)==true)
 (brE (((((List.length (EC.encL q9h r0.1)):Nat):Int)==0)==true)
 (gdE (EC.isL q9k (EC.encL q9k r0.2.1.2.1))<|
 (gdE (EC.isL q9j (EC.encL q9j r0.2.1.2.2.2.1))<|
 (gdE (EC.isL q9i (EC.encL q9i r0.2.1.2.2.2.2))<|
 ((q14o r0.2.1.1 (EC.decL q9k (EC.encL q9k r0.2.1.2.1)) r0.2.1.2.2.1 (EC.decL q9j (EC.encL q9j r0.2.1.2.2.2.1)) (EC.decL q9i (EC.encL q9i r0.2.1.2.2.2.2)) ⟨#[]⟩ (EC.decL q9k []) ⟨#[]⟩ (EC.decL q9j []) (EC.decL q9i [])).bind fun r15 =>
 (brE (r15==true)
 (some true)
 (some false))))))
 (some false))
 (some false))
 (some false))
 (brE ((r0.2.2.2.1==0)==true)
 (brE ((r0.2.2.1==r9)==true)
 (gdE (EC.isL q9h (EC.encL q9h r0.1))<|
 (gdE (EC.isL q9h (EC.encL q9h r11.2))<|
 ((q152 (EC.decL q9h (EC.encL q9h r0.1)) (EC.decL q9h (EC.encL q9h r11.2))).bind fun r15 =>
 (brE (r15==true)
 (gdE (EC.isL q9k (EC.encL q9k r0.2.1.2.1))<|
 (gdE (EC.isL q9j (EC.encL q9j r0.2.1.2.2.2.1))<|
 (gdE (EC.isL q9i (EC.encL q9i r0.2.1.2.2.2.2))<|
 (gdE (EC.isL q9k (EC.encL q9k r10.2.1))<|
 (gdE (EC.isL q9j (EC.encL q9j r10.2.2.1))<|
 (gdE (EC.isL q9i (EC.encL q9i r10.2.2.2))<|
 ((q14o r0.2.1.1 (EC.decL q9k (EC.encL q9k r0.2.1.2.1)) r0.2.1.2.2.1 (EC.decL q9j (EC.encL q9j r0.2.1.2.2.2.1)) (EC.decL q9i (EC.encL q9i r0.2.1.2.2.2.2)) r10.1.1 (EC.decL q9k (EC.encL q9k r10.2.1)) r10.1.2.2.1 (EC.decL q9j (EC.encL q9j r10.2.2.1)) (EC.decL q9i (EC.encL q9i r10.2.2.2))).bind fun r16 =>
 (brE (r16==true)
 (some true)
 (some false)))))))))
 (some false)))))
 (some false))
 (some false))))
 (brE (r8.1 != 0)
 (brE (((r0.2.2.2.1==r8.1)&&((r0.2.2.2.2==r8.2)&&true))==true)
 (brE ((!r0.2.2.1)==true)
 (brE (((((List.length (EC.encL q9h r0.1)):Nat):Int)==0)==true)
 (gdE (EC.isL q9k (EC.encL q9k r0.2.1.2.1))<|
 (gdE (EC.isL q9j (EC.encL q9j r0.2.1.2.2.2.1))<|
 (gdE (EC.isL q9i (EC.encL q9i r0.2.1.2.2.2.2))<|
 ((q14o r0.2.1.1 (EC.decL q9k (EC.encL q9k r0.2.1.2.1)) r0.2.1.2.2.1 (EC.decL q9j (EC.encL q9j r0.2.1.2.2.2.1)) (EC.decL q9i (EC.encL q9i r0.2.1.2.2.2.2)) ⟨#[]⟩ (EC.decL q9k []) ⟨#[]⟩ (EC.decL q9j []) (EC.decL q9i [])).bind fun r14 =>
 (brE (r14==true)
 (some true)
 (some false))))))
 (some false))
 (some false))
 (some false))
 (brE ((r0.2.2.2.1==0)==true)
 (brE ((r0.2.2.1==r9)==true)
 (gdE (EC.isL q9h (EC.encL q9h r0.1))<|
 (gdE (EC.isL q9h (EC.encL q9h r11.2))<|
 ((q152 (EC.decL q9h (EC.encL q9h r0.1)) (EC.decL q9h (EC.encL q9h r11.2))).bind fun r14 =>
 (brE (r14==true)
 (gdE (EC.isL q9k (EC.encL q9k r0.2.1.2.1))<|
 (gdE (EC.isL q9j (EC.encL q9j r0.2.1.2.2.2.1))<|
 (gdE (EC.isL q9i (EC.encL q9i r0.2.1.2.2.2.2))<|
 (gdE (EC.isL q9k (EC.encL q9k r10.2.1))<|
 (gdE (EC.isL q9j (EC.encL q9j r10.2.2.1))<|
 (gdE (EC.isL q9i (EC.encL q9i r10.2.2.2))<|
 ((q14o r0.2.1.1 (EC.decL q9k (EC.encL q9k r0.2.1.2.1)) r0.2.1.2.2.1 (EC.decL q9j (EC.encL q9j r0.2.1.2.2.2.1)) (EC.decL q9i (EC.encL q9i r0.2.1.2.2.2.2)) r10.1.1 (EC.decL q9k (EC.encL q9k r10.2.1)) r10.1.2.2.1 (EC.decL q9j (EC.encL q9j r10.2.2.1)) (EC.decL q9i (EC.encL q9i r10.2.2.2))).bind fun r15 =>
 (brE (r15==true)
 (some true)
 (some false)))))))))
 (some false)))))
 (some false))
 (some false)))))))))))))))))
 (brE (r8.1 != 0)
 (brE (((r0.2.2.2.1==r8.1)&&((r0.2.2.2.2==r8.2)&&true))==true)
 (brE ((!r0.2.2.1)==true)
 (brE (((((List.length (EC.encL q9h r0.1)):Nat):Int)==0)==true)
 (gdE (EC.isL q9k (EC.encL q9k r0.2.1.2.1))<|
 (gdE (EC.isL q9j (EC.encL q9j r0.2.1.2.2.2.1))<|
 (gdE (EC.isL q9i (EC.encL q9i r0.2.1.2.2.2.2))<|
 ((q14o r0.2.1.1 (EC.decL q9k (EC.encL q9k r0.2.1.2.1)) r0.2.1.2.2.1 (EC.decL q9j (EC.encL q9j r0.2.1.2.2.2.1)) (EC.decL q9i (EC.encL q9i r0.2.1.2.2.2.2)) ⟨#[]⟩ (EC.decL q9k []) ⟨#[]⟩ (EC.decL q9j []) (EC.decL q9i [])).bind fun r10 =>
 (brE (r10==true)
 (some true)
 (some false))))))
 (some false))
 (some false))
 (some false))
 (brE ((r0.2.2.2.1==0)==true)
 (brE ((r0.2.2.1==r9)==true)
 (gdE (EC.isL q9h (EC.encL q9h r0.1))<|
 (gdE (EC.isL q9h (EC.encL q9h r_))<|
 ((q152 (EC.decL q9h (EC.encL q9h r0.1)) (EC.decL q9h (EC.encL q9h r_))).bind fun r10 =>
 (brE (r10==true)
 (gdE (EC.isL q9k (EC.encL q9k r0.2.1.2.1))<|
 (gdE (EC.isL q9j (EC.encL q9j r0.2.1.2.2.2.1))<|
 (gdE (EC.isL q9i (EC.encL q9i r0.2.1.2.2.2.2))<|
 ((q14o r0.2.1.1 (EC.decL q9k (EC.encL q9k r0.2.1.2.1)) r0.2.1.2.2.1 (EC.decL q9j (EC.encL q9j r0.2.1.2.2.2.1)) (EC.decL q9i (EC.encL q9i r0.2.1.2.2.2.2)) ⟨#[]⟩ (EC.decL q9k []) ⟨#[]⟩ (EC.decL q9j []) (EC.decL q9i [])).bind fun r11 =>
 (brE (r11==true)
 (some true)
 (some false))))))
 (some false)))))
 (some false))
 (some false)))))))))
 (brE (r8.1 != 0)
 (brE (((r0.2.2.2.1==r8.1)&&((r0.2.2.2.2==r8.2)&&true))==true)
 (brE ((!r0.2.2.1)==true)
 (brE (((((List.length (EC.encL q9h r0.1)):Nat):Int)==0)==true)
 (gdE (EC.isL q9k (EC.encL q9k r0.2.1.2.1))<|
 (gdE (EC.isL q9j (EC.encL q9j r0.2.1.2.2.2.1))<|
 (gdE (EC.isL q9i (EC.encL q9i r0.2.1.2.2.2.2))<|
 ((q14o r0.2.1.1 (EC.decL q9k (EC.encL q9k r0.2.1.2.1)) r0.2.1.2.2.1 (EC.decL q9j (EC.encL q9j r0.2.1.2.2.2.1)) (EC.decL q9i (EC.encL q9i r0.2.1.2.2.2.2)) ⟨#[]⟩ (EC.decL q9k []) ⟨#[]⟩ (EC.decL q9j []) (EC.decL q9i [])).bind fun r9 =>
 (brE (r9==true)
 (some true)
 (some false))))))
 (some false))
 (some false))
 (some false))
 (brE ((r0.2.2.2.1==0)==true)
 (brE ((r0.2.2.1==false)==true)
 (gdE (EC.isL q9h (EC.encL q9h r0.1))<|
 (gdE (EC.isL q9h (EC.encL q9h r_))<|
 ((q152 (EC.decL q9h (EC.encL q9h r0.1)) (EC.decL q9h (EC.encL q9h r_))).bind fun r9 =>
 (brE (r9==true)
 (gdE (EC.isL q9k (EC.encL q9k r0.2.1.2.1))<|
 (gdE (EC.isL q9j (EC.encL q9j r0.2.1.2.2.2.1))<|
 (gdE (EC.isL q9i (EC.encL q9i r0.2.1.2.2.2.2))<|
 ((q14o r0.2.1.1 (EC.decL q9k (EC.encL q9k r0.2.1.2.1)) r0.2.1.2.2.1 (EC.decL q9j (EC.encL q9j r0.2.1.2.2.2.1)) (EC.decL q9i (EC.encL q9i r0.2.1.2.2.2.2)) ⟨#[]⟩ (EC.decL q9k []) ⟨#[]⟩ (EC.decL q9j []) (EC.decL q9i [])).bind fun r10 =>
 (brE (r10==true)
 (some true)
 (some false))))))
 (some false)))))
 (some false))
 (some false)))))
 (brE ((r1.1==0)==true)
 (gdE (EC.isL q9h (EC.encL q9h r_))<|
 (gdE (EC.isL q9k (EC.encL q9k m_Envelope_To))<|
 (gdE (EC.isL q9j (EC.encL q9j m_Message_Fields))<|
 (gdE (EC.isL q9i (EC.encL q9i m_Message_Body))<|
 ((q12m (EC.decL q9h (EC.encL q9h r_)) m_Envelope_From (EC.decL q9k (EC.encL q9k m_Envelope_To)) m_Envelope_Id (EC.decL q9j (EC.encL q9j m_Message_Fields)) (EC.decL q9i (EC.encL q9i m_Message_Body)) me now).bind fun r8 =>
 (brE r8
 (gdE (EC.isL q9k (EC.encL q9k m_Envelope_To))<|
 (gdE (EC.isL q9j (EC.encL q9j m_Message_Fields))<|
 (gdE (EC.isL q9i (EC.encL q9i m_Message_Body))<|
 ((q14a m_Envelope_From (EC.decL q9k (EC.encL q9k m_Envelope_To)) m_Envelope_Id (EC.decL q9j (EC.encL q9j m_Message_Fields)) (EC.decL q9i (EC.encL q9i m_Message_Body)) me text).bind fun r9 =>
 (gdE (EC.isL q9h (EC.encL q9h r_))<|
 ((q144 (EC.decL q9h (EC.encL q9h r_)) m_Envelope_From now).bind fun r10 =>
 (gdE (EC.isL q9k (EC.encL q9k r9.2.1))<|
 ((qbd r9.1.1 (EC.decL q9k (EC.encL q9k r9.2.1)) r9.1.2.2.1).bind fun r11 =>
 (brE (r11.1 != 0)
 ((qzg r11.1 (-7)).bind fun r12 =>
 (brE (r12.1 != 0)
 (brE (((r0.2.2.2.1==r12.1)&&((r0.2.2.2.2==r12.2)&&true))==true)
 (brE ((!r0.2.2.1)==true)
 (brE (((((List.length (EC.encL q9h r0.1)):Nat):Int)==0)==true)
 (gdE (EC.isL q9k (EC.encL q9k r0.2.1.2.1))<|
 (gdE (EC.isL q9j (EC.encL q9j r0.2.1.2.2.2.1))<|
 (gdE (EC.isL q9i (EC.encL q9i r0.2.1.2.2.2.2))<|
 ((q14o r0.2.1.1 (EC.decL q9k (EC.encL q9k r0.2.1.2.1)) r0.2.1.2.2.1 (EC.decL q9j (EC.encL q9j r0.2.1.2.2.2.1)) (EC.decL q9i (EC.encL q9i r0.2.1.2.2.2.2)) ⟨#[]⟩ (EC.decL q9k []) ⟨#[]⟩ (EC.decL q9j []) (EC.decL q9i [])).bind fun r13 =>
 (brE (r13==true)
 (some true)
 (some false))))))
 (some false))
 (some false))
 (some false))
 (brE ((r0.2.2.2.1==0)==true)
 (brE ((r0.2.2.1==r8)==true)
 (gdE (EC.isL q9h (EC.encL q9h r0.1))<|
 (gdE (EC.isL q9h (EC.encL q9h r10.2))<|
 ((q152 (EC.decL q9h (EC.encL q9h r0.1)) (EC.decL q9h (EC.encL q9h r10.2))).bind fun r13 =>
 (brE (r13==true)
 (gdE (EC.isL q9k (EC.encL q9k r0.2.1.2.1))<|
 (gdE (EC.isL q9j (EC.encL q9j r0.2.1.2.2.2.1))<|
 (gdE (EC.isL q9i (EC.encL q9i r0.2.1.2.2.2.2))<|
 (gdE (EC.isL q9k (EC.encL q9k r9.2.1))<|
 (gdE (EC.isL q9j (EC.encL q9j r9.2.2.1))<|
 (gdE (EC.isL q9i (EC.encL q9i r9.2.2.2))<|
 ((q14o r0.2.1.1 (EC.decL q9k (EC.encL q9k r0.2.1.2.1)) r0.2.1.2.2.1 (EC.decL q9j (EC.encL q9j r0.2.1.2.2.2.1)) (EC.decL q9i (EC.encL q9i r0.2.1.2.2.2.2)) r9.1.1 (EC.decL q9k (EC.encL q9k r9.2.1)) r9.1.2.2.1 (EC.decL q9j (EC.encL q9j r9.2.2.1)) (EC.decL q9i (EC.encL q9i r9.2.2.2))).bind fun r14 =>
 (brE (r14==true)
 (some true)
 (some false)))))))))
 (some false)))))
 (some false))
 (some false))))
 (gdE (EC.isL q9j (EC.encL q9j r9.2.2.1))<|
 (gdE (EC.isL q9i (EC.encL q9i r9.2.2.2))<|
 ((qlf (EC.decL q9j (EC.encL q9j r9.2.2.1)) (EC.decL q9i (EC.encL q9i r9.2.2.2))).bind fun r12 =>
 (brE (r12.1 != 0)
 ((qzg r12.1 (-7)).bind fun r13 =>
 (brE (r13.1 != 0)
 (brE (((r0.2.2.2.1==r13.1)&&((r0.2.2.2.2==r13.2)&&true))==true)
 (brE ((!r0.2.2.1)==true)
 (brE (((((List.length (EC.encL q9h r0.1)):Nat):Int)==0)==true)
 (gdE (EC.isL q9k (EC.encL q9k r0.2.1.2.1))<|
 (gdE (EC.isL q9j (EC.encL q9j r0.2.1.2.2.2.1))<|
 (gdE (EC.isL q9i (EC.encL q9i r0.2.1.2.2.2.2))<|
 ((q14o r0.2.1.1 (EC.decL q9k (EC.encL q9k r0.2.1.2.1)) r0.2.1.2.2.1 (EC.decL q9j (EC.encL q9j r0.2.1.2.2.2.1)) (EC.decL q9i (EC.encL q9i r0.2.1.2.2.2.2)) ⟨#[]⟩ (EC.decL q9k []) ⟨#[]⟩ (EC.decL q9j []) (EC.decL q9i [])).bind fun r14 =>
 (brE (r14==true)
 (some true)
 (some false))))))
 (some false))
 (some false))
 (some false))
 (brE ((r0.2.2.2.1==0)==true)
 (brE ((r0.2.2.1==r8)==true)
 (gdE (EC.isL q9h (EC.encL q9h r0.1))<|
 (gdE (EC.isL q9h (EC.encL q9h r10.2))<|
 ((q152 (EC.decL q9h (EC.encL q9h r0.1)) (EC.decL q9h (EC.encL q9h r10.2))).bind fun r14 =>
 (brE (r14==true)
 (gdE (EC.isL q9k (EC.encL q9k r0.2.1.2.1))<|
 (gdE (EC.isL q9j (EC.encL q9j r0.2.1.2.2.2.1))<|
 (gdE (EC.isL q9i (EC.encL q9i r0.2.1.2.2.2.2))<|
 (gdE (EC.isL q9k (EC.encL q9k r9.2.1))<|
 (gdE (EC.isL q9j (EC.encL q9j r9.2.2.1))<|
 (gdE (EC.isL q9i (EC.encL q9i r9.2.2.2))<|
 ((q14o r0.2.1.1 (EC.decL q9k (EC.encL q9k r0.2.1.2.1)) r0.2.1.2.2.1 (EC.decL q9j (EC.encL q9j r0.2.1.2.2.2.1)) (EC.decL q9i (EC.encL q9i r0.2.1.2.2.2.2)) r9.1.1 (EC.decL q9k (EC.encL q9k r9.2.1)) r9.1.2.2.1 (EC.decL q9j (EC.encL q9j r9.2.2.1)) (EC.decL q9i (EC.encL q9i r9.2.2.2))).bind fun r15 =>
 (brE (r15==true)
 (some true)
 (some false)))))))))
 (some false)))))
 (some false))
 (some false))))
 (brE (!r10.1.2)
 ((qzg 2 (-1)).bind fun r13 =>
 (brE (r13.1 != 0)
 (brE (((r0.2.2.2.1==r13.1)&&((r0.2.2.2.2==r13.2)&&true))==true)
 (brE ((!r0.2.2.1)==true)
 (brE (((((List.length (EC.encL q9h r0.1)):Nat):Int)==0)==true)
 (gdE (EC.isL q9k (EC.encL q9k r0.2.1.2.1))<|
 (gdE (EC.isL q9j (EC.encL q9j r0.2.1.2.2.2.1))<|
 (gdE (EC.isL q9i (EC.encL q9i r0.2.1.2.2.2.2))<|
 ((q14o r0.2.1.1 (EC.decL q9k (EC.encL q9k r0.2.1.2.1)) r0.2.1.2.2.1 (EC.decL q9j (EC.encL q9j r0.2.1.2.2.2.1)) (EC.decL q9i (EC.encL q9i r0.2.1.2.2.2.2)) ⟨#[]⟩ (EC.decL q9k []) ⟨#[]⟩ (EC.decL q9j []) (EC.decL q9i [])).bind fun r14 =>
 (brE (r14==true)
 (some true)
 (some false))))))
 (some false))
 (some false))
 (some false))
 (brE ((r0.2.2.2.1==0)==true)
 (brE ((r0.2.2.1==r8)==true)
 (gdE (EC.isL q9h (EC.encL q9h r0.1))<|
 (gdE (EC.isL q9h (EC.encL q9h r10.2))<|
 ((q152 (EC.decL q9h (EC.encL q9h r0.1)) (EC.decL q9h (EC.encL q9h r10.2))).bind fun r14 =>
 (brE (r14==true)
 (gdE (EC.isL q9k (EC.encL q9k r0.2.1.2.1))<|
 (gdE (EC.isL q9j (EC.encL q9j r0.2.1.2.2.2.1))<|
 (gdE (EC.isL q9i (EC.encL q9i r0.2.1.2.2.2.2))<|
 (gdE (EC.isL q9k (EC.encL q9k r9.2.1))<|
 (gdE (EC.isL q9j (EC.encL q9j r9.2.2.1))<|
 (gdE (EC.isL q9i (EC.encL q9i r9.2.2.2))<|
 ((q14o r0.2.1.1 (EC.decL q9k (EC.encL q9k r0.2.1.2.1)) r0.2.1.2.2.1 (EC.decL q9j (EC.encL q9j r0.2.1.2.2.2.1)) (EC.decL q9i (EC.encL q9i r0.2.1.2.2.2.2)) r9.1.1 (EC.decL q9k (EC.encL q9k r9.2.1)) r9.1.2.2.1 (EC.decL q9j (EC.encL q9j r9.2.2.1)) (EC.decL q9i (EC.encL q9i r9.2.2.2))).bind fun r15 =>
 (brE (r15==true)
 (some true)
 (some false)))))))))
 (some false)))))
 (some false))
 (some false))))
 (brE (r1.1 != 0)
 (brE (((r0.2.2.2.1==r1.1)&&((r0.2.2.2.2==r1.2)&&true))==true)
 (brE ((!r0.2.2.1)==true)
 (brE (((((List.length (EC.encL q9h r0.1)):Nat):Int)==0)==true)
 (gdE (EC.isL q9k (EC.encL q9k r0.2.1.2.1))<|
 (gdE (EC.isL q9j (EC.encL q9j r0.2.1.2.2.2.1))<|
 (gdE (EC.isL q9i (EC.encL q9i r0.2.1.2.2.2.2))<|
 ((q14o r0.2.1.1 (EC.decL q9k (EC.encL q9k r0.2.1.2.1)) r0.2.1.2.2.1 (EC.decL q9j (EC.encL q9j r0.2.1.2.2.2.1)) (EC.decL q9i (EC.encL q9i r0.2.1.2.2.2.2)) ⟨#[]⟩ (EC.decL q9k []) ⟨#[]⟩ (EC.decL q9j []) (EC.decL q9i [])).bind fun r13 =>
 (brE (r13==true)
 (some true)
 (some false))))))
 (some false))
 (some false))
 (some false))
 (brE ((r0.2.2.2.1==0)==true)
 (brE ((r0.2.2.1==r8)==true)
 (gdE (EC.isL q9h (EC.encL q9h r0.1))<|
 (gdE (EC.isL q9h (EC.encL q9h r10.2))<|
 ((q152 (EC.decL q9h (EC.encL q9h r0.1)) (EC.decL q9h (EC.encL q9h r10.2))).bind fun r13 =>
 (brE (r13==true)
 (gdE (EC.isL q9k (EC.encL q9k r0.2.1.2.1))<|
 (gdE (EC.isL q9j (EC.encL q9j r0.2.1.2.2.2.1))<|
 (gdE (EC.isL q9i (EC.encL q9i r0.2.1.2.2.2.2))<|
 (gdE (EC.isL q9k (EC.encL q9k r9.2.1))<|
 (gdE (EC.isL q9j (EC.encL q9j r9.2.2.1))<|
 (gdE (EC.isL q9i (EC.encL q9i r9.2.2.2))<|
 ((q14o r0.2.1.1 (EC.decL q9k (EC.encL q9k r0.2.1.2.1)) r0.2.1.2.2.1 (EC.decL q9j (EC.encL q9j r0.2.1.2.2.2.1)) (EC.decL q9i (EC.encL q9i r0.2.1.2.2.2.2)) r9.1.1 (EC.decL q9k (EC.encL q9k r9.2.1)) r9.1.2.2.1 (EC.decL q9j (EC.encL q9j r9.2.2.1)) (EC.decL q9i (EC.encL q9i r9.2.2.2))).bind fun r14 =>
 (brE (r14==true)
 (some true)
 (some false)))))))))
 (some false)))))
 (some false))
 (some false)))))))))))))))))
 (brE (r1.1 != 0)
 (brE (((r0.2.2.2.1==r1.1)&&((r0.2.2.2.2==r1.2)&&true))==true)
 (brE ((!r0.2.2.1)==true)
 (brE (((((List.length (EC.encL q9h r0.1)):Nat):Int)==0)==true)
 (gdE (EC.isL q9k (EC.encL q9k r0.2.1.2.1))<|
 (gdE (EC.isL q9j (EC.encL q9j r0.2.1.2.2.2.1))<|
 (gdE (EC.isL q9i (EC.encL q9i r0.2.1.2.2.2.2))<|
 ((q14o r0.2.1.1 (EC.decL q9k (EC.encL q9k r0.2.1.2.1)) r0.2.1.2.2.1 (EC.decL q9j (EC.encL q9j r0.2.1.2.2.2.1)) (EC.decL q9i (EC.encL q9i r0.2.1.2.2.2.2)) ⟨#[]⟩ (EC.decL q9k []) ⟨#[]⟩ (EC.decL q9j []) (EC.decL q9i [])).bind fun r9 =>
 (brE (r9==true)
 (some true)
 (some false))))))
 (some false))
 (some false))
 (some false))
 (brE ((r0.2.2.2.1==0)==true)
 (brE ((r0.2.2.1==r8)==true)
 (gdE (EC.isL q9h (EC.encL q9h r0.1))<|
 (gdE (EC.isL q9h (EC.encL q9h r_))<|
 ((q152 (EC.decL q9h (EC.encL q9h r0.1)) (EC.decL q9h (EC.encL q9h r_))).bind fun r9 =>
 (brE (r9==true)
 (gdE (EC.isL q9k (EC.encL q9k r0.2.1.2.1))<|
 (gdE (EC.isL q9j (EC.encL q9j r0.2.1.2.2.2.1))<|
 (gdE (EC.isL q9i (EC.encL q9i r0.2.1.2.2.2.2))<|
 ((q14o r0.2.1.1 (EC.decL q9k (EC.encL q9k r0.2.1.2.1)) r0.2.1.2.2.1 (EC.decL q9j (EC.encL q9j r0.2.1.2.2.2.1)) (EC.decL q9i (EC.encL q9i r0.2.1.2.2.2.2)) ⟨#[]⟩ (EC.decL q9k []) ⟨#[]⟩ (EC.decL q9j []) (EC.decL q9i [])).bind fun r10 =>
 (brE (r10==true)
 (some true)
 (some false))))))
 (some false)))))
 (some false))
 (some false)))))))))
 (brE (r1.1 != 0)
 (brE (((r0.2.2.2.1==r1.1)&&((r0.2.2.2.2==r1.2)&&true))==true)
 (brE ((!r0.2.2.1)==true)
 (brE (((((List.length (EC.encL q9h r0.1)):Nat):Int)==0)==true)
 (gdE (EC.isL q9k (EC.encL q9k r0.2.1.2.1))<|
 (gdE (EC.isL q9j (EC.encL q9j r0.2.1.2.2.2.1))<|
 (gdE (EC.isL q9i (EC.encL q9i r0.2.1.2.2.2.2))<|
 ((q14o r0.2.1.1 (EC.decL q9k (EC.encL q9k r0.2.1.2.1)) r0.2.1.2.2.1 (EC.decL q9j (EC.encL q9j r0.2.1.2.2.2.1)) (EC.decL q9i (EC.encL q9i r0.2.1.2.2.2.2)) ⟨#[]⟩ (EC.decL q9k []) ⟨#[]⟩ (EC.decL q9j []) (EC.decL q9i [])).bind fun r8 =>
 (brE (r8==true)
 (some true)
 (some false))))))
 (some false))
 (some false))
 (some false))
 (brE ((r0.2.2.2.1==0)==true)
 (brE ((r0.2.2.1==false)==true)
 (gdE (EC.isL q9h (EC.encL q9h r0.1))<|
 (gdE (EC.isL q9h (EC.encL q9h r_))<|
 ((q152 (EC.decL q9h (EC.encL q9h r0.1)) (EC.decL q9h (EC.encL q9h r_))).bind fun r8 =>
 (brE (r8==true)
 (gdE (EC.isL q9k (EC.encL q9k r0.2.1.2.1))<|
 (gdE (EC.isL q9j (EC.encL q9j r0.2.1.2.2.2.1))<|
 (gdE (EC.isL q9i (EC.encL q9i r0.2.1.2.2.2.2))<|
 ((q14o r0.2.1.1 (EC.decL q9k (EC.encL q9k r0.2.1.2.1)) r0.2.1.2.2.1 (EC.decL q9j (EC.encL q9j r0.2.1.2.2.2.1)) (EC.decL q9i (EC.encL q9i r0.2.1.2.2.2.2)) ⟨#[]⟩ (EC.decL q9k []) ⟨#[]⟩ (EC.decL q9j []) (EC.decL q9i [])).bind fun r9 =>
 (brE (r9==true)
 (some true)
 (some false))))))
 (some false)))))
 (some false))
 (some false)))))))
 (brE ((r1.1==0)==true)
 (gdE (EC.isL q9h (EC.encL q9h r_))<|
 (gdE (EC.isL q9k (EC.encL q9k m_Envelope_To))<|
 (gdE (EC.isL q9j (EC.encL q9j m_Message_Fields))<|
 (gdE (EC.isL q9i (EC.encL q9i m_Message_Body))<|
 ((q12m (EC.decL q9h (EC.encL q9h r_)) m_Envelope_From (EC.decL q9k (EC.encL q9k m_Envelope_To)) m_Envelope_Id (EC.decL q9j (EC.encL q9j m_Message_Fields)) (EC.decL q9i (EC.encL q9i m_Message_Body)) me now).bind fun r8 =>
 (brE r8
 (gdE (EC.isL q9k (EC.encL q9k m_Envelope_To))<|
 (gdE (EC.isL q9j (EC.encL q9j m_Message_Fields))<|
 (gdE (EC.isL q9i (EC.encL q9i m_Message_Body))<|
 ((q14a m_Envelope_From (EC.decL q9k (EC.encL q9k m_Envelope_To)) m_Envelope_Id (EC.decL q9j (EC.encL q9j m_Message_Fields)) (EC.decL q9i (EC.encL q9i m_Message_Body)) me text).bind fun r9 =>
 (gdE (EC.isL q9h (EC.encL q9h r_))<|
 ((q144 (EC.decL q9h (EC.encL q9h r_)) m_Envelope_From now).bind fun r10 =>
 (gdE (EC.isL q9k (EC.encL q9k r9.2.1))<|
 ((qbd r9.1.1 (EC.decL q9k (EC.encL q9k r9.2.1)) r9.1.2.2.1).bind fun r11 =>
 (brE (r11.1 != 0)
 ((qzg r11.1 (-7)).bind fun r12 =>
 (brE (r12.1 != 0)
 (brE (((r0.2.2.2.1==r12.1)&&((r0.2.2.2.2==r12.2)&&true))==true)
 (brE ((!r0.2.2.1)==true)
 (brE (((((List.length (EC.encL q9h r0.1)):Nat):Int)==0)==true)
 (gdE (EC.isL q9k (EC.encL q9k r0.2.1.2.1))<|
 (gdE (EC.isL q9j (EC.encL q9j r0.2.1.2.2.2.1))<|
 (gdE (EC.isL q9i (EC.encL q9i r0.2.1.2.2.2.2))<|
 ((q14o r0.2.1.1 (EC.decL q9k (EC.encL q9k r0.2.1.2.1)) r0.2.1.2.2.1 (EC.decL q9j (EC.encL q9j r0.2.1.2.2.2.1)) (EC.decL q9i (EC.encL q9i r0.2.1.2.2.2.2)) ⟨#[]⟩ (EC.decL q9k []) ⟨#[]⟩ (EC.decL q9j []) (EC.decL q9i [])).bind fun r13 =>
 (brE (r13==true)
 (some true)
 (some false))))))
 (some false))
 (some false))
 (some false))
 (brE ((r0.2.2.2.1==0)==true)
 (brE ((r0.2.2.1==r8)==true)
 (gdE (EC.isL q9h (EC.encL q9h r0.1))<|
 (gdE (EC.isL q9h (EC.encL q9h r10.2))<|
 ((q152 (EC.decL q9h (EC.encL q9h r0.1)) (EC.decL q9h (EC.encL q9h r10.2))).bind fun r13 =>
 (brE (r13==true)
 (gdE (EC.isL q9k (EC.encL q9k r0.2.1.2.1))<|
 (gdE (EC.isL q9j (EC.encL q9j r0.2.1.2.2.2.1))<|
 (gdE (EC.isL q9i (EC.encL q9i r0.2.1.2.2.2.2))<|
 (gdE (EC.isL q9k (EC.encL q9k r9.2.1))<|
 (gdE (EC.isL q9j (EC.encL q9j r9.2.2.1))<|
 (gdE (EC.isL q9i (EC.encL q9i r9.2.2.2))<|
 ((q14o r0.2.1.1 (EC.decL q9k (EC.encL q9k r0.2.1.2.1)) r0.2.1.2.2.1 (EC.decL q9j (EC.encL q9j r0.2.1.2.2.2.1)) (EC.decL q9i (EC.encL q9i r0.2.1.2.2.2.2)) r9.1.1 (EC.decL q9k (EC.encL q9k r9.2.1)) r9.1.2.2.1 (EC.decL q9j (EC.encL q9j r9.2.2.1)) (EC.decL q9i (EC.encL q9i r9.2.2.2))).bind fun r14 =>
 (brE (r14==true)
 (some true)
 (some false)))))))))
 (some false)))))
 (some false))
 (some false))))
 (gdE (EC.isL q9j (EC.encL q9j r9.2.2.1))<|
 (gdE (EC.isL q9i (EC.encL q9i r9.2.2.2))<|
 ((qlf (EC.decL q9j (EC.encL q9j r9.2.2.1)) (EC.decL q9i (EC.encL q9i r9.2.2.2))).bind fun r12 =>
 (brE (r12.1 != 0)
 ((qzg r12.1 (-7)).bind fun r13 =>
 (brE (r13.1 != 0)
 (brE (((r0.2.2.2.1==r13.1)&&((r0.2.2.2.2==r13.2)&&true))==true)
 (brE ((!r0.2.2.1)==true)
 (brE (((((List.length (EC.encL q9h r0.1)):Nat):Int)==0)==true)
 (gdE (EC.isL q9k (EC.encL q9k r0.2.1.2.1))<|
 (gdE (EC.isL q9j (EC.encL q9j r0.2.1.2.2.2.1))<|
 (gdE (EC.isL q9i (EC.encL q9i r0.2.1.2.2.2.2))<|
 ((q14o r0.2.1.1 (EC.decL q9k (EC.encL q9k r0.2.1.2.1)) r0.2.1.2.2.1 (EC.decL q9j (EC.encL q9j r0.2.1.2.2.2.1)) (EC.decL q9i (EC.encL q9i r0.2.1.2.2.2.2)) ⟨#[]⟩ (EC.decL q9k []) ⟨#[]⟩ (EC.decL q9j []) (EC.decL q9i [])).bind fun r14 =>
 (brE (r14==true)
 (some true)
 (some false))))))
 (some false))
 (some false))
 (some false))
 (brE ((r0.2.2.2.1==0)==true)
 (brE ((r0.2.2.1==r8)==true)
 (gdE (EC.isL q9h (EC.encL q9h r0.1))<|
 (gdE (EC.isL q9h (EC.encL q9h r10.2))<|
 ((q152 (EC.decL q9h (EC.encL q9h r0.1)) (EC.decL q9h (EC.encL q9h r10.2))).bind fun r14 =>
 (brE (r14==true)
 (gdE (EC.isL q9k (EC.encL q9k r0.2.1.2.1))<|
 (gdE (EC.isL q9j (EC.encL q9j r0.2.1.2.2.2.1))<|
 (gdE (EC.isL q9i (EC.encL q9i r0.2.1.2.2.2.2))<|
 (gdE (EC.isL q9k (EC.encL q9k r9.2.1))<|
 (gdE (EC.isL q9j (EC.encL q9j r9.2.2.1))<|
 (gdE (EC.isL q9i (EC.encL q9i r9.2.2.2))<|
 ((q14o r0.2.1.1 (EC.decL q9k (EC.encL q9k r0.2.1.2.1)) r0.2.1.2.2.1 (EC.decL q9j (EC.encL q9j r0.2.1.2.2.2.1)) (EC.decL q9i (EC.encL q9i r0.2.1.2.2.2.2)) r9.1.1 (EC.decL q9k (EC.encL q9k r9.2.1)) r9.1.2.2.1 (EC.decL q9j (EC.encL q9j r9.2.2.1)) (EC.decL q9i (EC.encL q9i r9.2.2.2))).bind fun r15 =>
 (brE (r15==true)
 (some true)
 (some false)))))))))
 (some false)))))
 (some false))
 (some false))))
 (brE (!r10.1.2)
 ((qzg 2 (-1)).bind fun r13 =>
 (brE (r13.1 != 0)
 (brE (((r0.2.2.2.1==r13.1)&&((r0.2.2.2.2==r13.2)&&true))==true)
 (brE ((!r0.2.2.1)==true)
 (brE (((((List.length (EC.encL q9h r0.1)):Nat):Int)==0)==true)
 (gdE (EC.isL q9k (EC.encL q9k r0.2.1.2.1))<|
 (gdE (EC.isL q9j (EC.encL q9j r0.2.1.2.2.2.1))<|
 (gdE (EC.isL q9i (EC.encL q9i r0.2.1.2.2.2.2))<|
 ((q14o r0.2.1.1 (EC.decL q9k (EC.encL q9k r0.2.1.2.1)) r0.2.1.2.2.1 (EC.decL q9j (EC.encL q9j r0.2.1.2.2.2.1)) (EC.decL q9i (EC.encL q9i r0.2.1.2.2.2.2)) ⟨#[]⟩ (EC.decL q9k []) ⟨#[]⟩ (EC.decL q9j []) (EC.decL q9i [])).bind fun r14 =>
 (brE (r14==true)
 (some true)
 (some false))))))
 (some false))
 (some false))
 (some false))
 (brE ((r0.2.2.2.1==0)==true)
 (brE ((r0.2.2.1==r8)==true)
 (gdE (EC.isL q9h (EC.encL q9h r0.1))<|
 (gdE (EC.isL q9h (EC.encL q9h r10.2))<|
 ((q152 (EC.decL q9h (EC.encL q9h r0.1)) (EC.decL q9h (EC.encL q9h r10.2))).bind fun r14 =>
 (brE (r14==true)
 (gdE (EC.isL q9k (EC.encL q9k r0.2.1.2.1))<|
 (gdE (EC.isL q9j (EC.encL q9j r0.2.1.2.2.2.1))<|
 (gdE (EC.isL q9i (EC.encL q9i r0.2.1.2.2.2.2))<|
 (gdE (EC.isL q9k (EC.encL q9k r9.2.1))<|
 (gdE (EC.isL q9j (EC.encL q9j r9.2.2.1))<|
 (gdE (EC.isL q9i (EC.encL q9i r9.2.2.2))<|
 ((q14o r0.2.1.1 (EC.decL q9k (EC.encL q9k r0.2.1.2.1)) r0.2.1.2.2.1 (EC.decL q9j (EC.encL q9j r0.2.1.2.2.2.1)) (EC.decL q9i (EC.encL q9i r0.2.1.2.2.2.2)) r9.1.1 (EC.decL q9k (EC.encL q9k r9.2.1)) r9.1.2.2.1 (EC.decL q9j (EC.encL q9j r9.2.2.1)) (EC.decL q9i (EC.encL q9i r9.2.2.2))).bind fun r15 =>
 (brE (r15==true)
 (some true)
 (some false)))))))))
 (some false)))))
 (some false))
 (some false))))
 (brE (r1.1 != 0)
 (brE (((r0.2.2.2.1==r1.1)&&((r0.2.2.2.2==r1.2)&&true))==true)
 (brE ((!r0.2.2.1)==true)
 (brE (((((List.length (EC.encL q9h r0.1)):Nat):Int)==0)==true)
 (gdE (EC.isL q9k (EC.encL q9k r0.2.1.2.1))<|
 (gdE (EC.isL q9j (EC.encL q9j r0.2.1.2.2.2.1))<|
 (gdE (EC.isL q9i (EC.encL q9i r0.2.1.2.2.2.2))<|
 ((q14o r0.2.1.1 (EC.decL q9k (EC.encL q9k r0.2.1.2.1)) r0.2.1.2.2.1 (EC.decL q9j (EC.encL q9j r0.2.1.2.2.2.1)) (EC.decL q9i (EC.encL q9i r0.2.1.2.2.2.2)) ⟨#[]⟩ (EC.decL q9k []) ⟨#[]⟩ (EC.decL q9j []) (EC.decL q9i [])).bind fun r13 =>
 (brE (r13==true)
 (some true)
 (some false))))))
 (some false))
 (some false))
 (some false))
 (brE ((r0.2.2.2.1==0)==true)
 (brE ((r0.2.2.1==r8)==true)
 (gdE (EC.isL q9h (EC.encL q9h r0.1))<|
 (gdE (EC.isL q9h (EC.encL q9h r10.2))<|
 ((q152 (EC.decL q9h (EC.encL q9h r0.1)) (EC.decL q9h (EC.encL q9h r10.2))).bind fun r13 =>
 (brE (r13==true)
 (gdE (EC.isL q9k (EC.encL q9k r0.2.1.2.1))<|
 (gdE (EC.isL q9j (EC.encL q9j r0.2.1.2.2.2.1))<|
 (gdE (EC.isL q9i (EC.encL q9i r0.2.1.2.2.2.2))<|
 (gdE (EC.isL q9k (EC.encL q9k r9.2.1))<|
 (gdE (EC.isL q9j (EC.encL q9j r9.2.2.1))<|
 (gdE (EC.isL q9i (EC.encL q9i r9.2.2.2))<|
 ((q14o r0.2.1.1 (EC.decL q9k (EC.encL q9k r0.2.1.2.1)) r0.2.1.2.2.1 (EC.decL q9j (EC.encL q9j r0.2.1.2.2.2.1)) (EC.decL q9i (EC.encL q9i r0.2.1.2.2.2.2)) r9.1.1 (EC.decL q9k (EC.encL q9k r9.2.1)) r9.1.2.2.1 (EC.decL q9j (EC.encL q9j r9.2.2.1)) (EC.decL q9i (EC.encL q9i r9.2.2.2))).bind fun r14 =>
 (brE (r14==true)
 (some true)
 (some false)))))))))
 (some false)))))
 (some false))
 (some false)))))))))))))))))
 (brE (r1.1 != 0)
 (brE (((r0.2.2.2.1==r1.1)&&((r0.2.2.2.2==r1.2)&&true))==true)
 (brE ((!r0.2.2.1)==true)
 (brE (((((List.length (EC.encL q9h r0.1)):Nat):Int)==0)==true)
 (gdE (EC.isL q9k (EC.encL q9k r0.2.1.2.1))<|
 (gdE (EC.isL q9j (EC.encL q9j r0.2.1.2.2.2.1))<|
 (gdE (EC.isL q9i (EC.encL q9i r0.2.1.2.2.2.2))<|
 ((q14o r0.2.1.1 (EC.decL q9k (EC.encL q9k r0.2.1.2.1)) r0.2.1.2.2.1 (EC.decL q9j (EC.encL q9j r0.2.1.2.2.2.1)) (EC.decL q9i (EC.encL q9i r0.2.1.2.2.2.2)) ⟨#[]⟩ (EC.decL q9k []) ⟨#[]⟩ (EC.decL q9j []) (EC.decL q9i [])).bind fun r9 =>
 (brE (r9==true)
 (some true)
 (some false))))))
 (some false))
 (some false))
 (some false))
 (brE ((r0.2.2.2.1==0)==true)
 (brE ((r0.2.2.1==r8)==true)
 (gdE (EC.isL q9h (EC.encL q9h r0.1))<|
 (gdE (EC.isL q9h (EC.encL q9h r_))<|
 ((q152 (EC.decL q9h (EC.encL q9h r0.1)) (EC.decL q9h (EC.encL q9h r_))).bind fun r9 =>
 (brE (r9==true)
 (gdE (EC.isL q9k (EC.encL q9k r0.2.1.2.1))<|
 (gdE (EC.isL q9j (EC.encL q9j r0.2.1.2.2.2.1))<|
 (gdE (EC.isL q9i (EC.encL q9i r0.2.1.2.2.2.2))<|
 ((q14o r0.2.1.1 (EC.decL q9k (EC.encL q9k r0.2.1.2.1)) r0.2.1.2.2.1 (EC.decL q9j (EC.encL q9j r0.2.1.2.2.2.1)) (EC.decL q9i (EC.encL q9i r0.2.1.2.2.2.2)) ⟨#[]⟩ (EC.decL q9k []) ⟨#[]⟩ (EC.decL q9j []) (EC.decL q9i [])).bind fun r10 =>
 (brE (r10==true)
 (some true)
 (some false))))))
 (some false)))))
 (some false))
 (some false)))))))))
 (brE (r1.1 != 0)
 (brE (((r0.2.2.2.1==r1.1)&&((r0.2.2.2.2==r1.2)&&true))==true)
 (brE ((!r0.2.2.1)==true)
 (brE (((((List.length (EC.encL q9h r0.1)):Nat):Int)==0)==true)
 (gdE (EC.isL q9k (EC.encL q9k r0.2.1.2.1))<|
 (gdE (EC.isL q9j (EC.encL q9j r0.2.1.2.2.2.1))<|
 (gdE (EC.isL q9i (EC.encL q9i r0.2.1.2.2.2.2))<|
 ((q14o r0.2.1.1 (EC.decL q9k (EC.encL q9k r0.2.1.2.1)) r0.2.1.2.2.1 (EC.decL q9j (EC.encL q9j r0.2.1.2.2.2.1)) (EC.decL q9i (EC.encL q9i r0.2.1.2.2.2.2)) ⟨#[]⟩ (EC.decL q9k []) ⟨#[]⟩ (EC.decL q9j []) (EC.decL q9i [])).bind fun r8 =>
 (brE (r8==true)
 (some true)
 (some false))))))
 (some false))
 (some false))
 (some false))
 (brE ((r0.2.2.2.1==0)==true)
 (brE ((r0.2.2.1==false)==true)
 (gdE (EC.isL q9h (EC.encL q9h r0.1))<|
 (gdE (EC.isL q9h (EC.encL q9h r_))<|
 ((q152 (EC.decL q9h (EC.encL q9h r0.1)) (EC.decL q9h (EC.encL q9h r_))).bind fun r8 =>
 (brE (r8==true)
 (gdE (EC.isL q9k (EC.encL q9k r0.2.1.2.1))<|
 (gdE (EC.isL q9j (EC.encL q9j r0.2.1.2.2.2.1))<|
 (gdE (EC.isL q9i (EC.encL q9i r0.2.1.2.2.2.2))<|
 ((q14o r0.2.1.1 (EC.decL q9k (EC.encL q9k r0.2.1.2.1)) r0.2.1.2.2.1 (EC.decL q9j (EC.encL q9j r0.2.1.2.2.2.1)) (EC.decL q9i (EC.encL q9i r0.2.1.2.2.2.2)) ⟨#[]⟩ (EC.decL q9k []) ⟨#[]⟩ (EC.decL q9j []) (EC.decL q9i [])).bind fun r9 =>
 (brE (r9==true)
 (some true)
 (some false))))))
 (some false)))))
 (some false))
 (some false)))))))))))))))))))
 (brE ((r1.1==0)==true)
 (gdE (EC.isL q9h (EC.encL q9h r_))<|
 (gdE (EC.isL q9k (EC.encL q9k m_Envelope_To))<|
 (gdE (EC.isL q9j (EC.encL q9j m_Message_Fields))<|
 (gdE (EC.isL q9i (EC.encL q9i m_Message_Body))<|
 ((q12m (EC.decL q9h (EC.encL q9h r_)) m_Envelope_From (EC.decL q9k (EC.encL q9k m_Envelope_To)) m_Envelope_Id (EC.decL q9j (EC.encL q9j m_Message_Fields)) (EC.decL q9i (EC.encL q9i m_Message_Body)) me now).bind fun r3 =>
 (brE r3
 (gdE (EC.isL q9k (EC.encL q9k m_Envelope_To))<|
 (gdE (EC.isL q9j (EC.encL q9j m_Message_Fields))<|
 (gdE (EC.isL q9i (EC.encL q9i m_Message_Body))<|
 ((q14a m_Envelope_From (EC.decL q9k (EC.encL q9k m_Envelope_To)) m_Envelope_Id (EC.decL q9j (EC.encL q9j m_Message_Fields)) (EC.decL q9i (EC.encL q9i m_Message_Body)) me text).bind fun r4 =>
 (gdE (EC.isL q9h (EC.encL q9h r_))<|
 ((q144 (EC.decL q9h (EC.encL q9h r_)) m_Envelope_From now).bind fun r5 =>
 (gdE (EC.isL q9k (EC.encL q9k r4.2.1))<|
 ((qbd r4.1.1 (EC.decL q9k (EC.encL q9k r4.2.1)) r4.1.2.2.1).bind fun r6 =>
 (brE (r6.1 != 0)
 ((qzg r6.1 (-7)).bind fun r7 =>
 (brE (r7.1 != 0)
 (brE (((r0.2.2.2.1==r7.1)&&((r0.2.2.2.2==r7.2)&&true))==true)
 (brE ((!r0.2.2.1)==true)
 (brE (((((List.length (EC.encL q9h r0.1)):Nat):Int)==0)==true)
 (gdE (EC.isL q9k (EC.encL q9k r0.2.1.2.1))<|
 (gdE (EC.isL q9j (EC.encL q9j r0.2.1.2.2.2.1))<|
 (gdE (EC.isL q9i (EC.encL q9i r0.2.1.2.2.2.2))<|
 ((q14o r0.2.1.1 (EC.decL q9k (EC.encL q9k r0.2.1.2.1)) r0.2.1.2.2.1 (EC.decL q9j (EC.encL q9j r0.2.1.2.2.2.1)) (EC.decL q9i (EC.encL q9i r0.2.1.2.2.2.2)) ⟨#[]⟩ (EC.decL q9k []) ⟨#[]⟩ (EC.decL q9j []) (EC.decL q9i [])).bind fun r8 =>
 (brE (r8==true)
 (some true)
 (some false))))))
 (some false))
 (some false))
 (some false))
 (brE ((r0.2.2.2.1==0)==true)
 (brE ((r0.2.2.1==r3)==true)
 (gdE (EC.isL q9h (EC.encL q9h r0.1))<|
 (gdE (EC.isL q9h (EC.encL q9h r5.2))<|
 ((q152 (EC.decL q9h (EC.encL q9h r0.1)) (EC.decL q9h (EC.encL q9h r5.2))).bind fun r8 =>
 (brE (r8==true)
 (gdE (EC.isL q9k (EC.encL q9k r0.2.1.2.1))<|
 (gdE (EC.isL q9j (EC.encL q9j r0.2.1.2.2.2.1))<|
 (gdE (EC.isL q9i (EC.encL q9i r0.2.1.2.2.2.2))<|
 (gdE (EC.isL q9k (EC.encL q9k r4.2.1))<|
 (gdE (EC.isL q9j (EC.encL q9j r4.2.2.1))<|
 (gdE (EC.isL q9i (EC.encL q9i r4.2.2.2))<|
 ((q14o r0.2.1.1 (EC.decL q9k (EC.encL q9k r0.2.1.2.1)) r0.2.1.2.2.1 (EC.decL q9j (EC.encL q9j r0.2.1.2.2.2.1)) (EC.decL q9i (EC.encL q9i r0.2.1.2.2.2.2)) r4.1.1 (EC.decL q9k (EC.encL q9k r4.2.1)) r4.1.2.2.1 (EC.decL q9j (EC.encL q9j r4.2.2.1)) (EC.decL q9i (EC.encL q9i r4.2.2.2))).bind fun r9 =>
 (brE (r9==true)
 (some true)
 (some false)))))))))
 (some false)))))
 (some false))
 (some false))))
 (gdE (EC.isL q9j (EC.encL q9j r4.2.2.1))<|
 (gdE (EC.isL q9i (EC.encL q9i r4.2.2.2))<|
 ((qlf (EC.decL q9j (EC.encL q9j r4.2.2.1)) (EC.decL q9i (EC.encL q9i r4.2.2.2))).bind fun r7 =>
 (brE (r7.1 != 0)
 ((qzg r7.1 (-7)).bind fun r8 =>
 (brE (r8.1 != 0)
 (brE (((r0.2.2.2.1==r8.1)&&((r0.2.2.2.2==r8.2)&&true))==true)
 (brE ((!r0.2.2.1)==true)
 (brE (((((List.length (EC.encL q9h r0.1)):Nat):Int)==0)==true)
 (gdE (EC.isL q9k (EC.encL q9k r0.2.1.2.1))<|
 (gdE (EC.isL q9j (EC.encL q9j r0.2.1.2.2.2.1))<|
 (gdE (EC.isL q9i (EC.encL q9i r0.2.1.2.2.2.2))<|
 ((q14o r0.2.1.1 (EC.decL q9k (EC.encL q9k r0.2.1.2.1)) r0.2.1.2.2.1 (EC.decL q9j (EC.encL q9j r0.2.1.2.2.2.1)) (EC.decL q9i (EC.encL q9i r0.2.1.2.2.2.2)) ⟨#[]⟩ (EC.decL q9k []) ⟨#[]⟩ (EC.decL q9j []) (EC.decL q9i [])).bind fun r9 =>
 (brE (r9==true)
 (some true)
 (some false))))))
 (some false))
 (some false))
 (some false))
 (brE ((r0.2.2.2.1==0)==true)
 (brE ((r0.2.2.1==r3)==true)
 (gdE (EC.isL q9h (EC.encL q9h r0.1))<|
 (gdE (EC.isL q9h (EC.encL q9h r5.2))<|
 ((q152 (EC.decL q9h (EC.encL q9h r0.1)) (EC.decL q9h (EC.encL q9h r5.2))).bind fun r9 =>
 (brE (r9==true)
 (gdE (EC.isL q9k (EC.encL q9k r0.2.1.2.1))<|
 (gdE (EC.isL q9j (EC.encL q9j r0.2.1.2.2.2.1))<|
 (gdE (EC.isL q9i (EC.encL q9i r0.2.1.2.2.2.2))<|
 (gdE (EC.isL q9k (EC.encL q9k r4.2.1))<|
 (gdE (EC.isL q9j (EC.encL q9j r4.2.2.1))<|
 (gdE (EC.isL q9i (EC.encL q9i r4.2.2.2))<|
 ((q14o r0.2.1.1 (EC.decL q9k (EC.encL q9k r0.2.1.2.1)) r0.2.1.2.2.1 (EC.decL q9j (EC.encL q9j r0.2.1.2.2.2.1)) (EC.decL q9i (EC.encL q9i r0.2.1.2.2.2.2)) r4.1.1 (EC.decL q9k (EC.encL q9k r4.2.1)) r4.1.2.2.1 (EC.decL q9j (EC.encL q9j r4.2.2.1)) (EC.decL q9i (EC.encL q9i r4.2.2.2))).bind fun r10 =>
 (brE (r10==true)
 (some true)
 (some false)))))))))
 (some false)))))
 (some false))
 (some false))))
 (brE (!r5.1.2)
 ((qzg 2 (-1)).bind fun r8 =>
 (brE (r8.1 != 0)
 (brE (((r0.2.2.2.1==r8.1)&&((r0.2.2.2.2==r8.2)&&true))==true)
 (brE ((!r0.2.2.1)==true)
 (brE (((((List.length (EC.encL q9h r0.1)):Nat):Int)==0)==true)
 (gdE (EC.isL q9k (EC.encL q9k r0.2.1.2.1))<|
 (gdE (EC.isL q9j (EC.encL q9j r0.2.1.2.2.2.1))<|
 (gdE (EC.isL q9i (EC.encL q9i r0.2.1.2.2.2.2))<|
 ((q14o r0.2.1.1 (EC.decL q9k (EC.encL q9k r0.2.1.2.1)) r0.2.1.2.2.1 (EC.decL q9j (EC.encL q9j r0.2.1.2.2.2.1)) (EC.decL q9i (EC.encL q9i r0.2.1.2.2.2.2)) ⟨#[]⟩ (EC.decL q9k []) ⟨#[]⟩ (EC.decL q9j []) (EC.decL q9i [])).bind fun r9 =>
 (brE (r9==true)
 (some true)
 (some false))))))
 (some false))
 (some false))
 (some false))
 (brE ((r0.2.2.2.1==0)==true)
 (brE ((r0.2.2.1==r3)==true)
 (gdE (EC.isL q9h (EC.encL q9h r0.1))<|
 (gdE (EC.isL q9h (EC.encL q9h r5.2))<|
 ((q152 (EC.decL q9h (EC.encL q9h r0.1)) (EC.decL q9h (EC.encL q9h r5.2))).bind fun r9 =>
 (brE (r9==true)
 (gdE (EC.isL q9k (EC.encL q9k r0.2.1.2.1))<|
 (gdE (EC.isL q9j (EC.encL q9j r0.2.1.2.2.2.1))<|
 (gdE (EC.isL q9i (EC.encL q9i r0.2.1.2.2.2.2))<|
 (gdE (EC.isL q9k (EC.encL q9k r4.2.1))<|
 (gdE (EC.isL q9j (EC.encL q9j r4.2.2.1))<|
 (gdE (EC.isL q9i (EC.encL q9i r4.2.2.2))<|
 ((q14o r0.2.1.1 (EC.decL q9k (EC.encL q9k r0.2.1.2.1)) r0.2.1.2.2.1 (EC.decL q9j (EC.encL q9j r0.2.1.2.2.2.1)) (EC.decL q9i (EC.encL q9i r0.2.1.2.2.2.2)) r4.1.1 (EC.decL q9k (EC.encL q9k r4.2.1)) r4.1.2.2.1 (EC.decL q9j (EC.encL q9j r4.2.2.1)) (EC.decL q9i (EC.encL q9i r4.2.2.2))).bind fun r10 =>
 (brE (r10==true)
 (some true)
 (some false)))))))))
 (some false)))))
 (some false))
 (some false))))
 (brE (r1.1 != 0)
 (brE (((r0.2.2.2.1==r1.1)&&((r0.2.2.2.2==r1.2)&&true))==true)
 (brE ((!r0.2.2.1)==true)
 (brE (((((List.length (EC.encL q9h r0.1)):Nat):Int)==0)==true)
 (gdE (EC.isL q9k (EC.encL q9k r0.2.1.2.1))<|
 (gdE (EC.isL q9j (EC.encL q9j r0.2.1.2.2.2.1))<|
 (gdE (EC.isL q9i (EC.encL q9i r0.2.1.2.2.2.2))<|
 ((q14o r0.2.1.1 (EC.decL q9k (EC.encL q9k r0.2.1.2.1)) r0.2.1.2.2.1 (EC.decL q9j (EC.encL q9j r0.2.1.2.2.2.1)) (EC.decL q9i (EC.encL q9i r0.2.1.2.2.2.2)) ⟨#[]⟩ (EC.decL q9k []) ⟨#[]⟩ (EC.decL q9j []) (EC.decL q9i [])).bind fun r8 =>
 (brE (r8==true)
 (some true)
 (some false))))))
 (some false))
 (some false))
 (some false))
 (brE ((r0.2.2.2.1==0)==true)
 (brE ((r0.2.2.1==r3)==true)
 (gdE (EC.isL q9h (EC.encL q9h r0.1))<|
 (gdE (EC.isL q9h (EC.encL q9h r5.2))<|
 ((q152 (EC.decL q9h (EC.encL q9h r0.1)) (EC.decL q9h (EC.encL q9h r5.2))).bind fun r8 =>
 (brE (r8==true)
 (gdE (EC.isL q9k (EC.encL q9k r0.2.1.2.1))<|
 (gdE (EC.isL q9j (EC.encL q9j r0.2.1.2.2.2.1))<|
 (gdE (EC.isL q9i (EC.encL q9i r0.2.1.2.2.2.2))<|
 (gdE (EC.isL q9k (EC.encL q9k r4.2.1))<|
 (gdE (EC.isL q9j (EC.encL q9j r4.2.2.1))<|
 (gdE (EC.isL q9i (EC.encL q9i r4.2.2.2))<|
 ((q14o r0.2.1.1 (EC.decL q9k (EC.encL q9k r0.2.1.2.1)) r0.2.1.2.2.1 (EC.decL q9j (EC.encL q9j r0.2.1.2.2.2.1)) (EC.decL q9i (EC.encL q9i r0.2.1.2.2.2.2)) r4.1.1 (EC.decL q9k (EC.encL q9k r4.2.1)) r4.1.2.2.1 (EC.decL q9j (EC.encL q9j r4.2.2.1)) (EC.decL q9i (EC.encL q9i r4.2.2.2))).bind fun r9 =>
 (brE (r9==true)
 (some true)
 (some false)))))))))
 (some false)))))
 (some false))
 (some false)))))))))))))))))
 (brE (r1.1 != 0)
 (brE (((r0.2.2.2.1==r1.1)&&((r0.2.2.2.2==r1.2)&&true))==true)
 (brE ((!r0.2.2.1)==true)
 (brE (((((List.length (EC.encL q9h r0.1)):Nat):Int)==0)==true)
 (gdE (EC.isL q9k (EC.encL q9k r0.2.1.2.1))<|
 (gdE (EC.isL q9j (EC.encL q9j r0.2.1.2.2.2.1))<|
 (gdE (EC.isL q9i (EC.encL q9i r0.2.1.2.2.2.2))<|
 ((q14o r0.2.1.1 (EC.decL q9k (EC.encL q9k r0.2.1.2.1)) r0.2.1.2.2.1 (EC.decL q9j (EC.encL q9j r0.2.1.2.2.2.1)) (EC.decL q9i (EC.encL q9i r0.2.1.2.2.2.2)) ⟨#[]⟩ (EC.decL q9k []) ⟨#[]⟩ (EC.decL q9j []) (EC.decL q9i [])).bind fun r4 =>
 (brE (r4==true)
 (some true)
 (some false))))))
 (some false))
 (some false))
 (some false))
 (brE ((r0.2.2.2.1==0)==true)
 (brE ((r0.2.2.1==r3)==true)
 (gdE (EC.isL q9h (EC.encL q9h r0.1))<|
 (gdE (EC.isL q9h (EC.encL q9h r_))<|
 ((q152 (EC.decL q9h (EC.encL q9h r0.1)) (EC.decL q9h (EC.encL q9h r_))).bind fun r4 =>
 (brE (r4==true)
 (gdE (EC.isL q9k (EC.encL q9k r0.2.1.2.1))<|
 (gdE (EC.isL q9j (EC.encL q9j r0.2.1.2.2.2.1))<|
 (gdE (EC.isL q9i (EC.encL q9i r0.2.1.2.2.2.2))<|
 ((q14o r0.2.1.1 (EC.decL q9k (EC.encL q9k r0.2.1.2.1)) r0.2.1.2.2.1 (EC.decL q9j (EC.encL q9j r0.2.1.2.2.2.1)) (EC.decL q9i (EC.encL q9i r0.2.1.2.2.2.2)) ⟨#[]⟩ (EC.decL q9k []) ⟨#[]⟩ (EC.decL q9j []) (EC.decL q9i [])).bind fun r5 =>
 (brE (r5==true)
 (some true)
 (some false))))))
 (some false)))))
 (some false))
 (some false)))))))))
 (brE (r1.1 != 0)
 (brE (((r0.2.2.2.1==r1.1)&&((r0.2.2.2.2==r1.2)&&true))==true)
 (brE ((!r0.2.2.1)==true)
 (brE (((((List.length (EC.encL q9h r0.1)):Nat):Int)==0)==true)
 (gdE (EC.isL q9k (EC.encL q9k r0.2.1.2.1))<|
 (gdE (EC.isL q9j (EC.encL q9j r0.2.1.2.2.2.1))<|
 (gdE (EC.isL q9i (EC.encL q9i r0.2.1.2.2.2.2))<|
 ((q14o r0.2.1.1 (EC.decL q9k (EC.encL q9k r0.2.1.2.1)) r0.2.1.2.2.1 (EC.decL q9j (EC.encL q9j r0.2.1.2.2.2.1)) (EC.decL q9i (EC.encL q9i r0.2.1.2.2.2.2)) ⟨#[]⟩ (EC.decL q9k []) ⟨#[]⟩ (EC.decL q9j []) (EC.decL q9i [])).bind fun r3 =>
 (brE (r3==true)
 (some true)
 (some false))))))
 (some false))
 (some false))
 (some false))
 (brE ((r0.2.2.2.1==0)==true)
 (brE ((r0.2.2.1==false)==true)
 (gdE (EC.isL q9h (EC.encL q9h r0.1))<|
 (gdE (EC.isL q9h (EC.encL q9h r_))<|
 ((q152 (EC.decL q9h (EC.encL q9h r0.1)) (EC.decL q9h (EC.encL q9h r_))).bind fun r3 =>
 (brE (r3==true)
 (gdE (EC.isL q9k (EC.encL q9k r0.2.1.2.1))<|
 (gdE (EC.isL q9j (EC.encL q9j r0.2.1.2.2.2.1))<|
 (gdE (EC.isL q9i (EC.encL q9i r0.2.1.2.2.2.2))<|
 ((q14o r0.2.1.1 (EC.decL q9k (EC.encL q9k r0.2.1.2.1)) r0.2.1.2.2.1 (EC.decL q9j (EC.encL q9j r0.2.1.2.2.2.1)) (EC.decL q9i (EC.encL q9i r0.2.1.2.2.2.2)) ⟨#[]⟩ (EC.decL q9k []) ⟨#[]⟩ (EC.decL q9j []) (EC.decL q9i [])).bind fun r4 =>
 (brE (r4==true)
 (some true)
 (some false))))))
 (some false)))))
 (some false))
 (some false)))))))))))))))
theorem qyv {r_ m_Envelope_From m_Envelope_To m_Envelope_Id m_Message_Fields m_Message_Body me text now r} (h:qyx r_ m_Envelope_From m_Envelope_To m_Envelope_Id m_Message_Fields m_Message_Body me text now=some r):qyw r_ m_Envelope_From m_Envelope_To m_Envelope_Id m_Message_Fields m_Message_Body me text now=some r :=
 qc8 (es:=tabk) (hs:=[]) [] Tryz.func3 rfl (by kernel_rfl) rfl (by kernel_rfl) (by kernel_rfl) trivial trivial (by kernel_rfl) h
end
end Go.Proofs.YtepmpilapglklaaGreat
