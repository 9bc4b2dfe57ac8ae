/- Functions of the program as plain functions: made by program from the machine. -/
import Derived.Test.YtmlcmoaonaomfaaGreatDoorZ24
namespace Go.Proofs.YtmlcmoaonaomfaaGreatDoor
open Go.RowKit
set_option maxRecDepth 100000
noncomputable section
def sz0_u3:LEnt Tryz.prog lv X0 91 24:=inlL 91 24 3 (qk8 (cdF Tryz.f91) 3) q1cd qml [] 2 (by kernel_rfl) trivial trivial
def sz0_e:=inlF 91 [] Tryz.f91 (cdF Tryz.f91) q1cd qml [sz0_u3] Tryz.func91 rfl (by kernel_rfl) (λ_=>rfl) (by kernel_rfl) ⟨⟨_,rfl,rfl⟩,trivial⟩ trivial
def q1cn:=sz0_e::q1cd
def sz1_u3:LEnt Tryz.prog lv X0 91 24:=inlL 91 24 3 (qk8 (cdF Tryz.f91) 3) q1cn qml [] 2 (by kernel_rfl) trivial trivial
def sz1_e:=inlF 91 [] Tryz.f91 (cdF Tryz.f91) q1cn qml [sz1_u3] Tryz.func91 rfl (by kernel_rfl) (λ_=>rfl) (by kernel_rfl) ⟨⟨_,rfl,rfl⟩,trivial⟩ trivial
def q1co:=sz1_e::q1cn
def dc_u2:LEnt Tryz.prog lv X0 58 20:=inlL 58 20 2 (qk8 (cdF Tryz.f58) 2) q1co qml [] 3 (by kernel_rfl) trivial trivial
def dc_e:=inlF 58 [] Tryz.f58 (cdF Tryz.f58) q1co qml [dc_u2] Tryz.func58 rfl (by kernel_rfl) (λ_=>rfl) (by kernel_rfl) ⟨⟨_,rfl,rfl⟩,trivial⟩ trivial
def q1at:=dc_e::q1co
def nt_e:=inlH 30 [0,7,3,1,1,1,2,1,3] Tryz.f30 (cdF Tryz.f30) q1at qml [] (by kernel_rfl) rfl (by kernel_rfl) (by kernel_rfl) trivial trivial
def qmk:=nt_e::qml
def fi_e:=inlH 124 [0,3,0,0,1,1,3,1,9,1,3,1,4,1,3,1,4,1,4,1,1,8,1,2,2,6,30,0,4,2,0,1] Tryz.f124 (cdF Tryz.f124) q1at qmk [] (by kernel_rfl) rfl (by kernel_rfl) (by kernel_rfl) trivial trivial
def qmi:=fi_e::qmk
def te0_u7:LEnt Tryz.prog lv X0 90 106:=inlL 90 106 7 (qk8 (cdF Tryz.f90) 7) q1at qmi [] 6 (by kernel_rfl) trivial trivial
def q1d2:LEnt Tryz.prog lv X0 90 106:=inlL 90 106 20 (qk8 (cdF Tryz.f90) 20) q1at qmi [] 6 (by kernel_rfl) trivial trivial
def te0_e:=inlH 90 [0,3,0,0,1,7,6,1,1,1,4,1,3,1,1,1,3,1,1,1,9,1,3,1,4,1,3,1,4,1,4,1,1,8,1,2,2,6,30,0,4,2,0,1] Tryz.f90 (cdF Tryz.f90) q1at qmi [te0_u7,q1d2] (by kernel_rfl) rfl (by kernel_rfl) (by kernel_rfl) ⟨⟨_,rfl,rfl⟩,⟨_,rfl,rfl⟩,trivial⟩ trivial
def qn0:=te0_e::qmi
def te1_u7:LEnt Tryz.prog lv X0 90 106:=inlL 90 106 7 (qk8 (cdF Tryz.f90) 7) q1at qn0 [] 6 (by kernel_rfl) trivial trivial
def q1d3:LEnt Tryz.prog lv X0 90 106:=inlL 90 106 20 (qk8 (cdF Tryz.f90) 20) q1at qn0 [] 6 (by kernel_rfl) trivial trivial
def te1_e:=inlH 90 [0,3,0,0,1,7,6,1,1,1,4,1,3,1,1,1,3,1,1,1,9,1,3,1,4,1,3,1,4,1,4,1,1,8,1,2,2,6,30,0,4,2,0,1] Tryz.f90 (cdF Tryz.f90) q1at qn0 [te1_u7,q1d3] (by kernel_rfl) rfl (by kernel_rfl) (by kernel_rfl) ⟨⟨_,rfl,rfl⟩,⟨_,rfl,rfl⟩,trivial⟩ trivial
def qn1:=te1_e::qn0
def ex0_u2:LEnt Tryz.prog lv X0 57 122:=inlL 57 122 2 (qk8 (cdF Tryz.f57) 2) q1at qn1 [] 3 (by kernel_rfl) trivial trivial
def ex0_e:=inlH 57 [0,3,0,0,1,1,4,2,1,1,1,9,1,3,1,4,1,3,1,4,1,4,1,1,8,1,2,2,6,30,0,4,2,0,1] Tryz.f57 (cdF Tryz.f57) q1at qn1 [ex0_u2] (by kernel_rfl) rfl (by kernel_rfl) (by kernel_rfl) ⟨⟨_,rfl,rfl⟩,trivial⟩ trivial
def qmg:=ex0_e::qn1
def ex1_u2:LEnt Tryz.prog lv X0 57 122:=inlL 57 122 2 (qk8 (cdF Tryz.f57) 2) q1at qmg [] 3 (by kernel_rfl) trivial trivial
def ex1_e:=inlH 57 [0,3,0,0,1,1,4,2,1,1,1,9,1,3,1,4,1,3,1,4,1,4,1,1,8,1,2,2,6,30,0,4,2,0,1] Tryz.f57 (cdF Tryz.f57) q1at qmg [ex1_u2] (by kernel_rfl) rfl (by kernel_rfl) (by kernel_rfl) ⟨⟨_,rfl,rfl⟩,trivial⟩ trivial
def qmh:=ex1_e::qmg
def no_e:=inlH 29 [0,1,4,1,7,5,1,3,1,4,1,3,1,4,1,4,2,6,30,0] Tryz.f29 (cdF Tryz.f29) q1at qmh [] (by kernel_rfl) rfl (by kernel_rfl) (by kernel_rfl) trivial trivial
def qmj:=no_e::qmh
structure S54 where
 Kind:Int
 Text:BA
 N:Int
abbrev L54:=List S54
def qcz:EC S54 where
 enc x:=[.int .i64 x.Kind,.str x.Text,.int .i64 x.N]
 dec c:=⟨qo4 (c.getD 0 .ne),q18t (c.getD 1 .ne),qo4 (c.getD 2 .ne)⟩
 is c:=isE [.int .i64,.str,.int .i64] 0 c
 enc_dec h:=qc4 h
 dec_enc x:=by rfl
 is_enc x:=by simp [isE,isK]
def q14b:=(qpj (vC cScr) (qpl (vAgg (qpj (vC cStr) (qpj (vC (cSl qd1)) (qpj (vC cStr) (qpj (vC (cSl qd0)) (qpl (vC (cSl qcy))))))))))
abbrev z1m:=(vAgg (qpj (vC (cInt .i64)) (qpl (vC (cInt .i64)))))
def q14c:Cod (V×List B) ((Nat×(Int×Int))×(List S54)):=(cPair (vTup (qpj (vRow 0) (qpl z1m))) (qpl (bRow qcz)))
def q14f (s qrb:BA) (qrd:L73) (qrc:BA) (qrg:L71) (qrf:(List Int)):=fS Tryz.prog lv X0 10 q14b q14c (s,(qrb,qrd,qrc,qrg,qrf))
def q14g (s qrb:BA) (qrd:L73) (qrc:BA) (qrg:L71) (qrf:(List Int)):Oq ((Nat×(Int×Int))×L54) :=
 (gdE (EC.isL qcw (scrE s))<|
 ((qyw (EC.decL qcw (scrE s))).bind λr0 =>
 ((q5w r0.1 r0.2).bind λr1 =>
 (brE r1
 (some ((0,(r0.1,r0.2)),(EC.decL qcz [])))
 (gL qd1 qrd<|
 ((qf4 qrb (dL qd1 qrd) qrc).bind λr2 =>
 ((q5w r2.1 r2.2).bind λr3 =>
 (brE r3
 ((q62 r2.1 (-3)).bind λr4 =>
 (some ((0,(r4.1,r4.2)),(EC.decL qcz []))))
 (gL qd0 qrg<|
 (gL qcy qrf<|
 ((qs2 (dL qd0 qrg) (dL qcy qrf)).bind λr4 =>
 ((q5w r4.1.2.1 r4.1.2.2).bind λr5 =>
 (brE r5
 ((q62 r4.1.2.1 (-2)).bind λr6 =>
 (some ((0,(r6.1,r6.2)),(EC.decL qcz []))))
 (gL qd0 qrg<|
 (Option.bind (qlc (dL qd0 qrg) (q18t (List.getD (List.getD (slOf (List.getD (List.getD (scrE s) (Int.toNat 0) []) 2 C.ne)) (Int.toNat 0) []) 2 C.ne))) λr6 =>
 (brE (!(!(decide (((r6.1.1:Nat):Int)>0))))
 (Option.bind q73 λr7 =>
 (some ((1,(r7.1,r7.2)),(EC.decL qcz ([]++[[(C.int Go.IntKind.i64 1),(C.str ⟨#[]⟩),(C.int Go.IntKind.i64 0)]])))))
 (Option.bind (expP [] (q18t (List.getD (List.getD (slOf (List.getD (List.getD (scrE s) (Int.toNat 0) []) 7 C.ne)) (Int.toNat 0) []) 11 C.ne))) λr7 =>
 (Option.bind q73 λr8 =>
 (some (((0+(List.length [[(C.int Go.IntKind.i64 (qo4 (List.getD (List.getD (slOf (List.getD (List.getD (scrE s) (Int.toNat 0) []) 7 C.ne)) (Int.toNat 0) []) 9 C.ne))),(C.str r7),(C.int Go.IntKind.i64 (qo4 (List.getD (List.getD (slOf (List.getD (List.getD (scrE s) (Int.toNat 0) []) 7 C.ne)) (Int.toNat 0) []) 12 C.ne)))]])),(r8.1,r8.2)),(EC.decL qcz ([]++[[(C.int Go.IntKind.i64 (qo4 (List.getD (List.getD (slOf (List.getD (List.getD (scrE s) (Int.toNat 0) []) 7 C.ne)) (Int.toNat 0) []) 9 C.ne))),(C.str r7),(C.int Go.IntKind.i64 (qo4 (List.getD (List.getD (slOf (List.getD (List.getD (scrE s) (Int.toNat 0) []) 7 C.ne)) (Int.toNat 0) []) 12 C.ne)))]]))))))))))))))))))))))
theorem q14e {s qrb qrd qrc qrg qrf r} (h:q14g s qrb qrd qrc qrg qrf=some r):q14f s qrb qrd qrc qrg qrf=some r :=
 qg7 (es:=q1at) (hs:=qmj) [] Tryz.func10 rfl (by kernel_rfl) rfl (by kernel_rfl) (by kernel_rfl) trivial trivial (by kernel_rfl) h
def q14d:=entS Tryz.prog lv X0 10 [] q14b q14c (λx=>q14f x.1 x.2.1 x.2.2.1 x.2.2.2.1 x.2.2.2.2.1 x.2.2.2.2.2) (λ_ _ h=>qg5 h)
def q1cb:=q14d::q1at
def txd_e:=inlF 66 [] Tryz.f66 (cdF Tryz.f66) q1cb qmj [] Tryz.func66 rfl (by kernel_rfl) (λ_=>rfl) (by kernel_rfl) trivial trivial
def q1cq:=txd_e::q1cb
def acs_e:=inlF 65 [] Tryz.f65 (cdF Tryz.f65) q1cq qmj [] Tryz.func65 rfl (by kernel_rfl) (λ_=>rfl) (by kernel_rfl) trivial trivial
def q1a8:=acs_e::q1cq
def ot1_e:=inlF 63 [] Tryz.f63 (cdF Tryz.f63) q1a8 qmj [] Tryz.func63 rfl (by kernel_rfl) (λ_=>rfl) (by kernel_rfl) trivial trivial
def q1bt:=ot1_e::q1a8
def ot0_e:=inlF 63 [] Tryz.f63 (cdF Tryz.f63) q1bt qmj [] Tryz.func63 rfl (by kernel_rfl) (λ_=>rfl) (by kernel_rfl) trivial trivial
def q1bs:=ot0_e::q1bt
def or1_v7:LEnt Tryz.prog lv X0 35 91:=inlG 35 91 7 (getSeg (cdF Tryz.f35) 7) q1bs qmj [] (by kernel_rfl) (by kernel_rfl) trivial trivial
def qut:LEnt Tryz.prog lv X0 35 91:=inlG 35 91 17 (getSeg (cdF Tryz.f35) 17) q1bs qmj [] (by kernel_rfl) (by kernel_rfl) trivial trivial
def qus:LEnt Tryz.prog lv X0 35 91:=inlG 35 91 15 (getSeg (cdF Tryz.f35) 15) q1bs qmj [qut] (by kernel_rfl) (by kernel_rfl) trivial ⟨⟨_,rfl,rfl⟩,trivial⟩
def or1_e:=inlF 35 [] Tryz.f35 (cdF Tryz.f35) q1bs qmj [or1_v7,qus] Tryz.func35 rfl (by kernel_rfl) (λ_=>rfl) (by kernel_rfl) trivial ⟨⟨_,rfl,rfl⟩,⟨_,rfl,rfl⟩,trivial⟩
def q1bp:=or1_e::q1bs
def os1_u3:LEnt Tryz.prog lv X0 17 21:=inlL 17 21 3 (qk8 (cdF Tryz.f17) 3) q1bp qmj [] 3 (by kernel_rfl) trivial trivial
def os1_e:=inlF 17 [] Tryz.f17 (cdF Tryz.f17) q1bp qmj [os1_u3] Tryz.func17 rfl (by kernel_rfl) (λ_=>rfl) (by kernel_rfl) ⟨⟨_,rfl,rfl⟩,trivial⟩ trivial
def q1br:=os1_e::q1bp
def or0_v7:LEnt Tryz.prog lv X0 35 91:=inlG 35 91 7 (getSeg (cdF Tryz.f35) 7) q1br qmj [] (by kernel_rfl) (by kernel_rfl) trivial trivial
def qur:LEnt Tryz.prog lv X0 35 91:=inlG 35 91 17 (getSeg (cdF Tryz.f35) 17) q1br qmj [] (by kernel_rfl) (by kernel_rfl) trivial trivial
def quq:LEnt Tryz.prog lv X0 35 91:=inlG 35 91 15 (getSeg (cdF Tryz.f35) 15) q1br qmj [qur] (by kernel_rfl) (by kernel_rfl) trivial ⟨⟨_,rfl,rfl⟩,trivial⟩
def or0_e:=inlF 35 [] Tryz.f35 (cdF Tryz.f35) q1br qmj [or0_v7,quq] Tryz.func35 rfl (by kernel_rfl) (λ_=>rfl) (by kernel_rfl) trivial ⟨⟨_,rfl,rfl⟩,⟨_,rfl,rfl⟩,trivial⟩
def q1bo:=or0_e::q1br
def os0_u3:LEnt Tryz.prog lv X0 17 21:=inlL 17 21 3 (qk8 (cdF Tryz.f17) 3) q1bo qmj [] 3 (by kernel_rfl) trivial trivial
def os0_e:=inlF 17 [] Tryz.f17 (cdF Tryz.f17) q1bo qmj [os0_u3] Tryz.func17 rfl (by kernel_rfl) (λ_=>rfl) (by kernel_rfl) ⟨⟨_,rfl,rfl⟩,trivial⟩ trivial
def q1bq:=os0_e::q1bo
def qww:=(qpl (vC cScr))
def qwx:Cod (V×List B) (BA×(Int×Int)):=(cFstU (cPair (vTup (qpj (vC cStr) (qpl z1m))) qpk))
def qx0 (s:BA):=fS Tryz.prog lv X0 5 qww qwx s
def qx1 (s:BA):Oq (BA×(Int×Int)) :=
 (gdE (EC.isL qcw (scrE s))<|
 ((qyw (EC.decL qcw (scrE s))).bind λr0 =>
 ((q5w r0.1 r0.2).bind λr1 =>
 (brE r1
 (some (⟨#[]⟩,(r0.1,r0.2)))
 (Option.bind (quoP (q18t (List.getD (List.getD (slOf (List.getD (List.getD (scrE s) (Int.toNat 0) []) 7 C.ne)) (Int.toNat 0) []) 11 C.ne))) λr2 =>
 (brE (decide (((((ByteArray.size (ByteArray.mk (List.toArray [32])))+r2.size):Nat):Int)>(Go.IntKind.max Go.IntKind.i64)))
 none
 (brE (decide (((((ByteArray.size ((ByteArray.mk (List.toArray (List.flatten (List.replicate (Int.toNat (wI 0)) (Array.toList (List.toArray [(32:UInt8),(32:UInt8)]))))))++(List.getD [(ByteArray.mk (List.toArray [107,101,101,112])),(ByteArray.mk (List.toArray [102,105,108,101])),(ByteArray.mk (List.toArray [100,105,115,99,97,114,100])),(ByteArray.mk (List.toArray [114,101,100,105,114,101,99,116])),(ByteArray.mk (List.toArray [114,101,106,101,99,116])),(ByteArray.mk (List.toArray [102,108,97,103])),(ByteArray.mk (List.toArray [114,101,112,108,121]))] (Int.toNat (IntKind.wrap .i64 ((qo4 (List.getD (List.getD (slOf (List.getD (List.getD (scrE s) (Int.toNat 0) []) 7 C.ne)) (Int.toNat 0) []) 9 C.ne)) - 1))) ByteArray.empty)))+(ByteArray.size ((ByteArray.mk (List.toArray [32]))++r2))):Nat):Int)>(Go.IntKind.max Go.IntKind.i64)))
 none
 (brE (decide (((((ByteArray.size (((ByteArray.mk (List.toArray (List.flatten (List.replicate (Int.toNat (wI 0)) (Array.toList (List.toArray [(32:UInt8),(32:UInt8)]))))))++(List.getD [(ByteArray.mk (List.toArray [107,101,101,112])),(ByteArray.mk (List.toArray [102,105,108,101])),(ByteArray.mk (List.toArray [100,105,115,99,97,114,100])),(ByteArray.mk (List.toArray [114,101,100,105,114,101,99,116])),(ByteArray.mk (List.toArray [114,101,106,101,99,116])),(ByteArray.mk (List.toArray [102,108,97,103])),(ByteArray.mk (List.toArray [114,101,112,108,121]))] (Int.toNat (IntKind.wrap .i64 ((qo4 (List.getD (List.getD (slOf (List.getD (List.getD (scrE s) (Int.toNat 0) []) 7 C.ne)) (Int.toNat 0) []) 9 C.ne)) - 1))) ByteArray.empty))++((ByteArray.mk (List.toArray [32]))++r2)))+(ByteArray.size (ByteArray.mk (List.toArray [59,10])))):Nat):Int)>(Go.IntKind.max Go.IntKind.i64)))
 none
 (brE (decide (((((ByteArray.size ⟨#[]⟩)+(ByteArray.size ((((ByteArray.mk (List.toArray (List.flatten (List.replicate (Int.toNat (wI 0)) (Array.toList (List.toArray [(32:UInt8),(32:UInt8)]))))))++(List.getD [(ByteArray.mk (List.toArray [107,101,101,112])),(ByteArray.mk (List.toArray [102,105,108,101])),(ByteArray.mk (List.toArray [100,105,115,99,97,114,100])),(ByteArray.mk (List.toArray [114,101,100,105,114,101,99,116])),(ByteArray.mk (List.toArray [114,101,106,101,99,116])),(ByteArray.mk (List.toArray [102,108,97,103])),(ByteArray.mk (List.toArray [114,101,112,108,121]))] (Int.toNat (IntKind.wrap .i64 ((qo4 (List.getD (List.getD (slOf (List.getD (List.getD (scrE s) (Int.toNat 0) []) 7 C.ne)) (Int.toNat 0) []) 9 C.ne)) - 1))) ByteArray.empty))++((ByteArray.mk (List.toArray [32]))++r2))++(ByteArray.mk (List.toArray [59,10]))))):Nat):Int)>(Go.IntKind.max Go.IntKind.i64)))
 none
 (brE (decide (((((ByteArray.size ((((ByteArray.mk (List.toArray (List.flatten (List.replicate (Int.toNat 0) (Array.toList (List.toArray [(32:UInt8),(32:UInt8)]))))))++(ByteArray.mk (List.toArray [105,102,32])))++((ByteArray.mk (List.toArray [110,111,116,32]))++((ByteArray.mk (List.toArray [101,120,105,115,116,115,32]))++(ByteArray.mk (List.toArray (quoL (Array.toList (ByteArray.data (q18t (List.getD (List.getD (slOf (List.getD (List.getD (scrE s) (Int.toNat 0) []) 2 C.ne)) (Int.toNat 0) []) 2 C.ne))))))))))++(ByteArray.mk (List.toArray [32,123,10]))))+(ByteArray.size (⟨#[]⟩++((((ByteArray.mk (List.toArray (List.flatten (List.replicate (Int.toNat (wI 0)) (Array.toList (List.toArray [(32:UInt8),(32:UInt8)]))))))++(List.getD [(ByteArray.mk (List.toArray [107,101,101,112])),(ByteArray.mk (List.toArray [102,105,108,101])),(ByteArray.mk (List.toArray [100,105,115,99,97,114,100])),(ByteArray.mk (List.toArray [114,101,100,105,114,101,99,116])),(ByteArray.mk (List.toArray [114,101,106,101,99,116])),(ByteArray.mk (List.toArray [102,108,97,103])),(ByteArray.mk (List.toArray [114,101,112,108,121]))] (Int.toNat (IntKind.wrap .i64 ((qo4 (List.getD (List.getD (slOf (List.getD (List.getD (scrE s) (Int.toNat 0) []) 7 C.ne)) (Int.toNat 0) []) 9 C.ne)) - 1))) ByteArray.empty))++((ByteArray.mk (List.toArray [32]))++r2))++(ByteArray.mk (List.toArray [59,10])))))):Nat):Int)>(Go.IntKind.max Go.IntKind.i64)))
 none
 (brE (decide (((((ByteArray.size (((((ByteArray.mk (List.toArray (List.flatten (List.replicate (Int.toNat 0) (Array.toList (List.toArray [(32:UInt8),(32:UInt8)]))))))++(ByteArray.mk (List.toArray [105,102,32])))++((ByteArray.mk (List.toArray [110,111,116,32]))++((ByteArray.mk (List.toArray [101,120,105,115,116,115,32]))++(ByteArray.mk (List.toArray (quoL (Array.toList (ByteArray.data (q18t (List.getD (List.getD (slOf (List.getD (List.getD (scrE s) (Int.toNat 0) []) 2 C.ne)) (Int.toNat 0) []) 2 C.ne))))))))))++(ByteArray.mk (List.toArray [32,123,10])))++(⟨#[]⟩++((((ByteArray.mk (List.toArray (List.flatten (List.replicate (Int.toNat (wI 0)) (Array.toList (List.toArray [(32:UInt8),(32:UInt8)]))))))++(List.getD [(ByteArray.mk (List.toArray [107,101,101,112])),(ByteArray.mk (List.toArray [102,105,108,101])),(ByteArray.mk (List.toArray [100,105,115,99,97,114,100])),(ByteArray.mk (List.toArray [114,101,100,105,114,101,99,116])),(ByteArray.mk (List.toArray [114,101,106,101,99,116])),(ByteArray.mk (List.toArray [102,108,97,103])),(ByteArray.mk (List.toArray [114,101,112,108,121]))] (Int.toNat (IntKind.wrap .i64 ((qo4 (List.getD (List.getD (slOf (List.getD (List.getD (scrE s) (Int.toNat 0) []) 7 C.ne)) (Int.toNat 0) []) 9 C.ne)) - 1))) ByteArray.empty))++((ByteArray.mk (List.toArray [32]))++r2))++(ByteArray.mk (List.toArray [59,10]))))))+(ByteArray.size (ByteArray.mk (List.toArray (List.flatten (List.replicate (Int.toNat 0) (Array.toList (List.toArray [(32:UInt8),(32:UInt8)])))))))):Nat):Int)>(Go.IntKind.max Go.IntKind.i64)))
 none
 (brE (decide (((((ByteArray.size ((((((ByteArray.mk (List.toArray (List.flatten (List.replicate (Int.toNat 0) (Array.toList (List.toArray [(32:UInt8),(32:UInt8)]))))))++(ByteArray.mk (List.toArray [105,102,32])))++((ByteArray.mk (List.toArray [110,111,116,32]))++((ByteArray.mk (List.toArray [101,120,105,115,116,115,32]))++(ByteArray.mk (List.toArray (quoL (Array.toList (ByteArray.data (q18t (List.getD (List.getD (slOf (List.getD (List.getD (scrE s) (Int.toNat 0) []) 2 C.ne)) (Int.toNat 0) []) 2 C.ne))))))))))++(ByteArray.mk (List.toArray [32,123,10])))++(⟨#[]⟩++((((ByteArray.mk (List.toArray (List.flatten (List.replicate (Int.toNat (wI 0)) (Array.toList (List.toArray [(32:UInt8),(32:UInt8)]))))))++(List.getD [(ByteArray.mk (List.toArray [107,101,101,112])),(ByteArray.mk (List.toArray [102,105,108,101])),(ByteArray.mk (List.toArray [100,105,115,99,97,114,100])),(ByteArray.mk (List.toArray [114,101,100,105,114,101,99,116])),(ByteArray.mk (List.toArray [114,101,106,101,99,116])),(ByteArray.mk (List.toArray [102,108,97,103])),(ByteArray.mk (List.toArray [114,101,112,108,121]))] (Int.toNat (IntKind.wrap .i64 ((qo4 (List.getD (List.getD (slOf (List.getD (List.getD (scrE s) (Int.toNat 0) []) 7 C.ne)) (Int.toNat 0) []) 9 C.ne)) - 1))) ByteArray.empty))++((ByteArray.mk (List.toArray [32]))++r2))++(ByteArray.mk (List.toArray [59,10])))))++(ByteArray.mk (List.toArray (List.flatten (List.replicate (Int.toNat 0) (Array.toList (List.toArray [(32:UInt8),(32:UInt8)]))))))))+(ByteArray.size (ByteArray.mk (List.toArray [125])))):Nat):Int)>(Go.IntKind.max Go.IntKind.i64)))
 none
 (brE (decide (((((ByteArray.size (((((((ByteArray.mk (List.toArray (List.flatten (List.replicate (Int.toNat 0) (Array.toList (List.toArray [(32:UInt8),(32:UInt8)]))))))++(ByteArray.mk (List.toArray [105,102,32])))++((ByteArray.mk (List.toArray [110,111,116,32]))++((ByteArray.mk (List.toArray [101,120,105,115,116,115,32]))++(ByteArray.mk (List.toArray (quoL (Array.toList (ByteArray.data (q18t (List.getD (List.getD (slOf (List.getD (List.getD (scrE s) (Int.toNat 0) []) 2 C.ne)) (Int.toNat 0) []) 2 C.ne))))))))))++(ByteArray.mk (List.toArray [32,123,10])))++(⟨#[]⟩++((((ByteArray.mk (List.toArray (List.flatten (List.replicate (Int.toNat (wI 0)) (Array.toList (List.toArray [(32:UInt8),(32:UInt8)]))))))++(List.getD [(ByteArray.mk (List.toArray [107,101,101,112])),(ByteArray.mk (List.toArray [102,105,108,101])),(ByteArray.mk (List.toArray [100,105,115,99,97,114,100])),(ByteArray.mk (List.toArray [114,101,100,105,114,101,99,116])),(ByteArray.mk (List.toArray [114,101,106,101,99,116])),(ByteArray.mk (List.toArray [102,108,97,103])),(ByteArray.mk (List.toArray [114,101,112,108,121]))] (Int.toNat (IntKind.wrap .i64 ((qo4 (List.getD (List.getD (slOf (List.getD (List.getD (scrE s) (Int.toNat 0) []) 7 C.ne)) (Int.toNat 0) []) 9 C.ne)) - 1))) ByteArray.empty))++((ByteArray.mk (List.toArray [32]))++r2))++(ByteArray.mk (List.toArray [59,10])))))++(ByteArray.mk (List.toArray (List.flatten (List.replicate (Int.toNat 0) (Array.toList (List.toArray [(32:UInt8),(32:UInt8)])))))))++(ByteArray.mk (List.toArray [125]))))+(ByteArray.size (ByteArray.mk (List.toArray [10])))):Nat):Int)>(Go.IntKind.max Go.IntKind.i64)))
 none
 (brE (decide (((((ByteArray.size ⟨#[]⟩)+(ByteArray.size ((((((((ByteArray.mk (List.toArray (List.flatten (List.replicate (Int.toNat 0) (Array.toList (List.toArray [(32:UInt8),(32:UInt8)]))))))++(ByteArray.mk (List.toArray [105,102,32])))++((ByteArray.mk (List.toArray [110,111,116,32]))++((ByteArray.mk (List.toArray [101,120,105,115,116,115,32]))++(ByteArray.mk (List.toArray (quoL (Array.toList (ByteArray.data (q18t (List.getD (List.getD (slOf (List.getD (List.getD (scrE s) (Int.toNat 0) []) 2 C.ne)) (Int.toNat 0) []) 2 C.ne))))))))))++(ByteArray.mk (List.toArray [32,123,10])))++(⟨#[]⟩++((((ByteArray.mk (List.toArray (List.flatten (List.replicate (Int.toNat (wI 0)) (Array.toList (List.toArray [(32:UInt8),(32:UInt8)]))))))++(List.getD [(ByteArray.mk (List.toArray [107,101,101,112])),(ByteArray.mk (List.toArray [102,105,108,101])),(ByteArray.mk (List.toArray [100,105,115,99,97,114,100])),(ByteArray.mk (List.toArray [114,101,100,105,114,101,99,116])),(ByteArray.mk (List.toArray [114,101,106,101,99,116])),(ByteArray.mk (List.toArray [102,108,97,103])),(ByteArray.mk (List.toArray [114,101,112,108,121]))] (Int.toNat (IntKind.wrap .i64 ((qo4 (List.getD (List.getD (slOf (List.getD (List.getD (scrE s) (Int.toNat 0) []) 7 C.ne)) (Int.toNat 0) []) 9 C.ne)) - 1))) ByteArray.empty))++((ByteArray.mk (List.toArray [32]))++r2))++(ByteArray.mk (List.toArray [59,10])))))++(ByteArray.mk (List.toArray (List.flatten (List.replicate (Int.toNat 0) (Array.toList (List.toArray [(32:UInt8),(32:UInt8)])))))))++(ByteArray.mk (List.toArray [125])))++(ByteArray.mk (List.toArray [10]))))):Nat):Int)>(Go.IntKind.max Go.IntKind.i64)))
 none
 (brE (decide ((((ByteArray.size (⟨#[]⟩++((((((((ByteArray.mk (List.toArray (List.flatten (List.replicate (Int.toNat 0) (Array.toList (List.toArray [(32:UInt8),(32:UInt8)]))))))++(ByteArray.mk (List.toArray [105,102,32])))++((ByteArray.mk (List.toArray [110,111,116,32]))++((ByteArray.mk (List.toArray [101,120,105,115,116,115,32]))++(ByteArray.mk (List.toArray (quoL (Array.toList (ByteArray.data (q18t (List.getD (List.getD (slOf (List.getD (List.getD (scrE s) (Int.toNat 0) []) 2 C.ne)) (Int.toNat 0) []) 2 C.ne))))))))))++(ByteArray.mk (List.toArray [32,123,10])))++(⟨#[]⟩++((((ByteArray.mk (List.toArray (List.flatten (List.replicate (Int.toNat (wI 0)) (Array.toList (List.toArray [(32:UInt8),(32:UInt8)]))))))++(List.getD [(ByteArray.mk (List.toArray [107,101,101,112])),(ByteArray.mk (List.toArray [102,105,108,101])),(ByteArray.mk (List.toArray [100,105,115,99,97,114,100])),(ByteArray.mk (List.toArray [114,101,100,105,114,101,99,116])),(ByteArray.mk (List.toArray [114,101,106,101,99,116])),(ByteArray.mk (List.toArray [102,108,97,103])),(ByteArray.mk (List.toArray [114,101,112,108,121]))] (Int.toNat (IntKind.wrap .i64 ((qo4 (List.getD (List.getD (slOf (List.getD (List.getD (scrE s) (Int.toNat 0) []) 7 C.ne)) (Int.toNat 0) []) 9 C.ne)) - 1))) ByteArray.empty))++((ByteArray.mk (List.toArray [32]))++r2))++(ByteArray.mk (List.toArray [59,10])))))++(ByteArray.mk (List.toArray (List.flatten (List.replicate (Int.toNat 0) (Array.toList (List.toArray [(32:UInt8),(32:UInt8)])))))))++(ByteArray.mk (List.toArray [125])))++(ByteArray.mk (List.toArray [10]))))):Nat):Int)>4000))
 ((q62 1 (-1)).bind λr3 =>
 (some (⟨#[]⟩,(r3.1,r3.2))))
 (Option.bind q73 λr3 =>
 (some ((⟨#[]⟩++((((((((ByteArray.mk (List.toArray (List.flatten (List.replicate (Int.toNat 0) (Array.toList (List.toArray [(32:UInt8),(32:UInt8)]))))))++(ByteArray.mk (List.toArray [105,102,32])))++((ByteArray.mk (List.toArray [110,111,116,32]))++((ByteArray.mk (List.toArray [101,120,105,115,116,115,32]))++(ByteArray.mk (List.toArray (quoL (Array.toList (ByteArray.data (q18t (List.getD (List.getD (slOf (List.getD (List.getD (scrE s) (Int.toNat 0) []) 2 C.ne)) (Int.toNat 0) []) 2 C.ne))))))))))++(ByteArray.mk (List.toArray [32,123,10])))++(⟨#[]⟩++((((ByteArray.mk (List.toArray (List.flatten (List.replicate (Int.toNat (wI 0)) (Array.toList (List.toArray [(32:UInt8),(32:UInt8)]))))))++(List.getD [(ByteArray.mk (List.toArray [107,101,101,112])),(ByteArray.mk (List.toArray [102,105,108,101])),(ByteArray.mk (List.toArray [100,105,115,99,97,114,100])),(ByteArray.mk (List.toArray [114,101,100,105,114,101,99,116])),(ByteArray.mk (List.toArray [114,101,106,101,99,116])),(ByteArray.mk (List.toArray [102,108,97,103])),(ByteArray.mk (List.toArray [114,101,112,108,121]))] (Int.toNat (IntKind.wrap .i64 ((qo4 (List.getD (List.getD (slOf (List.getD (List.getD (scrE s) (Int.toNat 0) []) 7 C.ne)) (Int.toNat 0) []) 9 C.ne)) - 1))) ByteArray.empty))++((ByteArray.mk (List.toArray [32]))++r2))++(ByteArray.mk (List.toArray [59,10])))))++(ByteArray.mk (List.toArray (List.flatten (List.replicate (Int.toNat 0) (Array.toList (List.toArray [(32:UInt8),(32:UInt8)])))))))++(ByteArray.mk (List.toArray [125])))++(ByteArray.mk (List.toArray [10])))),(r3.1,r3.2)))))))))))))))))))
theorem qwz {s r} (h:qx1 s=some r):qx0 s=some r :=
 qg7 (es:=q1bq) (hs:=qmj) [] Tryz.func5 rfl (by kernel_rfl) rfl (by kernel_rfl) (by kernel_rfl) trivial trivial (by kernel_rfl) h
def qwy:=entS Tryz.prog lv X0 5 [] qww qwx (λx=>qx0 x) (λ_ _ h=>qg5 h)
def q1c0:=qwy::q1bq
def usd_e:=inlF 96 [] Tryz.f96 (cdF Tryz.f96) q1c0 qmj [] Tryz.func96 rfl (by kernel_rfl) (λ_=>rfl) (by kernel_rfl) trivial trivial
def q1cr:=usd_e::q1c0
def inr_e:=inlF 97 [] Tryz.f97 (cdF Tryz.f97) q1cr qmj [] Tryz.func97 rfl (by kernel_rfl) (λ_=>rfl) (by kernel_rfl) trivial trivial
def q1bh:=inr_e::q1cr
def ntt_e:=inlF 94 [] Tryz.f94 (cdF Tryz.f94) q1bh qmj [] Tryz.func94 rfl (by kernel_rfl) (λ_=>rfl) (by kernel_rfl) trivial trivial
def q1bm:=ntt_e::q1bh
def pln_e:=inlF 60 [] Tryz.f60 (cdF Tryz.f60) q1bm qmj [] Tryz.func60 rfl (by kernel_rfl) (λ_=>rfl) (by kernel_rfl) trivial trivial
def q1bu:=pln_e::q1bm
def q1eg:LEnt Tryz.prog lv X0 61 119:=inlL 61 119 19 (qk8 (cdF Tryz.f61) 19) q1bu qmj [] 6 (by kernel_rfl) trivial trivial
def q1eh:LEnt Tryz.prog lv X0 61 119:=inlG 61 119 18 (getSeg (cdF Tryz.f61) 18) q1bu qmj [q1eg] (by kernel_rfl) (by kernel_rfl) ⟨⟨_,rfl,rfl⟩,trivial⟩ trivial
def vt1_e:=inlF 61 [] Tryz.f61 (cdF Tryz.f61) q1bu qmj [q1eh] Tryz.func61 rfl (by kernel_rfl) (λ_=>rfl) (by kernel_rfl) trivial ⟨⟨_,rfl,rfl⟩,trivial⟩
def q1cu:=vt1_e::q1bu
def q1ee:LEnt Tryz.prog lv X0 61 119:=inlL 61 119 19 (qk8 (cdF Tryz.f61) 19) q1cu qmj [] 6 (by kernel_rfl) trivial trivial
def q1ef:LEnt Tryz.prog lv X0 61 119:=inlG 61 119 18 (getSeg (cdF Tryz.f61) 18) q1cu qmj [q1ee] (by kernel_rfl) (by kernel_rfl) ⟨⟨_,rfl,rfl⟩,trivial⟩ trivial
def vt0_e:=inlF 61 [] Tryz.f61 (cdF Tryz.f61) q1cu qmj [q1ef] Tryz.func61 rfl (by kernel_rfl) (λ_=>rfl) (by kernel_rfl) trivial ⟨⟨_,rfl,rfl⟩,trivial⟩
def q1ct:=vt0_e::q1cu
def rul1_e:=inlF 34 [] Tryz.f34 (cdF Tryz.f34) q1ct qmj [] Tryz.func34 rfl (by kernel_rfl) (λ_=>rfl) (by kernel_rfl) trivial trivial
def q1c2:=rul1_e::q1ct
def qav:LEnt Tryz.prog lv X0 33 53:=inlL 33 53 11 (qk8 (cdF Tryz.f33) 11) q1c2 qmj [] 4 (by kernel_rfl) trivial trivial
def ck2_u2:LEnt Tryz.prog lv X0 33 53:=inlL 33 53 2 (qk8 (cdF Tryz.f33) 2) q1c2 qmj [qav] 4 (by kernel_rfl) ⟨⟨_,rfl,rfl⟩,trivial⟩ trivial
def ck2_e:=inlH 33 [0,1,4,1,1,1,2,3,0,0,3,3,1,0,1,1,1,1,1,1,6,33,2,3,0,0,3,1,0,0,1] Tryz.f33 (cdF Tryz.f33) q1c2 qmj [ck2_u2] (by kernel_rfl) rfl (by kernel_rfl) (by kernel_rfl) ⟨⟨_,rfl,rfl⟩,trivial⟩ trivial
def qmf:=ck2_e::qmj
def qau:LEnt Tryz.prog lv X0 33 53:=inlL 33 53 11 (qk8 (cdF Tryz.f33) 11) q1c2 qmf [] 4 (by kernel_rfl) trivial trivial
def ck1_u2:LEnt Tryz.prog lv X0 33 53:=inlL 33 53 2 (qk8 (cdF Tryz.f33) 2) q1c2 qmf [qau] 4 (by kernel_rfl) ⟨⟨_,rfl,rfl⟩,trivial⟩ trivial
def ck1_e:=inlH 33 [0,1,4,1,1,1,2,3,0,0,3,3,1,0,1,1,1,1,1,1,6,33,2,3,0,0,3,1,0,0,1] Tryz.f33 (cdF Tryz.f33) q1c2 qmf [ck1_u2] (by kernel_rfl) rfl (by kernel_rfl) (by kernel_rfl) ⟨⟨_,rfl,rfl⟩,trivial⟩ trivial
def qme:=ck1_e::qmf
def qat:LEnt Tryz.prog lv X0 33 53:=inlL 33 53 11 (qk8 (cdF Tryz.f33) 11) q1c2 qme [] 4 (by kernel_rfl) trivial trivial
def ck0_u2:LEnt Tryz.prog lv X0 33 53:=inlL 33 53 2 (qk8 (cdF Tryz.f33) 2) q1c2 qme [qat] 4 (by kernel_rfl) ⟨⟨_,rfl,rfl⟩,trivial⟩ trivial
def ck0_e:=inlH 33 [0,1,4,1,1,1,2,3,0,0,3,3,1,0,1,1,1,1,1,1,6,33,2,3,0,0,3,1,0,0,1] Tryz.f33 (cdF Tryz.f33) q1c2 qme [ck0_u2] (by kernel_rfl) rfl (by kernel_rfl) (by kernel_rfl) ⟨⟨_,rfl,rfl⟩,trivial⟩ trivial
def qmd:=ck0_e::qme
def q1e3:=(qpl (vC cScr))
def q1e4:Cod (V×List B) (Int×Int):=(cFstU (cPair z1m qpk))
def q1e7 (s:BA):=fS Tryz.prog lv X0 15 q1e3 q1e4 s
def q1e8 (s:BA):Oq (Int×Int) :=
 (brE (decide ((((ByteArray.size (q18t (List.getD (List.getD (slOf (List.getD (List.getD [[(C.sl (slOf (List.getD (List.getD (scrE s) (Int.toNat 0) []) 7 C.ne)))],[(C.sl (slOf (List.getD (List.getD (scrE s) (Int.toNat 0) []) 8 C.ne)))]] (Int.toNat 0) []) 0 C.ne)) (Int.toNat 0) []) 11 C.ne))):Nat):Int)>200))
 ((q62 1 (wI 0)).bind λr0 =>
 ((q5w r0.1 r0.2).bind λr1 =>
 (brE r1
 (some (r0.1,r0.2))
 (Option.bind q73 λr2 =>
 ((q5w r2.1 r2.2).bind λr3 =>
 (brE r3
 (some (r2.1,r2.2))
 (Option.bind q73 λr4 =>
 (some (r4.1,r4.2)))))))))
 (Option.bind q73 λr0 =>
 ((q5w r0.1 r0.2).bind λr1 =>
 (brE r1
 ((q5w r0.1 r0.2).bind λr2 =>
 (brE r2
 (some (r0.1,r0.2))
 (Option.bind q73 λr3 =>
 ((q5w r3.1 r3.2).bind λr4 =>
 (brE r4
 (some (r3.1,r3.2))
 (Option.bind q73 λr5 =>
 (some (r5.1,r5.2))))))))
 (Option.bind q73 λr2 =>
 ((q5w r2.1 r2.2).bind λr3 =>
 (brE r3
 ((q5w r2.1 r2.2).bind λr4 =>
 (brE r4
 (some (r2.1,r2.2))
 (Option.bind q73 λr5 =>
 ((q5w r5.1 r5.2).bind λr6 =>
 (brE r6
 (some (r5.1,r5.2))
 (Option.bind q73 λr7 =>
 (some (r7.1,r7.2))))))))
 (Option.bind q73 λr4 =>
 ((q5w r4.1 r4.2).bind λr5 =>
 (brE r5
 (some (r4.1,r4.2))
 (Option.bind q73 λr6 =>
 ((q5w r6.1 r6.2).bind λr7 =>
 (brE r7
 (some (r6.1,r6.2))
 (Option.bind q73 λr8 =>
 (some (r8.1,r8.2))))))))))))))))
theorem q1e6 {s r} (h:q1e8 s=some r):q1e7 s=some r :=
 qg7 (es:=q1c2) (hs:=qmd) [] Tryz.func15 rfl (by kernel_rfl) rfl (by kernel_rfl) (by kernel_rfl) trivial trivial (by kernel_rfl) h
def q1e5:=entS Tryz.prog lv X0 15 [] q1e3 q1e4 (λx=>q1e7 x) (λ_ _ h=>qg5 h)
def q1cs:=q1e5::q1c2
end
end Go.Proofs.YtmlcmoaonaomfaaGreatDoor
