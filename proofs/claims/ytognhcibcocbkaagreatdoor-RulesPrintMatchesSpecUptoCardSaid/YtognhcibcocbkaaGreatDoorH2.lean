/- Functions of the program as plain functions: made by program from the machine. -/
import Derived.Test.YtognhcibcocbkaaGreatDoorH1
namespace Go.Proofs.YtognhcibcocbkaaGreatDoor
open Go.RowKit
set_option maxRecDepth 100000
noncomputable section
def qip:Cod (List V) Unit:=qai
def qiq:Cod (V×List B) (ByteArray×ByteArray×ByteArray):=(cFstU (cPair (vAgg (qah (vC cStr) (qah (vC cStr) (qaj (vC cStr))))) qai))
def qit :=fS Tryz.prog lv X0 94 qip qiq ()
def qiu :Oq (BA×BA×BA) :=
 (some ((ByteArray.mk (List.toArray [(105:UInt8),(115:UInt8)])),((ByteArray.mk (List.toArray [(99:UInt8),(111:UInt8),(110:UInt8),(116:UInt8),(97:UInt8),(105:UInt8),(110:UInt8),(115:UInt8)])),(ByteArray.mk (List.toArray [(108:UInt8),(105:UInt8),(107:UInt8),(101:UInt8)])))))
theorem qis {r} (h:qiu =some r):qit =some r :=
 q6x (es:=qtm) (hs:=q92) [] Tryz.func94 rfl (by kernel_rfl) rfl (by kernel_rfl) (by kernel_rfl) trivial trivial (by kernel_rfl) h
def qir:=entS Tryz.prog lv X0 94 [] qip qiq (fun x=>qit ) (fun _ _ h=>q6w h)
def qtq:=qir::qtm
def qi6:Cod (List V) Unit:=qai
def qi7:Cod (V×List B) (ByteArray×ByteArray×ByteArray×ByteArray×ByteArray×ByteArray×ByteArray):=(cFstU (cPair (vAgg (qah (vC cStr) (qah (vC cStr) (qah (vC cStr) (qah (vC cStr) (qah (vC cStr) (qah (vC cStr) (qaj (vC cStr))))))))) qai))
def qia :=fS Tryz.prog lv X0 64 qi6 qi7 ()
def qib :Oq (BA×BA×BA×BA×BA×BA×BA) :=
 (some ((ByteArray.mk (List.toArray [(107:UInt8),(101:UInt8),(101:UInt8),(112:UInt8)])),((ByteArray.mk (List.toArray [(102:UInt8),(105:UInt8),(108:UInt8),(101:UInt8)])),((ByteArray.mk (List.toArray [(100:UInt8),(105:UInt8),(115:UInt8),(99:UInt8),(97:UInt8),(114:UInt8),(100:UInt8)])),((ByteArray.mk (List.toArray [(114:UInt8),(101:UInt8),(100:UInt8),(105:UInt8),(114:UInt8),(101:UInt8),(99:UInt8),(116:UInt8)])),((ByteArray.mk (List.toArray [(114:UInt8),(101:UInt8),(106:UInt8),(101:UInt8),(99:UInt8),(116:UInt8)])),((ByteArray.mk (List.toArray [(102:UInt8),(108:UInt8),(97:UInt8),(103:UInt8)])),(ByteArray.mk (List.toArray [(114:UInt8),(101:UInt8),(112:UInt8),(108:UInt8),(121:UInt8)])))))))))
theorem qi9 {r} (h:qib =some r):qia =some r :=
 q6x (es:=qtq) (hs:=q92) [] Tryz.func64 rfl (by kernel_rfl) rfl (by kernel_rfl) (by kernel_rfl) trivial trivial (by kernel_rfl) h
def qi8:=entS Tryz.prog lv X0 64 [] qi6 qi7 (fun x=>qia ) (fun _ _ h=>q6w h)
def qtn:=qi8::qtq
def qm6:=sLS [0,1,2] (qah (vPtr 0 0) (qah (vC (cInt .i64)) (qaj (vC cStr)))) (qaj (qd1 (bBox (qah (vC cStr) (qah (vC (cInt .i64)) (qah (vC (cInt .i64)) (qah (vC (cInt .i64)) (qah (vC cStr) (qah (vC cBool) (qah (vC (cInt .i64)) (qah (vC (cInt .i64)) (qaj (vC (cInt .i64)))))))))))))) [false] [0] (by decide) (fun _=>rfl)
def qm5:SC (Bool×(ByteArray×Int×Int×Int×ByteArray×Bool×Int×Int×Int)):=sLS [0] (qaj (vC cBool)) (qaj (qd1 (bBox (qah (vC cStr) (qah (vC (cInt .i64)) (qah (vC (cInt .i64)) (qah (vC (cInt .i64)) (qah (vC cStr) (qah (vC cBool) (qah (vC (cInt .i64)) (qah (vC (cInt .i64)) (qaj (vC (cInt .i64)))))))))))))) [false] [0] (by decide) (fun _=>rfl)
def qm4:HC (Bool×(Bool×(ByteArray×Int×Int×Int×ByteArray×Bool×Int×Int×Int))):=hPair (vC cBool) qm5
def qm1 (kind:Int) (s b0:BA) (b0_1 b0_2 b0_3:Int) (b0_4:BA) (b0_5:Bool) (b0_6 b0_7 b0_8:Int):=hS Tryz.prog lv X0 54 qm6 qm4 (((),kind,s),(b0,b0_1,b0_2,b0_3,b0_4,b0_5,b0_6,b0_7,b0_8))
def qm2:=hentS Tryz.prog lv X0 54 [0,3,0,0,1,1,1,2,1,3,1,9,1,3,1,1,1,1,1,1,1,3,1,2,1,1,1,1,1,1,0] qm6 qm4 (fun x=>qm1 x.1.2.1 x.1.2.2 x.2.1 x.2.2.1 x.2.2.2.1 x.2.2.2.2.1 x.2.2.2.2.2.1 x.2.2.2.2.2.2.1 x.2.2.2.2.2.2.2.1 x.2.2.2.2.2.2.2.2.1 x.2.2.2.2.2.2.2.2.2) (fun _ _ h=>q8p h)
def q97:=qm2::q92
end
end Go.Proofs.YtognhcibcocbkaaGreatDoor
