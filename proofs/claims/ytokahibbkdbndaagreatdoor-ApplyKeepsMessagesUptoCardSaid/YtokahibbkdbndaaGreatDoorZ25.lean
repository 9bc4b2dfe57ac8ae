/- Functions of the program as plain functions: made by program from the machine. -/
import Derived.Test.YtokahibbkdbndaaGreatDoorH5
namespace Go.Proofs.YtokahibbkdbndaaGreatDoor
open Go.RowKit
set_option maxRecDepth 100000
noncomputable section
structure S62 where
 Rule:Int
 Outcome:Bool
 Text:ByteArray
end
end Go.Proofs.YtokahibbkdbndaaGreatDoor
namespace Go.Proofs.YtokahibbkdbndaaGreatDoor
open Go.RowKit
set_option maxRecDepth 100000
noncomputable section
end
def evd_ca:Cod (List V) Unit:=q27a
def evd_cr:Cod (V × List B) Bool:=cFstU (cPair (vC cBool) q27a)
def evdS:Option Bool:=some true
set_option maxRecDepth 100000
noncomputable section
end
end Go.Proofs.YtokahibbkdbndaaGreatDoor
