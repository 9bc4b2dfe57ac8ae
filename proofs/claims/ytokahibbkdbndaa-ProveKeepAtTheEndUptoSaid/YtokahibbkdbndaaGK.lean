/- The closed test 'kept()' is run by the machine inside the kernel. -/
import Derived.Test.YtokahibbkdbndaaGP4
namespace Go.Proofs.Ytokahibbkdbndaa
open Go.RowKit
set_option maxRecDepth 100000 in
theorem kept_run : callD Try.prog (fzL lv) X0 (execD Try.prog lv X0 200) 8 [] = some (.c (.bool true), []) := by kernel_rfl
def kept_ca : Cod (List V) Unit := lNil
def kept_cr : Cod (V × List B) Bool := cFstU (cPair (vC cBool) lNil)
def keptS : Option Bool := some true
theorem kept_call (x : Unit) (r : Bool) (h : keptS = some r) : Call Try.prog lv X0 8 (kept_ca.enc x) = some (kept_cr.enc r) := by
  cases r with
  | true => exact Call_fuel kept_run
  | false => unfold keptS at h; cases h
noncomputable def kept_e : Ent Try.prog lv X0 := entS Try.prog lv X0 8 [] kept_ca kept_cr (fun _ => keptS) kept_call
noncomputable def tabk : List (Ent Try.prog lv X0) := kept_e :: tab_posthouseref6_ProveFault
end Go.Proofs.Ytokahibbkdbndaa
