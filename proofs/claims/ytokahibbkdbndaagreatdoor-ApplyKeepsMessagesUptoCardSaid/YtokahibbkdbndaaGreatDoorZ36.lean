/- What prove answers holds for each mail. -/
import Derived.Test.YtokahibbkdbndaaGreatDoorZ35
import Derived.Test.YtokahibbkdbndaaGreatDoorH9
import Derived.Test.YtokahibbkdbndaaGreatDoorZ25
namespace Go.Proofs.YtokahibbkdbndaaGreatDoor
open Go.RowKit
theorem q1jr {s:List S50} (h:Tried s) (f:ByteArray) (rc:List S118) (fs:List S55) (bd:List Int) :
  sameRun ((mailO f rc fs (((msgF fs bd).1.1:Nat):Int) (tsL [] s):Nat):Int) (tsL [] s) 0 [] [] (theRun s f rc fs bd) (runL ((mailO f rc fs (((msgF fs bd).1.1:Nat):Int) (tsL [] s):Nat):Int) (tsL [] s) s 0) :=
 q1dx f rc fs _ _ (tsL [] s) (fun i hi=>q1fq f rc fs _ (tsL [] s) i hi) _ s rfl h.val (tsL_in s []) 0 [] [] []
theorem q1c3 (p:Int→Bool) (a:List S45):(a.any fun x=>p x.Kind)=(a.map fun x=>x.Kind).any p:=by rw [List.any_map];rfl
theorem q1fh {s:List S50} (h:Tried s) (h0:(faultK s).1=0) (hk:keepsF s=true) {f:ByteArray} {rc:List S118} {e:ByteArray} {fs:List S55} {bd:List Int} (hF:(runF s f rc e fs bd).1=0) :
  (runA s f rc e fs bd).any (fun x=>kB x.Kind)=true:=by
 obtain ⟨_,g2,_⟩:=q1jr h f rc fs bd
 have hlt:=q1fr f rc fs (((msgF fs bd).1.1:Nat):Int) (tsL [] s)
 unfold keepsF at hk
 rw [if_pos h0] at hk
 have hkept:=(q1fp _ _ _ _ _ hk).2 _ (Nat.zero_le _) (by rw [Nat.zero_add];exact hlt)
 unfold runA
 rw [if_neg (by simp [hF])]
 rw [List.map_nil,List.nil_append] at g2
 rw [←g2] at hkept
 generalize (theRun s f rc fs bd).2.2.1=a at hkept
 unfold keptB at hkept
 rw [←q1c3,←q1c3,Bool.or_eq_true] at hkept
 unfold finA
 rcases hkept with hh|hh
 ·split
  ·exact hh
  ·rw [List.any_append,hh,Bool.true_or]
 ·have hh:(a.any fun x=>dB x.Kind)=false:=by simpa using hh
  rw [hh,if_neg (by decide),List.any_append]
  rw [show ([(⟨1,noTx,0⟩:S45)].any fun x=>kB x.Kind)=true from rfl,Bool.or_true]
end Go.Proofs.YtokahibbkdbndaaGreatDoor
namespace Go.Proofs.YtokahibbkdbndaaGreatDoor
open Go.RowKit
set_option maxRecDepth 100000
noncomputable section
end
set_option maxRecDepth 100000
noncomputable section
end
end Go.Proofs.YtokahibbkdbndaaGreatDoor
