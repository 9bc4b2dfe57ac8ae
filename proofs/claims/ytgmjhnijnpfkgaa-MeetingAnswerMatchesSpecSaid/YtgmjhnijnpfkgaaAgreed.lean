/- table, agreed. -/
import Derived.Test.YtgmjhnijnpfkgaaAnswer
namespace Go.Proofs.Ytgmjhnijnpfkgaa
open Go.RowKit

def tbl : Mtg := ⟨⟨#[111]⟩, [⟨⟨#[103]⟩, 0, 0, 0⟩], 0, 0, 0, false⟩
theorem table_ (w : World) : Calls Try.prog 52 #[] w (MtgPost tbl w) := by
  go_enter Try.func52, Try.ntmps52
  go_wp2
  refine bodyPost_ret (v := .agg (mval tbl (some ⟨w.heap.size + 1, 0, none⟩) 1 1)) (by simp only [results, Try.results52]; go_simp; exact ⟨rfl, rfl, rfl, rfl, rfl⟩) rfl ⟨_, 1, 1, rfl, ?_, ?_, fun q hq => by simp [blk] at hq; omega⟩
  · exact Rd.new' 4 1 _ #[.string ⟨#[103]⟩, .int .i64 0, .int .i64 0, .int .i64 0] (by simp) rfl (by unfold maxLen; omega) (by simp [Value.oneCell'])
  · (repeat (first | with_reducible refine Bel.setCell ?_ (by simp <;> omega) _ | with_reducible refine Bel.alloc ?_ _)); exact Bel.refl _

theorem tbl1 : propOf tbl 1 2 = (tbl.proposed 1 2, 0, 0) := by kernel_rfl
theorem tbl2 : answerOf (tbl.proposed 1 2) ⟨#[103]⟩ 1 0 0 = ((tbl.proposed 1 2).answered 0 1 0 0, 0, 0) := by kernel_rfl
theorem tbl3 : agRes ((tbl.proposed 1 2).answered 0 1 0 0) = (true, 0, 0) := by kernel_rfl
theorem tbl4 : agRes (tbl.proposed 1 2) = (false, 0, 0) := by kernel_rfl

set_option maxHeartbeats 1000000 in
theorem agreedL (w : World) : Calls Try.prog 23 #[] w fun e w' => e = .returned (.bool true) ∧ Bel w w' := by
  go_enter Try.func23, Try.ntmps23
  go_wp2_with fail
  refine (table_ _).mono ?_
  rintro e w1 ⟨A1, n1, c1, rfl, hrd1, hb1, _⟩
  have R1 := Lib.hid hrd1
  have B1 := Lib.hid hb1
  clear hrd1 hb1
  go_wp2_with fail
  refine (proposeX tbl 1 2 A1 n1 c1 _ R1.out).mono ?_
  rw [tbl1]
  rintro e w2 ⟨A2, n2, c2, rfl, hrd2, hb2, _⟩
  have R2 := Lib.hid hrd2
  have B2 := Lib.hid (B1.out.trans hb2)
  clear hrd2 hb2
  go_wp2_with fail
  generalize hW2 : (World.alloc (World.alloc w2 _) _) = W2
  have M2 := Lib.hid (show Blk W2 w2.heap.size 40 (mval (tbl.proposed 1 2) A2 n2 c2) from by rw [← hW2]; exact (Blk.new _ _ _).alloc _)
  have F2 := Lib.hid (show Blk W2 (w2.heap.size + 1) 27 #[.int .i64 0, .int .i64 0] from by rw [← hW2]; exact Blk.new' _ _ (by simp))
  have BW2 := Lib.hid (show Bel w2 W2 from by rw [← hW2]; exact ((Bel.refl _).alloc _).alloc _)
  clear hW2
  refine (answer (tbl.proposed 1 2) ⟨#[103]⟩ 1 0 0 A2 n2 c2 _ (R2.out.bel BW2.out)).mono ?_
  rw [tbl2]
  rintro e w3 ⟨A3, n3, c3, rfl, hrd3, hb3, _⟩
  have R3 := Lib.hid hrd3
  have B3 := Lib.hid ((B2.out.trans BW2.out).trans hb3)
  have hcm := (M2.out.bel hb3).cell
  have hlm : w2.heap.size + 1 < w3.heap.size := (F2.out.bel hb3).lt
  have M3 := Lib.hid (M2.out.bel hb3)
  have F3 := Lib.hid (F2.out.bel hb3)
  have R23 := Lib.hid ((R2.out.bel BW2.out).bel hb3)
  clear hrd3 hb3
  go_wp2_with fail
  generalize hW3 : (World.alloc (World.alloc w3 _) _) = W3
  have N4 := Lib.hid (show Blk W3 w3.heap.size 40 (mval ((tbl.proposed 1 2).answered 0 1 0 0) A3 n3 c3) from by rw [← hW3]; exact (Blk.new _ _ _).alloc _)
  have G4 := Lib.hid (show Blk W3 (w3.heap.size + 1) 27 #[.int .i64 0, .int .i64 0] from by rw [← hW3]; exact Blk.new' _ _ (by simp))
  have BW3 := Lib.hid (show Bel w3 W3 from by rw [← hW3]; exact ((Bel.refl _).alloc _).alloc _)
  clear hW3 hcm hlm
  refine (agreedX ((tbl.proposed 1 2).answered 0 1 0 0) A3 n3 c3 _ (R3.out.bel BW3.out)).mono ?_
  rw [tbl3]
  rintro e w4 ⟨rfl, hb4⟩
  have X4 := Lib.hid (BW3.out.trans hb4)
  have hcm := (M3.out.bel X4.out).cell
  have hlm : w2.heap.size < w4.heap.size := (M3.out.bel X4.out).lt
  have Y4 := Lib.hid hb4
  clear hb4
  go_wp2_with fail
  generalize hW4 : (World.alloc w4 _) = W4
  have H5 := Lib.hid (show Blk W4 w4.heap.size 27 #[.int .i64 0, .int .i64 0] from by rw [← hW4]; exact Blk.new _ _ _)
  have BW4 := Lib.hid (show Bel w4 W4 from by rw [← hW4]; exact (Bel.refl _).alloc _)
  clear hW4 hcm hlm
  refine (agreedX (tbl.proposed 1 2) A2 n2 c2 _ ((R23.out.bel X4.out).bel BW4.out)).mono ?_
  rw [tbl4]
  rintro e w5 ⟨rfl, hb5⟩
  have Z5 := BW4.out.trans hb5
  have hm := (M3.out.bel (X4.out.trans Z5)).cell
  have hf := (F3.out.bel (X4.out.trans Z5)).cell
  have hg := (G4.out.bel (Y4.out.trans Z5)).cell
  have hh := (H5.out.bel hb5).cell
  have l1 : w2.heap.size + 1 < w5.heap.size := (F3.out.bel (X4.out.trans Z5)).lt
  have l0 : w2.heap.size < w5.heap.size := by omega
  have l2 : w3.heap.size + 1 < w5.heap.size := (G4.out.bel (Y4.out.trans Z5)).lt
  have l3 : w4.heap.size < w5.heap.size := (H5.out.bel hb5).lt
  have BF := Lib.hid ((B3.out.trans X4.out).trans Z5)
  have hrd : (tbl.proposed 1 2).round = 1 := rfl
  clear Z5 hb5
  go_wp2
  go_ret
  exact ⟨rfl, BF.out.alloc _⟩
end Go.Proofs.Ytgmjhnijnpfkgaa
