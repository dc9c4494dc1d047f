/-
  StrNames, walked: the chapter's examples.
-/
import Derived.Test.YtnlaolehpofmlaaDoorPartsPlain
import Derived.Test.YtnlaolehpofmlaaDoorPlainWalk
import Derived.Test.YtnlaolehpofmlaaDoorAliveWalk
namespace Go.Proofs.YtnlaolehpofmlaaDoor
open Go.RowKit

theorem mx_on {w w' : World} (h : Mx w.drew) (hb : Below w.heap.size w w') : Mx w' := mx_below (show Mx w from h) hb

set_option maxHeartbeats 8000000 in
set_option maxRecDepth 100000 in
theorem law_names (w : World) (hm : Mx w) : Calls Tryd.prog 5 #[] w fun e w' => e = .returned (.bool true) ∧ Below w.heap.size w w' := by
  obtain ⟨nz, hn, hz⟩ := run_div_0_0 (P := Tryd.prog) 22 w
  have M := hidB (show Mx w.drew from hm)
  have Bt : Hid (Below w.heap.size w w.drew) := hidB (Below.refl _ _).drew
  have P1 : Hid (∀ W, Calls Tryd.prog 8 #[.string ⟨#[97, 98, 99, 100, 101]⟩, .float .f64 13835058055282163712, .float .f64 nz] W fun e w' => e = .returned (.string ⟨#[]⟩) ∧ Below W.heap.size W w') := hidB fun W => (part_any ⟨#[97, 98, 99, 100, 101]⟩ 13835058055282163712 nz (by decide) W).mono fun e w' h => ⟨by rw [h.1, show partR ⟨#[97, 98, 99, 100, 101]⟩ 13835058055282163712 nz = ⟨#[]⟩ from by unfold partR; rw [show Fl.plc (⟨#[97, 98, 99, 100, 101]⟩ : ByteArray).size nz = 0 from if_pos hn]; decide +kernel], by rw [← h.2]; exact Below.refl _ _⟩
  have P2 : Hid (∀ W, Calls Tryd.prog 8 #[.string ⟨#[97, 98, 99, 100, 101]⟩, .float .f64 13835058055282163712, .float .f64 4636666922610458624] W fun e w' => e = .returned (.string ⟨#[100, 101]⟩) ∧ Below W.heap.size W w') := hidB fun W => (part_any ⟨#[97, 98, 99, 100, 101]⟩ 13835058055282163712 4636666922610458624 (by decide) W).mono fun e w' h => ⟨by rw [h.1, show partR ⟨#[97, 98, 99, 100, 101]⟩ 13835058055282163712 4636666922610458624 = ⟨#[100, 101]⟩ from by decide +kernel], by rw [← h.2]; exact Below.refl _ _⟩
  have P3 : Hid (∀ W, Calls Tryd.prog 8 #[.string ⟨#[97, 98, 99]⟩, .float .f64 4611686018427387904, .float .f64 4607182418800017408] W fun e w' => e = .returned (.string ⟨#[]⟩) ∧ Below W.heap.size W w') := hidB fun W => (part_any ⟨#[97, 98, 99]⟩ 4611686018427387904 4607182418800017408 (by decide) W).mono fun e w' h => ⟨by rw [h.1, show partR ⟨#[97, 98, 99]⟩ 4611686018427387904 4607182418800017408 = ⟨#[]⟩ from by decide +kernel], by rw [← h.2]; exact Below.refl _ _⟩
  have P4 : Hid (∀ W, Calls Tryd.prog 8 #[.string ⟨#[97, 98, 99]⟩, .float .f64 nz, .float .f64 4613712638259704627] W fun e w' => e = .returned (.string ⟨#[97, 98]⟩) ∧ Below W.heap.size W w') := hidB fun W => (part_any ⟨#[97, 98, 99]⟩ nz 4613712638259704627 (by decide) W).mono fun e w' h => ⟨by rw [h.1, show partR ⟨#[97, 98, 99]⟩ nz 4613712638259704627 = ⟨#[97, 98]⟩ from by unfold partR; rw [show Fl.plc (⟨#[97, 98, 99]⟩ : ByteArray).size nz = 0 from if_pos hn]; decide +kernel], by rw [← h.2]; exact Below.refl _ _⟩
  have P5 : Hid (∀ W, Calls Tryd.prog 8 #[.string ⟨#[97, 98, 99]⟩, .float .f64 13844628204490326016, .float .f64 13832806255468478464] W fun e w' => e = .returned (.string ⟨#[97, 98]⟩) ∧ Below W.heap.size W w') := hidB fun W => (part_any ⟨#[97, 98, 99]⟩ 13844628204490326016 13832806255468478464 (by decide) W).mono fun e w' h => ⟨by rw [h.1, show partR ⟨#[97, 98, 99]⟩ 13844628204490326016 13832806255468478464 = ⟨#[97, 98]⟩ from by decide +kernel], by rw [← h.2]; exact Below.refl _ _⟩
  have P6 : Hid (∀ W, Mx W → Calls Tryd.prog 10 #[.string ⟨#[98, 97, 110, 97, 110, 97]⟩, .string ⟨#[97, 110]⟩, .int .i64 2] W fun e w' => e = .returned (.int .i64 (3)) ∧ Below W.heap.size W w') := hidB fun W hM => (find_any ⟨#[98, 97, 110, 97, 110, 97]⟩ ⟨#[97, 110]⟩ (2) (by decide) W hM).mono fun e w' h => ⟨by rw [h.1, show findR ⟨#[98, 97, 110, 97, 110, 97]⟩ ⟨#[97, 110]⟩ (2) = 3 by decide +kernel], by rw [← h.2]; exact Below.refl _ _⟩
  have P7 : Hid (∀ W, Mx W → Calls Tryd.prog 10 #[.string ⟨#[97, 98, 99]⟩, .string ⟨#[]⟩, .int .i64 9] W fun e w' => e = .returned (.int .i64 (3)) ∧ Below W.heap.size W w') := hidB fun W hM => (find_any ⟨#[97, 98, 99]⟩ ⟨#[]⟩ (9) (by decide) W hM).mono fun e w' h => ⟨by rw [h.1, show findR ⟨#[97, 98, 99]⟩ ⟨#[]⟩ (9) = 3 by decide +kernel], by rw [← h.2]; exact Below.refl _ _⟩
  have P8 : Hid (∀ W, Mx W → Calls Tryd.prog 10 #[.string ⟨#[97, 98, 99]⟩, .string ⟨#[100]⟩, .int .i64 (-1)] W fun e w' => e = .returned (.int .i64 (-1)) ∧ Below W.heap.size W w') := hidB fun W hM => (find_any ⟨#[97, 98, 99]⟩ ⟨#[100]⟩ (-1) (by decide) W hM).mono fun e w' h => ⟨by rw [h.1, show findR ⟨#[97, 98, 99]⟩ ⟨#[100]⟩ (-1) = -1 by decide +kernel], by rw [← h.2]; exact Below.refl _ _⟩
  have P9 : Hid (∀ W, Mx W → Calls Tryd.prog 10 #[.string ⟨#[]⟩, .string ⟨#[]⟩, .int .i64 0] W fun e w' => e = .returned (.int .i64 (0)) ∧ Below W.heap.size W w') := hidB fun W hM => (find_any ⟨#[]⟩ ⟨#[]⟩ (0) (by decide) W hM).mono fun e w' h => ⟨by rw [h.1, show findR ⟨#[]⟩ ⟨#[]⟩ (0) = 0 by decide +kernel], by rw [← h.2]; exact Below.refl _ _⟩
  have P10 : Hid (∀ W, Calls Tryd.prog 18 #[.string ⟨#[92, 120, 52, 49, 98]⟩] W fun e w' => e = .returned (.tuple #[.string ⟨#[65, 98]⟩, .int .i64 0, .int .i64 0]) ∧ Below W.heap.size W w') := hidB fun W => (plain_any ⟨#[92, 120, 52, 49, 98]⟩ W (by decide)).mono fun e w' h => ⟨by rw [h.1, show plainR (⟨#[92, 120, 52, 49, 98]⟩ : ByteArray).data.toList = ([65, 98], 0, 0) by decide +kernel]; rfl, h.2⟩
  have P11 : Hid (∀ W, Calls Tryd.prog 18 #[.string ⟨#[97, 92, 113]⟩] W fun e w' => e = .returned (.tuple #[.string ⟨#[]⟩, .int .i64 1, .int .i64 5]) ∧ Below W.heap.size W w') := hidB fun W => (plain_any ⟨#[97, 92, 113]⟩ W (by decide)).mono fun e w' h => ⟨by rw [h.1, show plainR (⟨#[97, 92, 113]⟩ : ByteArray).data.toList = ([], 1, 5) by decide +kernel]; rfl, h.2⟩
  have P12 : Hid (∀ W, Calls Tryd.prog 18 #[.string ⟨#[92, 120, 52]⟩] W fun e w' => e = .returned (.tuple #[.string ⟨#[]⟩, .int .i64 0, .int .i64 5]) ∧ Below W.heap.size W w') := hidB fun W => (plain_any ⟨#[92, 120, 52]⟩ W (by decide)).mono fun e w' h => ⟨by rw [h.1, show plainR (⟨#[92, 120, 52]⟩ : ByteArray).data.toList = ([], 0, 5) by decide +kernel]; rfl, h.2⟩
  have P13 : Hid (∀ W, Calls Tryd.prog 19 #[.string ⟨#[97, 34, 10, 255]⟩] W fun e w' => e = .returned (.string ⟨#[34, 97, 92, 34, 92, 110, 92, 120, 102, 102, 34]⟩) ∧ Below W.heap.size W w') := hidB fun W => (quote_any ⟨#[97, 34, 10, 255]⟩ W (by decide)).mono fun e w' h => ⟨by rw [h.1, show ((quoted (⟨#[97, 34, 10, 255]⟩ : ByteArray).data.toList ++ [34] : List UInt8)).toArray = (#[34, 97, 92, 34, 92, 110, 92, 120, 102, 102, 34] : Array UInt8) by decide +kernel], h.2⟩
  have P14 : Hid (∀ W, Calls Tryd.prog 20 #[.string ⟨#[97, 98]⟩, .int .i64 (2)] W fun e w' => e = .returned (.tuple #[.string ⟨#[97, 98, 97, 98]⟩, .int .i64 0]) ∧ Below W.heap.size W w') := hidB fun W => (repeat_any ⟨#[97, 98]⟩ (2) (by decide) (by decide) (by decide) W).mono fun e w' h => ⟨by rw [h.1, show repR ⟨#[97, 98]⟩ (2) = (⟨#[97, 98, 97, 98]⟩, 0) by decide +kernel], h.2⟩
  have P15 : Hid (∀ W, Calls Tryd.prog 20 #[.string ⟨#[97]⟩, .int .i64 (-1)] W fun e w' => e = .returned (.tuple #[.string ⟨#[]⟩, .int .i64 2]) ∧ Below W.heap.size W w') := hidB fun W => (repeat_any ⟨#[97]⟩ (-1) (by decide) (by decide) (by decide) W).mono fun e w' h => ⟨by rw [h.1, show repR ⟨#[97]⟩ (-1) = (⟨#[]⟩, 2) by decide +kernel], h.2⟩
  have P16 : Hid (∀ W, Calls Tryd.prog 20 #[.string ⟨#[97]⟩, .int .i64 (4097)] W fun e w' => e = .returned (.tuple #[.string ⟨#[]⟩, .int .i64 20]) ∧ Below W.heap.size W w') := hidB fun W => (repeat_any ⟨#[97]⟩ (4097) (by decide) (by decide) (by decide) W).mono fun e w' h => ⟨by rw [h.1, show repR ⟨#[97]⟩ (4097) = (⟨#[]⟩, 20) by decide +kernel], h.2⟩
  have P17 : Hid (∀ W, Calls Tryd.prog 20 #[.string ⟨#[]⟩, .int .i64 (9)] W fun e w' => e = .returned (.tuple #[.string ⟨#[]⟩, .int .i64 0]) ∧ Below W.heap.size W w') := hidB fun W => (repeat_any ⟨#[]⟩ (9) (by decide) (by decide) (by decide) W).mono fun e w' h => ⟨by rw [h.1, show repR ⟨#[]⟩ (9) = (⟨#[]⟩, 0) by decide +kernel], h.2⟩
  have P18 : Hid (∀ W, Calls Tryd.prog 6 #[.string ⟨#[97, 98, 99]⟩, .int .i64 2] W fun e w' => e = .returned (.tuple #[.string ⟨#[99]⟩, .bool true]) ∧ Below W.heap.size W w') := hidB fun W => (at_any ⟨#[97, 98, 99]⟩ 2 (by decide) W).mono fun e w' h => ⟨by rw [h.1, show atR ⟨#[97, 98, 99]⟩ 2 = (⟨#[99]⟩, true) by decide +kernel], h.2⟩
  have P19 : Hid (∀ W, Calls Tryd.prog 6 #[.string ⟨#[97, 98, 99]⟩, .int .i64 3] W fun e w' => e = .returned (.tuple #[.string ⟨#[]⟩, .bool false]) ∧ Below W.heap.size W w') := hidB fun W => (at_any ⟨#[97, 98, 99]⟩ 3 (by decide) W).mono fun e w' h => ⟨by rw [h.1, show atR ⟨#[97, 98, 99]⟩ 3 = (⟨#[]⟩, false) by decide +kernel], h.2⟩
  have P20 : Hid (∀ W, Calls Tryd.prog 14 #[.string ⟨#[32, 97, 32, 13, 10]⟩] W fun e w' => e = .returned (.string ⟨#[97]⟩) ∧ Below W.heap.size W w') := hidB fun W => (trimP_any ⟨#[32, 97, 32, 13, 10]⟩ W (by decide)).mono fun e w' h => by obtain ⟨⟨r, hr, hd⟩, hb⟩ := h; exact ⟨by rw [hr, show r = ⟨#[97]⟩ from ba_eq (hd.trans (by decide +kernel))], hb⟩
  have P21 : Hid (∀ W, Calls Tryd.prog 12 #[.string ⟨#[97]⟩, .string ⟨#[97, 98]⟩] W fun e w' => e = .returned (.bool true) ∧ Below W.heap.size W w') := hidB fun W => (less_any ⟨#[97]⟩ ⟨#[97, 98]⟩ W).mono fun e w' h => ⟨by rw [h.1, show lessR ⟨#[97]⟩ ⟨#[97, 98]⟩ = true by decide +kernel], by rw [← h.2]; exact Below.refl _ _⟩
  have P22 : Hid (∀ W, Calls Tryd.prog 12 #[.string ⟨#[98]⟩, .string ⟨#[97, 98]⟩] W fun e w' => e = .returned (.bool false) ∧ Below W.heap.size W w') := hidB fun W => (less_any ⟨#[98]⟩ ⟨#[97, 98]⟩ W).mono fun e w' h => ⟨by rw [h.1, show lessR ⟨#[98]⟩ ⟨#[97, 98]⟩ = false by decide +kernel], by rw [← h.2]; exact Below.refl _ _⟩
  have P23 : Hid (∀ W, Calls Tryd.prog 16 #[] W fun e w' => e = .returned (.bool true) ∧ Below W.heap.size W w') := hidB fun W => alive_any W
  clear hn hm
  go_enter Tryd.func5, Tryd.ntmps5
  go_wp2_with fail
  refine (P1.out _).mono ?_; rintro e w1 ⟨rfl, hb⟩
  replace Bt := hidB (grow Bt.out hb)
  clear hb
  go_wp2_with fail
  refine (P2.out _).mono ?_; rintro e w2 ⟨rfl, hb⟩
  replace Bt := hidB (grow Bt.out hb)
  clear hb
  go_wp2_with fail
  refine (P3.out _).mono ?_; rintro e w3 ⟨rfl, hb⟩
  replace Bt := hidB (grow Bt.out hb)
  clear hb
  go_wp2_with fail
  refine (P4.out _).mono ?_; rintro e w4 ⟨rfl, hb⟩
  replace Bt := hidB (grow Bt.out hb)
  clear hb
  go_wp2_with fail
  refine (P5.out _).mono ?_; rintro e w5 ⟨rfl, hb⟩
  replace Bt := hidB (grow Bt.out hb)
  clear hb
  go_wp2_with fail
  refine (P6.out _ (mx_on M.out Bt.out)).mono ?_; rintro e w6 ⟨rfl, hb⟩
  replace Bt := hidB (grow Bt.out hb)
  clear hb
  go_wp2_with fail
  refine (P7.out _ (mx_on M.out Bt.out)).mono ?_; rintro e w7 ⟨rfl, hb⟩
  replace Bt := hidB (grow Bt.out hb)
  clear hb
  go_wp2_with fail
  refine (P8.out _ (mx_on M.out Bt.out)).mono ?_; rintro e w8 ⟨rfl, hb⟩
  replace Bt := hidB (grow Bt.out hb)
  clear hb
  go_wp2_with fail
  refine (P9.out _ (mx_on M.out Bt.out)).mono ?_; rintro e w9 ⟨rfl, hb⟩
  replace Bt := hidB (grow Bt.out hb)
  clear hb
  go_wp2_with fail
  refine (P10.out _).mono ?_; rintro e w10 ⟨rfl, hb⟩
  replace Bt := hidB (grow Bt.out hb)
  clear hb
  go_wp2_with fail
  refine (P11.out _).mono ?_; rintro e w11 ⟨rfl, hb⟩
  replace Bt := hidB (grow Bt.out hb)
  clear hb
  go_wp2_with fail
  refine (P12.out _).mono ?_; rintro e w12 ⟨rfl, hb⟩
  replace Bt := hidB (grow Bt.out hb)
  clear hb
  go_wp2_with fail
  refine (P13.out _).mono ?_; rintro e w13 ⟨rfl, hb⟩
  replace Bt := hidB (grow Bt.out hb)
  clear hb
  go_wp2_with fail
  refine (P14.out _).mono ?_; rintro e w14 ⟨rfl, hb⟩
  replace Bt := hidB (grow Bt.out hb)
  clear hb
  go_wp2_with fail
  refine (P15.out _).mono ?_; rintro e w15 ⟨rfl, hb⟩
  replace Bt := hidB (grow Bt.out hb)
  clear hb
  go_wp2_with fail
  refine (P16.out _).mono ?_; rintro e w16 ⟨rfl, hb⟩
  replace Bt := hidB (grow Bt.out hb)
  clear hb
  go_wp2_with fail
  refine (P17.out _).mono ?_; rintro e w17 ⟨rfl, hb⟩
  replace Bt := hidB (grow Bt.out hb)
  clear hb
  go_wp2_with fail
  refine (P18.out _).mono ?_; rintro e w18 ⟨rfl, hb⟩
  replace Bt := hidB (grow Bt.out hb)
  clear hb
  go_wp2_with fail
  refine (P19.out _).mono ?_; rintro e w19 ⟨rfl, hb⟩
  replace Bt := hidB (grow Bt.out hb)
  clear hb
  go_wp2_with fail
  refine (P20.out _).mono ?_; rintro e w20 ⟨rfl, hb⟩
  replace Bt := hidB (grow Bt.out hb)
  clear hb
  go_wp2_with fail
  refine (P21.out _).mono ?_; rintro e w21 ⟨rfl, hb⟩
  replace Bt := hidB (grow Bt.out hb)
  clear hb
  go_wp2_with fail
  refine (P22.out _).mono ?_; rintro e w22 ⟨rfl, hb⟩
  replace Bt := hidB (grow Bt.out hb)
  clear hb
  go_wp2_with fail
  refine (P23.out _).mono ?_; rintro e w23 ⟨rfl, hb⟩
  replace Bt := hidB (grow Bt.out hb)
  clear hb
  go_wp2_with fail
  go_ret
  exact ⟨rfl, Bt.out⟩

end Go.Proofs.YtnlaolehpofmlaaDoor
