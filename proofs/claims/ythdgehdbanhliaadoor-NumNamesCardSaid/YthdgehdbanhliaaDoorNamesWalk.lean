/-
  NumNames, walked: the chapter's examples.
-/
import Derived.Test.YthdgehdbanhliaaDoorAgainWalk
namespace Go.Proofs.YthdgehdbanhliaaDoor
open Go.RowKit

theorem isn_m2147483648 : Fl.Is 13970166044103278592 (-2147483648) := by
  have h : FloatKind.f64.nearest (-2147483648) = 13970166044103278592 := by decide +kernel
  rw [← h]; exact Fl.is_nearest _ (by decide) (by decide)
theorem isn_m12 : Fl.Is 13846317054350589952 (-12) := by
  have h : FloatKind.f64.nearest (-12) = 13846317054350589952 := by decide +kernel
  rw [← h]; exact Fl.is_nearest _ (by decide) (by decide)
theorem isn_m8 : Fl.Is 13844065254536904704 (-8) := by
  have h : FloatKind.f64.nearest (-8) = 13844065254536904704 := by decide +kernel
  rw [← h]; exact Fl.is_nearest _ (by decide) (by decide)
theorem isn_m7 : Fl.Is 13842939354630062080 (-7) := by
  have h : FloatKind.f64.nearest (-7) = 13842939354630062080 := by decide +kernel
  rw [← h]; exact Fl.is_nearest _ (by decide) (by decide)
theorem isn_m6 : Fl.Is 13841813454723219456 (-6) := by
  have h : FloatKind.f64.nearest (-6) = 13841813454723219456 := by decide +kernel
  rw [← h]; exact Fl.is_nearest _ (by decide) (by decide)
theorem isn_m5 : Fl.Is 13840687554816376832 (-5) := by
  have h : FloatKind.f64.nearest (-5) = 13840687554816376832 := by decide +kernel
  rw [← h]; exact Fl.is_nearest _ (by decide) (by decide)
theorem isn_m4 : Fl.Is 13839561654909534208 (-4) := by
  have h : FloatKind.f64.nearest (-4) = 13839561654909534208 := by decide +kernel
  rw [← h]; exact Fl.is_nearest _ (by decide) (by decide)
theorem isn_m3 : Fl.Is 13837309855095848960 (-3) := by
  have h : FloatKind.f64.nearest (-3) = 13837309855095848960 := by decide +kernel
  rw [← h]; exact Fl.is_nearest _ (by decide) (by decide)
theorem isn_m2 : Fl.Is 13835058055282163712 (-2) := by
  have h : FloatKind.f64.nearest (-2) = 13835058055282163712 := by decide +kernel
  rw [← h]; exact Fl.is_nearest _ (by decide) (by decide)
theorem isn_m1 : Fl.Is 13830554455654793216 (-1) := by
  have h : FloatKind.f64.nearest (-1) = 13830554455654793216 := by decide +kernel
  rw [← h]; exact Fl.is_nearest _ (by decide) (by decide)
theorem isn_0 : Fl.Is 0 (0) := by
  have h : FloatKind.f64.nearest (0) = 0 := by decide +kernel
  rw [← h]; exact Fl.is_nearest _ (by decide) (by decide)
theorem isn_1 : Fl.Is 4607182418800017408 (1) := by
  have h : FloatKind.f64.nearest (1) = 4607182418800017408 := by decide +kernel
  rw [← h]; exact Fl.is_nearest _ (by decide) (by decide)
theorem isn_2 : Fl.Is 4611686018427387904 (2) := by
  have h : FloatKind.f64.nearest (2) = 4611686018427387904 := by decide +kernel
  rw [← h]; exact Fl.is_nearest _ (by decide) (by decide)
theorem isn_7 : Fl.Is 4619567317775286272 (7) := by
  have h : FloatKind.f64.nearest (7) = 4619567317775286272 := by decide +kernel
  rw [← h]; exact Fl.is_nearest _ (by decide) (by decide)
theorem isn_31 : Fl.Is 4629418941960159232 (31) := by
  have h : FloatKind.f64.nearest (31) = 4629418941960159232 := by decide +kernel
  rw [← h]; exact Fl.is_nearest _ (by decide) (by decide)
theorem isn_4294967295 : Fl.Is 4751297606873776128 (4294967295) := by
  have h : FloatKind.f64.nearest (4294967295) = 4751297606873776128 := by decide +kernel
  rw [← h]; exact Fl.is_nearest _ (by decide) (by decide)
theorem isn_9007199254740990 : Fl.Is 4845873199050653694 (9007199254740990) := by
  have h : FloatKind.f64.nearest (9007199254740990) = 4845873199050653694 := by decide +kernel
  rw [← h]; exact Fl.is_nearest _ (by decide) (by decide)
theorem isn_9007199254740991 : Fl.Is 4845873199050653695 (9007199254740991) := by
  have h : FloatKind.f64.nearest (9007199254740991) = 4845873199050653695 := by decide +kernel
  rw [← h]; exact Fl.is_nearest _ (by decide) (by decide)

theorem text_m12 : textR 13846317054350589952 = [45, 49, 50] := by
  unfold textR
  have hw : Fl.isW 13846317054350589952 = true := Fl.isW_of_is isn_m12 (by decide) (by decide)
  rw [if_neg (by rw [is_nan isn_m12]; decide), if_pos hw, Fl.toW_of_is isn_m12]
  show Lib.itoa (-((12 : Nat) : Int)) = _
  rw [Lib.itoa_neg 12 (by decide), Lib.decDigits_two (by decide) (by decide)]
  rfl
theorem text_half : textR 4602678819172646912 = [] := by
  unfold textR
  rw [if_neg (by decide +kernel), if_neg (by decide +kernel)]

set_option maxHeartbeats 4000000 in
set_option maxRecDepth 100000 in
theorem law_names (w : World) (ht : Tab w) : Calls Tryd.prog 5 #[] w fun e w' => e = .returned (.bool true) ∧ Below w.heap.size w w' := by
  have Ht : Hid (∀ w1, Below w.heap.size w w1 → Tab w1) := hid (fun w1 (hb : Below w.heap.size w w1) => Joins.tab_stays (B := w.heap.size) (show Tryd.prog.globalNamed "internal/strconv.uint64pow10" = some 1 by kernel_rfl) ht hb (Nat.le_refl _))
  clear ht
  have P1 : Hid (∀ W, Calls Tryd.prog 16 #[.float .f64 4845873199050653694, .float .f64 4607182418800017408] W (Tells (0, some 9007199254740991) W)) := hid fun W => by have h := add_is isn_9007199254740990 isn_1 (by decide) (by decide) W; rw [show addF (9007199254740990) (1) = (0, some 9007199254740991) by decide] at h; exact h
  have P2 : Hid (∀ W, Calls Tryd.prog 17 #[.float .f64 0, .float .f64 13840687554816376832] W (Tells (10, some 0) W)) := hid fun W => by have h := mul_is isn_0 isn_m5 (by decide) (by decide) W; rw [show mulF (0) (-5) = (10, some 0) by decide] at h; exact h
  have P3 : Hid (∀ W, Calls Tryd.prog 18 #[.float .f64 0] W (Tells (10, some 0) W)) := hid fun W => by have h := neg_any 0 W; rw [show negR 0 = (10, some 0) by decide +kernel] at h; exact h
  have P4 : Hid (∀ W, Calls Tryd.prog 19 #[.float .f64 4607182418800017408, .float .f64 0] W (Tells (10, some 0) W)) := hid fun W => by have h := div_is isn_1 isn_0 (by decide) (by decide) W; rw [show divF (1) (0) = (10, some 0) by decide] at h; exact h
  have P5 : Hid (∀ W, Calls Tryd.prog 19 #[.float .f64 0, .float .f64 0] W (Tells (0, none) W)) := hid fun W => by have h := div_is isn_0 isn_0 (by decide) (by decide) W; rw [show divF (0) (0) = (0, none) by decide] at h; exact h
  have P6 : Hid (∀ W, Calls Tryd.prog 19 #[.float .f64 4619567317775286272, .float .f64 4611686018427387904] W (Tells (10, some 0) W)) := hid fun W => by have h := div_is isn_7 isn_2 (by decide) (by decide) W; rw [show divF (7) (2) = (10, some 0) by decide] at h; exact h
  have P7 : Hid (∀ W, Calls Tryd.prog 19 #[.float .f64 13841813454723219456, .float .f64 4611686018427387904] W (Tells (0, some (-3)) W)) := hid fun W => by have h := div_is isn_m6 isn_2 (by decide) (by decide) W; rw [show divF (-6) (2) = (0, some (-3)) by decide] at h; exact h
  have P8 : Hid (∀ W, Calls Tryd.prog 20 #[.float .f64 13842939354630062080, .float .f64 4611686018427387904] W (Tells (0, some (-1)) W)) := hid fun W => by have h := rem_is isn_m7 isn_2 (by decide) (by decide) W; rw [show remF (-7) (2) = (0, some (-1)) by decide] at h; exact h
  have P9 : Hid (∀ W, Calls Tryd.prog 20 #[.float .f64 13839561654909534208, .float .f64 4611686018427387904] W (Tells (10, some 0) W)) := hid fun W => by have h := rem_is isn_m4 isn_2 (by decide) (by decide) W; rw [show remF (-4) (2) = (10, some 0) by decide] at h; exact h
  have P10 : Hid (∀ W, Calls Tryd.prog 20 #[.float .f64 4619567317775286272, .float .f64 13835058055282163712] W (Tells (0, some 1) W)) := hid fun W => by have h := rem_is isn_7 isn_m2 (by decide) (by decide) W; rw [show remF (7) (-2) = (0, some 1) by decide] at h; exact h
  have P11 : Hid (∀ W, Calls Tryd.prog 20 #[.float .f64 4619567317775286272, .float .f64 0] W (Tells (0, none) W)) := hid fun W => by have h := rem_is isn_7 isn_0 (by decide) (by decide) W; rw [show remF (7) (0) = (0, none) by decide] at h; exact h
  have P12 : Hid (∀ W, Calls Tryd.prog 14 #[.int .u8 60, .float .f64 4607182418800017408, .float .f64 4629418941960159232] W (fun e w' => e = .returned (.tuple #[.float .f64 13970166044103278592, .int .i64 0]) ∧ W = w')) := hid fun W => by have h := bits_any 60 4607182418800017408 4629418941960159232 W; rw [show bitsR 60 4607182418800017408 4629418941960159232 = (13970166044103278592, 0) by decide +kernel] at h; exact h
  have P13 : Hid (∀ W, Calls Tryd.prog 14 #[.int .u8 62, .float .f64 13844065254536904704, .float .f64 4607182418800017408] W (fun e w' => e = .returned (.tuple #[.float .f64 13839561654909534208, .int .i64 0]) ∧ W = w')) := hid fun W => by have h := bits_any 62 13844065254536904704 4607182418800017408 W; rw [show bitsR 62 13844065254536904704 4607182418800017408 = (13839561654909534208, 0) by decide +kernel] at h; exact h
  have P14 : Hid (∀ W, Calls Tryd.prog 14 #[.int .u8 117, .float .f64 13830554455654793216, .float .f64 0] W (fun e w' => e = .returned (.tuple #[.float .f64 4751297606873776128, .int .i64 0]) ∧ W = w')) := hid fun W => by have h := bits_any 117 13830554455654793216 0 W; rw [show bitsR 117 13830554455654793216 0 = (4751297606873776128, 0) by decide +kernel] at h; exact h
  have P15 : Hid (∀ W, Calls Tryd.prog 14 #[.int .u8 120, .float .f64 4607182418800017408, .float .f64 4607182418800017408] W (fun e w' => e = .returned (.tuple #[.float .f64 0, .int .i64 2]) ∧ W = w')) := hid fun W => by have h := bits_any 120 4607182418800017408 4607182418800017408 W; rw [show bitsR 120 4607182418800017408 4607182418800017408 = (0, 2) by decide +kernel] at h; exact h
  have P16 : Hid (∀ W, Calls Tryd.prog 6 #[.string ⟨#[32, 48, 48, 55, 32]⟩] W (Tells (0, some 7) W)) := hid fun W => by have h := read_any ⟨#[32, 48, 48, 55, 32]⟩ W (by decide); rw [show readR (⟨#[32, 48, 48, 55, 32]⟩ : ByteArray).data.toList = (0, some 7) by decide +kernel] at h; exact h
  have P17 : Hid (∀ W, Calls Tryd.prog 6 #[.string ⟨#[45, 48]⟩] W (Tells (10, some 0) W)) := hid fun W => by have h := read_any ⟨#[45, 48]⟩ W (by decide); rw [show readR (⟨#[45, 48]⟩ : ByteArray).data.toList = (10, some 0) by decide +kernel] at h; exact h
  have P18 : Hid (∀ W, Calls Tryd.prog 6 #[.string ⟨#[49, 46, 53]⟩] W (Tells (0, none) W)) := hid fun W => by have h := read_any ⟨#[49, 46, 53]⟩ W (by decide); rw [show readR (⟨#[49, 46, 53]⟩ : ByteArray).data.toList = (0, none) by decide +kernel] at h; exact h
  have P19 : Hid (∀ W, Calls Tryd.prog 6 #[.string ⟨#[]⟩] W (Tells (0, some 0) W)) := hid fun W => by have h := read_any ⟨#[]⟩ W (by decide); rw [show readR (⟨#[]⟩ : ByteArray).data.toList = (0, some 0) by decide +kernel] at h; exact h
  have P20 : Hid (∀ W, Calls Tryd.prog 6 #[.string ⟨#[57, 48, 48, 55, 49, 57, 57, 50, 53, 52, 55, 52, 48, 57, 57, 50]⟩] W (Tells (10, some 0) W)) := hid fun W => by have h := read_any ⟨#[57, 48, 48, 55, 49, 57, 57, 50, 53, 52, 55, 52, 48, 57, 57, 50]⟩ W (by decide); rw [show readR (⟨#[57, 48, 48, 55, 49, 57, 57, 50, 53, 52, 55, 52, 48, 57, 57, 50]⟩ : ByteArray).data.toList = (10, some 0) by decide +kernel] at h; exact h
  have T1 : Hid (∀ W, Tab W → Calls Tryd.prog 9 #[.float .f64 13846317054350589952] W fun e w' => e = .returned (.string ⟨#[45, 49, 50]⟩) ∧ Below W.heap.size W w') := hid fun W h => by have h := text_any 13846317054350589952 W h; rw [text_m12] at h; exact h
  have T2 : Hid (∀ W, Tab W → Calls Tryd.prog 9 #[.float .f64 4602678819172646912] W fun e w' => e = .returned (.string ⟨#[]⟩) ∧ Below W.heap.size W w') := hid fun W h => by have h := text_any 4602678819172646912 W h; rw [text_half] at h; exact h
  go_enter Tryd.func5, Tryd.ntmps5
  go_wp2_with (go_at_call 13; refine (noneLaw_any _ _).mono ?_; rintro e w' ⟨rfl, rfl⟩)
  refine (P1.out _).mono ?_; rintro e w1 ⟨⟨v1, rfl, h⟩, b⟩
  have k1 : (FloatKind.f64.format.order v1 4845873199050653695 == some .eq) = true := by rw [eq_is h isn_9007199254740991]; rfl
  have C1 := hid b
  clear h b
  go_wp2_with (go_at_call 13; refine (noneLaw_any _ _).mono ?_; rintro e w' ⟨rfl, rfl⟩)
  refine (P2.out _).mono ?_; rintro e w2 ⟨⟨v2, rfl, h⟩, b⟩
  have C2 := hid b
  clear h b
  go_wp2_with (go_at_call 13; refine (noneLaw_any _ _).mono ?_; rintro e w' ⟨rfl, rfl⟩)
  refine (P3.out _).mono ?_; rintro e w3 ⟨⟨v3, rfl, h⟩, b⟩
  have C3 := hid b
  clear h b
  go_wp2_with (go_at_call 13; refine (noneLaw_any _ _).mono ?_; rintro e w' ⟨rfl, rfl⟩)
  refine (P4.out _).mono ?_; rintro e w4 ⟨⟨v4, rfl, h⟩, b⟩
  have C4 := hid b
  clear h b
  go_wp2_with (go_at_call 13; refine (noneLaw_any _ _).mono ?_; rintro e w' ⟨rfl, rfl⟩)
  refine (P5.out _).mono ?_; rintro e w5 ⟨⟨v5, rfl, h⟩, b⟩
  have k5 : Fl.isNaN v5 = true := h
  have C5 := hid b
  clear h b
  go_wp2_with (go_at_call 13; refine (noneLaw_any _ _).mono ?_; rintro e w' ⟨rfl, rfl⟩)
  refine (P6.out _).mono ?_; rintro e w6 ⟨⟨v6, rfl, h⟩, b⟩
  have C6 := hid b
  clear h b
  go_wp2_with (go_at_call 13; refine (noneLaw_any _ _).mono ?_; rintro e w' ⟨rfl, rfl⟩)
  refine (P7.out _).mono ?_; rintro e w7 ⟨⟨v7, rfl, h⟩, b⟩
  have k7 : (FloatKind.f64.format.order v7 13837309855095848960 == some .eq) = true := by rw [eq_is h isn_m3]; rfl
  have C7 := hid b
  clear h b
  go_wp2_with (go_at_call 13; refine (noneLaw_any _ _).mono ?_; rintro e w' ⟨rfl, rfl⟩)
  refine (P8.out _).mono ?_; rintro e w8 ⟨⟨v8, rfl, h⟩, b⟩
  have k8 : (FloatKind.f64.format.order v8 13830554455654793216 == some .eq) = true := by rw [eq_is h isn_m1]; rfl
  have C8 := hid b
  clear h b
  go_wp2_with (go_at_call 13; refine (noneLaw_any _ _).mono ?_; rintro e w' ⟨rfl, rfl⟩)
  refine (P9.out _).mono ?_; rintro e w9 ⟨⟨v9, rfl, h⟩, b⟩
  have C9 := hid b
  clear h b
  go_wp2_with (go_at_call 13; refine (noneLaw_any _ _).mono ?_; rintro e w' ⟨rfl, rfl⟩)
  refine (P10.out _).mono ?_; rintro e w10 ⟨⟨v10, rfl, h⟩, b⟩
  have k10 : (FloatKind.f64.format.order v10 4607182418800017408 == some .eq) = true := by rw [eq_is h isn_1]; rfl
  have C10 := hid b
  clear h b
  go_wp2_with (go_at_call 13; refine (noneLaw_any _ _).mono ?_; rintro e w' ⟨rfl, rfl⟩)
  refine (P11.out _).mono ?_; rintro e w11 ⟨⟨v11, rfl, h⟩, b⟩
  have k11 : Fl.isNaN v11 = true := h
  have C11 := hid b
  clear h b
  go_wp2_with (go_at_call 13; refine (noneLaw_any _ _).mono ?_; rintro e w' ⟨rfl, rfl⟩)
  refine (P12.out _).mono ?_; rintro e w' ⟨rfl, rfl⟩
  have k12 : (FloatKind.f64.format.order 13970166044103278592 13970166044103278592 == some .eq) = true := self_not (by decide)
  go_wp2_with (go_at_call 13; refine (noneLaw_any _ _).mono ?_; rintro e w' ⟨rfl, rfl⟩)
  refine (P13.out _).mono ?_; rintro e w' ⟨rfl, rfl⟩
  have k13 : (FloatKind.f64.format.order 13839561654909534208 13839561654909534208 == some .eq) = true := self_not (by decide)
  go_wp2_with (go_at_call 13; refine (noneLaw_any _ _).mono ?_; rintro e w' ⟨rfl, rfl⟩)
  refine (P14.out _).mono ?_; rintro e w' ⟨rfl, rfl⟩
  have k14 : (FloatKind.f64.format.order 4751297606873776128 4751297606873776128 == some .eq) = true := self_not (by decide)
  go_wp2_with (go_at_call 13; refine (noneLaw_any _ _).mono ?_; rintro e w' ⟨rfl, rfl⟩)
  refine (P15.out _).mono ?_; rintro e w' ⟨rfl, rfl⟩
  go_wp2_with (go_at_call 13; refine (noneLaw_any _ _).mono ?_; rintro e w' ⟨rfl, rfl⟩)
  refine (P16.out _).mono ?_; rintro e w16 ⟨⟨v16, rfl, h⟩, b⟩
  have k16 : (FloatKind.f64.format.order v16 4619567317775286272 == some .eq) = true := by rw [eq_is h isn_7]; rfl
  have C16 := hid b
  clear h b
  go_wp2_with (go_at_call 13; refine (noneLaw_any _ _).mono ?_; rintro e w' ⟨rfl, rfl⟩)
  refine (P17.out _).mono ?_; rintro e w17 ⟨⟨v17, rfl, h⟩, b⟩
  have C17 := hid b
  clear h b
  go_wp2_with (go_at_call 13; refine (noneLaw_any _ _).mono ?_; rintro e w' ⟨rfl, rfl⟩)
  refine (P18.out _).mono ?_; rintro e w18 ⟨⟨v18, rfl, h⟩, b⟩
  have k18 : Fl.isNaN v18 = true := h
  have C18 := hid b
  clear h b
  go_wp2_with (go_at_call 13; refine (noneLaw_any _ _).mono ?_; rintro e w' ⟨rfl, rfl⟩)
  refine (P19.out _).mono ?_; rintro e w19 ⟨⟨v19, rfl, h⟩, b⟩
  have k19 : (FloatKind.f64.format.order v19 0 == some .eq) = true := by rw [eq_is h isn_0]; rfl
  have C19 := hid b
  clear h b
  go_wp2_with (go_at_call 13; refine (noneLaw_any _ _).mono ?_; rintro e w' ⟨rfl, rfl⟩)
  refine (P20.out _).mono ?_; rintro e w20 ⟨⟨v20, rfl, h⟩, b⟩
  have C20 := hid b
  clear h b
  have C0 := hid (grow (grow (grow (grow (grow (grow (grow (grow (grow (grow (grow (grow (grow (grow (grow C1.out C2.out) C3.out) C4.out) C5.out) C6.out) C7.out) C8.out) C9.out) C10.out) C11.out) C16.out) C17.out) C18.out) C19.out) C20.out)
  go_wp2_with (first | (go_at_call 13; refine (noneLaw_any _ _).mono ?_; rintro e w' ⟨rfl, rfl⟩) | (go_at_call 9; first | ((with_reducible refine (T1.out _ (Ht.out _ C0.out)).mono ?_); rintro e x1 ⟨rfl, hb1⟩; have D1 := hid (grow C0.out hb1); clear hb1) | ((with_reducible refine (T2.out _ (Ht.out _ D1.out)).mono ?_); rintro e x2 ⟨rfl, hb2⟩; have D2 := hid (grow D1.out hb2); clear hb2)) | (go_at_call 11; refine (aliveLaw_any _).mono ?_; rintro e x3 ⟨rfl, hb3⟩; have D3 := hid (grow D2.out hb3); clear hb3))
  go_ret
  exact ⟨rfl, D3.out⟩

end Go.Proofs.YthdgehdbanhliaaDoor
