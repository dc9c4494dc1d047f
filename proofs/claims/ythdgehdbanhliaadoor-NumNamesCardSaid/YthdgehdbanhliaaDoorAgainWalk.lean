/-
  NumAgain, walked.
-/
import Derived.Test.YthdgehdbanhliaaDoorAgainPlain
import Derived.Test.YthdgehdbanhliaaDoorBackWalk
namespace Go.Proofs.YthdgehdbanhliaaDoor
open Go.RowKit

theorem is_i32 {a : Int} (h : In32 a) : Fl.Is (floatOfInt .f64 a) a := by
  unfold In32 at h
  exact Fl.is_nearest a (by omega) (by omega)

theorem bits_w (o : Int) (v : Int → Int → Int) (ho : opV o = some v) {x y : Nat} (hx : Fl.may x = true) (hy : Fl.may y = true) (r : Nat) (hr : floatOfInt .f64 (v (i32 x) (i32 y)) = r) :
    Hid (∀ W, Calls Tryd.prog 14 #[.int .u8 o, .float .f64 x, .float .f64 y] W fun e w' => e = .returned (.tuple #[.float .f64 r, .int .i64 0]) ∧ W = w') := by
  rw [← hr]
  exact hid fun W => bits_op o v (opV_some ho) x y W hx hy

theorem int_w (x : Nat) (A : Int) (h : i32 x = A) : Hid (∀ W, Calls Tryd.prog 15 #[.float .f64 x] W fun e w' => e = .returned (.int .i32 A) ∧ W = w') := by
  rw [← h]; exact hid fun W => int_any x W

/-- A float's text, read. -/
theorem read_text {x : Nat} (h : Fl.may x = true) : readR (textR x) = if Fl.isNaN x then (0, none) else (0, some (Fl.toW x)) := by
  unfold textR
  rcases may_cases h with hn | ⟨hn, _, hb⟩
  · rw [if_pos hn, if_pos hn, read_nan_text]
  · rw [if_neg (by simp [hn]), if_pos (isW_of' h hn), if_neg (by simp [hn])]
    exact read_itoa _ hb
where isW_of' {x : Nat} (h : Fl.may x = true) (hn : Fl.isNaN x = false) : Fl.isW x = true := by unfold Fl.may at h; rw [hn] at h; simpa using h

set_option maxHeartbeats 2000000 in
set_option maxRecDepth 100000 in
theorem law_again (x y : Nat) (w : World) (ht : Tab w) :
    Calls Tryd.prog 4 #[.float .f64 x, .float .f64 y] w fun e w' => e = .returned (.bool true) ∧ Below w.heap.size w w' := by
  cases h1 : Fl.may x
  · clear ht
    go_enter Tryd.func4, Tryd.ntmps4
    go_wp2_with (first | (go_at_call 11; refine (aliveLaw_any _).mono ?_; rintro e w1 ⟨rfl, hb1⟩; have C1 := hid hb1; clear hb1) | (go_at_call 12; refine (may_any _ _).mono ?_; rintro e w' ⟨rfl, rfl⟩))
    go_ret
    exact ⟨rfl, C1.out⟩
  cases h2 : Fl.may y
  · clear ht
    go_enter Tryd.func4, Tryd.ntmps4
    go_wp2_with (first | (go_at_call 11; refine (aliveLaw_any _).mono ?_; rintro e w1 ⟨rfl, hb1⟩; have C1 := hid hb1; clear hb1) | (go_at_call 12; refine (may_any _ _).mono ?_; rintro e w' ⟨rfl, rfl⟩))
    go_ret
    exact ⟨rfl, C1.out⟩
  have Ht := hid (fun w1 (hb : Below w.heap.size w w1) => Joins.tab_stays (B := w.heap.size) (show Tryd.prog.globalNamed "internal/strconv.uint64pow10" = some 1 by kernel_rfl) ht hb (Nat.le_refl _))
  clear ht
  have hA := i32_in x
  have hB := i32_in y
  obtain ⟨A, eA⟩ : ∃ A, i32 x = A := ⟨_, rfl⟩
  obtain ⟨B, eB⟩ : ∃ B, i32 y = B := ⟨_, rfl⟩
  rw [eA] at hA
  rw [eB] at hB
  obtain ⟨X, eX⟩ : ∃ X, bits .xor .i32 A B = X := ⟨_, rfl⟩
  obtain ⟨N, eN⟩ : ∃ N, bits .and .i32 A B = N := ⟨_, rfl⟩
  obtain ⟨O, eO⟩ : ∃ O, bits .or .i32 A B = O := ⟨_, rfl⟩
  have hX : In32 X := by rw [← eX, (bits_bv A B).2.2]; exact toInt_in _
  have hN : In32 N := by rw [← eN, (bits_bv A B).1]; exact toInt_in _
  have hO : In32 O := by rw [← eO, (bits_bv A B).2.1]; exact toInt_in _
  have hNO : N + O = A + B := by rw [← eN, ← eO]; exact and_or hA hB
  have hXX : bits .xor .i32 X B = A := by rw [← eX]; exact xor_xor hA
  obtain ⟨wA, qA⟩ : ∃ q, floatOfInt .f64 A = q := ⟨_, rfl⟩
  obtain ⟨wB, qB⟩ : ∃ q, floatOfInt .f64 B = q := ⟨_, rfl⟩
  obtain ⟨wX, qX⟩ : ∃ q, floatOfInt .f64 X = q := ⟨_, rfl⟩
  obtain ⟨wN, qN⟩ : ∃ q, floatOfInt .f64 N = q := ⟨_, rfl⟩
  obtain ⟨wO, qO⟩ : ∃ q, floatOfInt .f64 O = q := ⟨_, rfl⟩
  have iA := is_i32 hA; rw [qA] at iA
  have iB := is_i32 hB; rw [qB] at iB
  have iX := is_i32 hX; rw [qX] at iX
  have iN := is_i32 hN; rw [qN] at iN
  have iO := is_i32 hO; rw [qO] at iO
  have mX : Fl.may wX = true := may_is iX (by unfold In32 at hX; omega)
  have P1 := bits_w 94 _ rfl h1 h2 wX (by rw [eA, eB, eX]; exact qX)
  have P2 := bits_w 94 _ rfl mX h2 wA (by rw [i32_of iX hX, eB, hXX]; exact qA)
  have P3 := bits_w 38 _ rfl h1 h2 wN (by rw [eA, eB, eN]; exact qN)
  have P4 := bits_w 124 _ rfl h1 h2 wO (by rw [eA, eB, eO]; exact qO)
  have I1 := int_w x A eA
  have I2 := int_w y B eB
  obtain ⟨z1, s1, n1⟩ := Fl.add_near iA iB (by unfold In32 at hA; omega) (by unfold In32 at hB; omega)
  obtain ⟨z2, s2, n2⟩ := Fl.add_near iN iO (by unfold In32 at hN; omega) (by unfold In32 at hO; omega)
  have r1 := fun W t => run_float_arith (P := Tryd.prog) W .add t .f64 wA wB z1 s1
  have r2 := fun W t => run_float_arith (P := Tryd.prog) W .add t .f64 wN wO z2 s2
  have i1 := n1.2.1 (by unfold In32 at hA hB; omega)
  have i2 := n2.2.1 (by unfold In32 at hN hO; omega)
  have k1 : (FloatKind.f64.format.order wA wA == some .eq) = true := by rw [eq_is iA iA]; simp
  have k2 : (FloatKind.f64.format.order z2 z1 == some .eq) = true := by rw [eq_is i2 i1, decide_eq_true_eq]; exact hNO
  have hR := read_text h1
  have hrs : (⟨(textR x).toArray⟩ : ByteArray).size ≤ 5000 := by
    show (textR x).toArray.size ≤ 5000
    rw [List.size_toArray]
    unfold textR
    split
    · decide
    · split
      · rename_i hw
        obtain ⟨_, b1, b2⟩ := (Fl.isW_iff x).1 hw
        unfold Fl.safe at b1 b2
        have := Lib.itoa_length_le (Fl.toW x) (by omega) (by omega)
        omega
      · decide
  have R1 := hid (fun W => read_any ⟨(textR x).toArray⟩ W hrs)
  have e1 : (⟨(textR x).toArray⟩ : ByteArray).data.toList = textR x := by simp
  rw [e1, hR] at R1
  have T1 := hid (fun W (h : Tab W) => text_any x W h)
  clear hA hB hX hN hO hNO hXX eA eB eX eN eO qX qN qO iA iB iX iN iO mX s1 s2 n1 n2 i1 i2 hR hrs e1
  generalize (⟨(textR x).toArray⟩ : ByteArray) = tx at *
  rcases may_cases h1 with hn | ⟨hn, hx, _⟩
  · rw [if_pos hn] at R1
    have R1 := hid R1.out
    go_enter Tryd.func4, Tryd.ntmps4
    go_wp2_with (first | (go_at_call 11; refine (aliveLaw_any _).mono ?_; rintro e w1 ⟨rfl, hb1⟩; have C1 := hid hb1; clear hb1) | (go_at_call 12; refine (may_any _ _).mono ?_; rintro e w' ⟨rfl, rfl⟩) | (go_at_call 13; refine (noneLaw_any _ _).mono ?_; rintro e w' ⟨rfl, rfl⟩) | (go_at_call 9; refine (T1.out _ (Ht.out _ C1.out)).mono ?_; rintro e w2 ⟨rfl, hb2⟩; have C2 := hid hb2; clear hb2) | (go_at_call 6; refine (R1.out _).mono ?_; rintro e w3 ⟨⟨a, rfl, ha⟩, hb⟩; have na : Fl.isNaN a = true := ha; have C3 := hid hb; clear hb ha) | (go_at_call 15; first | ((with_reducible refine (I1.out _).mono ?_); rintro e w' ⟨rfl, rfl⟩) | ((with_reducible refine (I2.out _).mono ?_); rintro e w' ⟨rfl, rfl⟩)) | (go_at_call 14; first | ((with_reducible refine (P1.out _).mono ?_); rintro e w' ⟨rfl, rfl⟩) | ((with_reducible refine (P2.out _).mono ?_); rintro e w' ⟨rfl, rfl⟩) | ((with_reducible refine (P3.out _).mono ?_); rintro e w' ⟨rfl, rfl⟩) | ((with_reducible refine (P4.out _).mono ?_); rintro e w' ⟨rfl, rfl⟩)))
    go_ret
    exact ⟨rfl, grow (grow C1.out C2.out) C3.out⟩
  · rw [if_neg (by simp [hn])] at R1
    have R1 := hid R1.out
    have HX := hid hx
    clear hx
    go_enter Tryd.func4, Tryd.ntmps4
    go_wp2_with (first | (go_at_call 11; refine (aliveLaw_any _).mono ?_; rintro e w1 ⟨rfl, hb1⟩; have C1 := hid hb1; clear hb1) | (go_at_call 12; refine (may_any _ _).mono ?_; rintro e w' ⟨rfl, rfl⟩) | (go_at_call 13; refine (noneLaw_any _ _).mono ?_; rintro e w' ⟨rfl, rfl⟩) | (go_at_call 9; refine (T1.out _ (Ht.out _ C1.out)).mono ?_; rintro e w2 ⟨rfl, hb2⟩; have C2 := hid hb2; clear hb2) | (go_at_call 6; refine (R1.out _).mono ?_; rintro e w3 ⟨⟨a, rfl, ha⟩, hb⟩; have ha : Fl.Is a (Fl.toW x) := ha; have na := is_nan ha; have kk : (FloatKind.f64.format.order a x != some .eq) = false := by { rw [ne_is ha HX.out]; simp }; have C3 := hid hb; clear hb ha) | (go_at_call 15; first | ((with_reducible refine (I1.out _).mono ?_); rintro e w' ⟨rfl, rfl⟩) | ((with_reducible refine (I2.out _).mono ?_); rintro e w' ⟨rfl, rfl⟩)) | (go_at_call 14; first | ((with_reducible refine (P1.out _).mono ?_); rintro e w' ⟨rfl, rfl⟩) | ((with_reducible refine (P2.out _).mono ?_); rintro e w' ⟨rfl, rfl⟩) | ((with_reducible refine (P3.out _).mono ?_); rintro e w' ⟨rfl, rfl⟩) | ((with_reducible refine (P4.out _).mono ?_); rintro e w' ⟨rfl, rfl⟩)))
    go_ret
    exact ⟨rfl, grow (grow C1.out C2.out) C3.out⟩

end Go.Proofs.YthdgehdbanhliaaDoor
