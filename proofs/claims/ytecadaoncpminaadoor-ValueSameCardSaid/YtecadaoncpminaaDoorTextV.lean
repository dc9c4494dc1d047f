/-
  The walks of Type, Truth, Calls, Text, and of making values.
-/
import Derived.Test.YtecadaoncpminaaDoorStrict
import Derived.Test.YtecadaoncpminaaDoorTextWalk
import Derived.Test.YtecadaoncpminaaDoorQuoteWalk
namespace Go.Proofs.YtecadaoncpminaaDoor
open Go.RowKit

/-- typeof -/
def typeV (k : Int) : ByteArray :=
  if k = 0 then ⟨#[117, 110, 100, 101, 102, 105, 110, 101, 100]⟩
  else if k = 1 ∨ k = 6 then ⟨#[111, 98, 106, 101, 99, 116]⟩
  else if k = 2 then ⟨#[98, 111, 111, 108, 101, 97, 110]⟩
  else if k = 3 then ⟨#[110, 117, 109, 98, 101, 114]⟩
  else if k = 4 then ⟨#[115, 116, 114, 105, 110, 103]⟩
  else if k = 5 then ⟨#[115, 121, 109, 98, 111, 108]⟩
  else if k = 7 ∨ k = 8 then ⟨#[102, 117, 110, 99, 116, 105, 111, 110]⟩
  else ⟨#[]⟩
/-- As a boolean. -/
def truthV (k : Int) (x : Nat) (s : ByteArray) : Bool :=
  if k = 2 ∨ k = 3 then (FloatKind.f64.format.order x 0 != some .eq) && (FloatKind.f64.format.order x x == some .eq)
  else if k = 4 then !s.toList.isEmpty
  else if k = 5 then true
  else isObj k
/-- Shown. -/
def textV (k : Int) (x : Nat) (s : ByteArray) (r : Int) : List UInt8 :=
  if k = 0 then [117, 110, 100, 101, 102, 105, 110, 101, 100]
  else if k = 1 then [110, 117, 108, 108]
  else if k = 2 then (if FloatKind.f64.format.order x 0 == some .eq then [102, 97, 108, 115, 101] else [116, 114, 117, 101])
  else if k = 3 then textR x
  else if k = 4 then quoted s.data.toList ++ [34]
  else if k = 5 then [115, 121, 109, 98, 111, 108, 32] ++ Lib.itoa r
  else if k = 6 ∨ k = 7 ∨ k = 8 then [111, 98, 106, 101, 99, 116, 32] ++ Lib.itoa r
  else []

theorem kinds9 {k : Int} (h0 : 0 ≤ k) : k = 0 ∨ k = 1 ∨ k = 2 ∨ k = 3 ∨ k = 4 ∨ k = 5 ∨ k = 6 ∨ k = 7 ∨ k = 8 ∨ 8 < k := by omega

theorem great9 {k : Int} (h : 8 < k) : (k == 0) = false ∧ (k == 1) = false ∧ (k == 2) = false ∧ (k == 3) = false ∧ (k == 4) = false ∧ (k == 5) = false ∧ (k == 6) = false ∧ (k == 7) = false ∧ (k == 8) = false := by
  simp only [beq_eq_false_iff_ne]; omega

theorem box1 (w : World) (o : Obj) : Below w.heap.size w (w.alloc o) := (Below.refl _ _).alloc (Nat.le_refl _) _

set_option maxRecDepth 100000 in
theorem type_any (k : Int) (x : Nat) (s : ByteArray) (r : Int) (h0 : 0 ≤ k) (w : World) :
    Calls Tryd.prog 16 #[val k x s r] w fun e w' => e = .returned (.string (typeV k)) ∧ Below w.heap.size w w' := by
  rcases kinds9 h0 with rfl | rfl | rfl | rfl | rfl | rfl | rfl | rfl | rfl | h8
  case inr.inr.inr.inr.inr.inr.inr.inr.inr =>
    obtain ⟨c0, c1, c2, c3, c4, c5, c6, c7, c8⟩ := great9 h8
    have e : typeV k = ⟨#[]⟩ := by
      unfold typeV
      rw [if_neg (by omega), if_neg (by omega), if_neg (by omega), if_neg (by omega), if_neg (by omega), if_neg (by omega), if_neg (by omega)]
    rw [e]
    clear e h8
    go_enter Tryd.func16, Tryd.ntmps16
    go_wp2
    go_ret
    exact ⟨rfl, box1 _ _⟩
  all_goals
    go_enter Tryd.func16, Tryd.ntmps16
    go_wp2
    go_ret
    exact ⟨rfl, box1 _ _⟩

theorem calls_any (k : Int) (x : Nat) (s : ByteArray) (r : Int) (w : World) :
    Calls Tryd.prog 15 #[val k x s r] w fun e w' => e = .returned (.bool (isCal k)) ∧ Below w.heap.size w w' := by
  unfold isCal
  cases h : (k == 7)
  all_goals
    go_enter Tryd.func15, Tryd.ntmps15
    go_wp2
    go_ret
    exact ⟨rfl, box1 _ _⟩

set_option maxHeartbeats 1000000 in
set_option maxRecDepth 100000 in
theorem truth_any (k : Int) (x : Nat) (s : ByteArray) (r : Int) (h0 : 0 ≤ k) (w : World) :
    Calls Tryd.prog 17 #[val k x s r] w fun e w' => e = .returned (.bool (truthV k x s)) ∧ Below w.heap.size w w' := by
  have I := hid (fun W => isObj_any k x s r W)
  unfold truthV
  obtain ⟨z, e0⟩ : ∃ z, (FloatKind.f64.format.order x 0 != some .eq) = z := ⟨_, rfl⟩
  obtain ⟨y, e1⟩ : ∃ z, (FloatKind.f64.format.order x x == some .eq) = z := ⟨_, rfl⟩
  obtain ⟨q, e2⟩ : ∃ z, isObj k = z := ⟨_, rfl⟩
  rw [e0, e1, e2]
  rw [e2] at I
  clear e2
  rcases kinds9 h0 with rfl | rfl | rfl | rfl | rfl | rfl | rfl | rfl | rfl | h8
  case inr.inr.inr.inr.inr.inr.inr.inr.inr =>
    obtain ⟨c0, c1, c2, c3, c4, c5, c6, c7, c8⟩ := great9 h8
    rw [if_neg (by omega), if_neg (by omega), if_neg (by omega)]
    clear h8
    go_enter Tryd.func17, Tryd.ntmps17
    go_wp2_with (go_at_call 19; refine (I.out _).mono ?_; rintro e w' ⟨rfl, rfl⟩)
    go_ret
    exact ⟨rfl, (box1 _ _).alloc (by simp) _⟩
  all_goals
    cases z
    all_goals
      go_enter Tryd.func17, Tryd.ntmps17
      go_wp2_with (go_at_call 19; refine (I.out _).mono ?_; rintro e w' ⟨rfl, rfl⟩)
      go_ret
      exact ⟨rfl, by repeat (first | exact Below.refl _ _ | refine Below.alloc ?_ (by simp) _)⟩

theorem itoa_any (n : Int) (h0 : -9223372036854775808 ≤ n) (h1 : n ≤ 9223372036854775807) (w : World) (ht : Tab w) :
    Calls Tryd.prog 33 #[.int .i64 n] w fun e w' => e = .returned (.string ⟨(Lib.itoa n).toArray⟩) ∧ Below w.heap.size w w' := by
  refine (Tryd.strconv_Itoa n (by omega) (by omega) w ht).mono ?_
  rintro e w' ⟨he, k, os, rfl⟩
  exact ⟨he, ⟨rfl, rfl, rfl, by simp, fun i hi => by simp [Sort.grow, Array.getElem?_append, hi]⟩⟩

theorem tab_on {w w1 : World} (h : Tab w) (hb : Below w.heap.size w w1) : Tab w1 :=
  Joins.tab_stays (B := w.heap.size) (show Tryd.prog.globalNamed "internal/strconv.uint64pow10" = some 1 by kernel_rfl) h hb (Nat.le_refl _)

theorem cat_text (a : ByteArray) (l : List UInt8) : a ++ ⟨l.toArray⟩ = ⟨(a.data.toList ++ l).toArray⟩ := by
  apply ByteArray.ext
  rw [ByteArray.data_append]
  apply Array.toList_inj.1
  simp

theorem ret_str {a b : ByteArray} (h : a = b) : Ending.returned (.string a) = .returned (.string b) := by rw [h]

set_option maxHeartbeats 1000000 in
set_option maxRecDepth 100000 in
theorem vtext_any (k : Int) (x : Nat) (s : ByteArray) (r : Int) (h0 : 0 ≤ k) (hs : s.size ≤ 9000) (r0 : -9223372036854775808 ≤ r) (r1 : r ≤ 9223372036854775807) (w : World) (ht : Tab w) :
    Calls Tryd.prog 18 #[val k x s r] w fun e w' => e = .returned (.string ⟨(textV k x s r).toArray⟩) ∧ Below w.heap.size w w' := by
  have hl := Lib.itoa_length_le r r0 r1
  have tA := hid (tab_on ht (box1 w (.cells #[.int .u8 k, .float .f64 x, .string s, .int .i64 r] 24)))
  have T := hid (fun W h => text_any x W h)
  have Q := hid (fun W => quote_any s W hs)
  have I := hid (fun W h => itoa_any r r0 r1 W h)
  clear ht
  unfold textV
  obtain ⟨z, e0⟩ : ∃ z, (FloatKind.f64.format.order x 0 == some .eq) = z := ⟨_, rfl⟩
  rw [e0]
  generalize textR x = tx at *
  generalize quoted s.data.toList ++ [34] = qs at *
  generalize hi : Lib.itoa r = ir at *
  clear hi
  rcases kinds9 h0 with rfl | rfl | rfl | rfl | rfl | rfl | rfl | rfl | rfl | h8
  case inr.inr.inr.inr.inr.inr.inr.inr.inr =>
    obtain ⟨c0, c1, c2, c3, c4, c5, c6, c7, c8⟩ := great9 h8
    rw [if_neg (by omega), if_neg (by omega), if_neg (by omega), if_neg (by omega), if_neg (by omega), if_neg (by omega), if_neg (by omega)]
    clear h8
    go_enter Tryd.func18, Tryd.ntmps18
    go_wp2_with fail
    go_ret
    exact ⟨rfl, box1 _ _⟩
  all_goals
    cases z
    all_goals
      go_enter Tryd.func18, Tryd.ntmps18
      go_wp2_with (first | (go_at_call 31; refine (T.out _ tA.out).mono ?_; rintro e w' ⟨rfl, hb⟩; have Hb := hid (grow (box1 _ _) hb); clear hb) | (go_at_call 32; refine (Q.out _).mono ?_; rintro e w' ⟨rfl, hb⟩; have Hb := hid (grow (box1 _ _) hb); clear hb) | (go_at_call 33; refine (I.out _ tA.out).mono ?_; rintro e w' ⟨rfl, hb⟩; have Hb := hid (grow (box1 _ _) hb); clear hb))
      go_ret
      exact ⟨ret_str (by first | rfl | exact cat_text _ _), by first | exact box1 _ _ | exact Hb.out⟩

theorem vstr_any (s : ByteArray) (w : World) :
    Calls Tryd.prog 23 #[.string s] w fun e w' => e = .returned (val 4 0 s 0) ∧ Below w.heap.size w w' := by
  go_enter Tryd.func23, Tryd.ntmps23
  go_wp2
  exact bodyPost_ret (v := val 4 0 s 0) (by simp [results, Tryd.results23, go_sem]) rfl ⟨rfl, (Below.refl _ _).alloc (Nat.le_refl _) _⟩

theorem object_any (k n : Int) (w : World) :
    Calls Tryd.prog 21 #[.int .u8 k, .int .i64 n] w fun e w' => e = .returned (val k 0 ⟨#[]⟩ n) ∧ Below w.heap.size w w' := by
  go_enter Tryd.func21, Tryd.ntmps21
  go_wp2
  exact bodyPost_ret (v := val k 0 ⟨#[]⟩ n) (by simp [results, Tryd.results21, go_sem]) rfl ⟨rfl, (Below.refl _ _).alloc (Nat.le_refl _) _⟩

set_option maxRecDepth 100000 in
theorem aliveV_any (w : World) : Calls Tryd.prog 13 #[] w fun e w' => e = .returned (.bool true) ∧ Below w.heap.size w w' := by
  have hm : mayV 3 4607182418800017408 ⟨#[]⟩ 0 = true := by
    unfold mayV
    rw [if_neg (by decide), if_neg (by decide), if_pos rfl, show Fl.may 4607182418800017408 = true by decide +kernel, (empty_size ⟨#[]⟩).2 rfl]
    rfl
  have t1 : truthV 4 0 ⟨#[48]⟩ = true := by
    unfold truthV
    rw [if_neg (by decide), if_pos rfl]
    have : (⟨#[48]⟩ : ByteArray).toList.isEmpty = false := by rw [← Bool.not_eq_true, empty_size]; decide
    rw [this]; rfl
  have t2 : truthV 3 0 ⟨#[]⟩ = false := by decide
  have A1 : Hid (∀ W, Calls Tryd.prog 17 #[val 4 0 ⟨#[48]⟩ 0] W fun e w' => e = .returned (.bool true) ∧ Below W.heap.size W w') := hid fun W => by have h := truth_any 4 0 ⟨#[48]⟩ 0 (by decide) W; rw [t1] at h; exact h
  have A2 : Hid (∀ W, Calls Tryd.prog 17 #[val 3 0 ⟨#[]⟩ 0] W fun e w' => e = .returned (.bool false) ∧ Below W.heap.size W w') := hid fun W => by have h := truth_any 3 0 ⟨#[]⟩ 0 (by decide) W; rw [t2] at h; exact h
  have A3 : Hid (∀ W, Calls Tryd.prog 16 #[val 8 0 ⟨#[]⟩ 1] W fun e w' => e = .returned (.string ⟨#[102, 117, 110, 99, 116, 105, 111, 110]⟩) ∧ Below W.heap.size W w') := hid fun W => type_any 8 0 ⟨#[]⟩ 1 (by decide) W
  have A4 : Hid (∀ W, Calls Tryd.prog 14 #[val 3 4607182418800017408 ⟨#[]⟩ 0] W fun e w' => e = .returned (.bool true) ∧ Below W.heap.size W w') := hid fun W => by have h := vmay_any 3 4607182418800017408 ⟨#[]⟩ 0 (by decide) W; rw [hm] at h; exact h
  clear hm t1 t2
  have Bt := hid (Below.refl w.heap.size w)
  go_enter Tryd.func13, Tryd.ntmps13
  go_wp2_with (first | (go_at_call 23; refine (vstr_any _ _).mono ?_; rintro e wn ⟨rfl, hb⟩; have Bt := hid (grow Bt.out hb); clear hb) | (go_at_call 20; refine (num_any _ _).mono ?_; rintro e wn ⟨rfl, hb⟩; have Bt := hid (grow Bt.out hb); clear hb) | (go_at_call 21; refine (object_any _ _ _).mono ?_; rintro e wn ⟨rfl, hb⟩; have Bt := hid (grow Bt.out hb); clear hb) | (go_at_call 17; first | ((with_reducible refine (A1.out _).mono ?_); rintro e wn ⟨rfl, hb⟩; have Bt := hid (grow Bt.out hb); clear hb) | ((with_reducible refine (A2.out _).mono ?_); rintro e wn ⟨rfl, hb⟩; have Bt := hid (grow Bt.out hb); clear hb)) | (go_at_call 16; refine (A3.out _).mono ?_; rintro e wn ⟨rfl, hb⟩; have Bt := hid (grow Bt.out hb); clear hb) | (go_at_call 14; refine (A4.out _).mono ?_; rintro e wn ⟨rfl, hb⟩; have Bt := hid (grow Bt.out hb); clear hb))
  go_ret
  exact ⟨rfl, Bt.out⟩

end Go.Proofs.YtecadaoncpminaaDoor
