/-
  The walk of value.Plain.
-/
import Derived.Test.YtecadaoncpminaaDoorStrict
import Derived.Test.YtecadaoncpminaaDoorReadWalk
import Derived.Test.YtecadaoncpminaaDoorBlk
namespace Go.Proofs.YtecadaoncpminaaDoor
open Go.RowKit

/-- A number against a text. -/
def numV (x : Nat) (l : List UInt8) : Bool × Int :=
  if (readR l).1 = 0 then (match (readR l).2 with | some n => !Fl.isNaN x && decide (Fl.toW x = n) | none => false, 0) else (false, (readR l).1)

/-- == of two values that are no objects. -/
def plainV (k1 : Int) (x1 : Nat) (s1 : ByteArray) (r1 : Int) (k2 : Int) (x2 : Nat) (s2 : ByteArray) (r2 : Int) : Bool × Int :=
  if mayV k1 x1 s1 r1 = false ∨ mayV k2 x2 s2 r2 = false ∨ isObj k1 = true ∨ isObj k2 = true then (false, 9)
  else if k1 = k2 then (strictV k1 x1 s1 r1 k2 x2 s2 r2, 0)
  else if (k1 = 2 ∧ k2 = 3) ∨ (k1 = 3 ∧ k2 = 2) then (FloatKind.f64.format.order x1 x2 == some .eq, 0)
  else if k1 ≤ 1 ∧ k2 ≤ 1 then (true, 0)
  else if k1 = 4 ∧ (k2 = 2 ∨ k2 = 3) then numV x2 s1.data.toList
  else if (k1 = 2 ∨ k1 = 3) ∧ k2 = 4 then numV x1 s2.data.toList
  else (false, 0)

theorem isObj_b (k : Int) (x : Nat) (s : ByteArray) (r : Int) (w : World) :
    Calls Tryd.prog 19 #[val k x s r] w fun e w' => e = .returned (.bool (isObj k)) ∧ Below w.heap.size w w' := by
  refine (isObj_any k x s r w).mono ?_
  rintro e w' ⟨rfl, rfl⟩
  exact ⟨rfl, (Below.refl _ _).alloc (Nat.le_refl _) _⟩

def Pl (r : Bool × Int) (w : World) (e : Ending) (w' : World) : Prop := e = .returned (.tuple #[.bool r.1, .int .i64 r.2]) ∧ Below w.heap.size w w'

theorem numV_cmp {v x : Nat} {R : Int × Option Int} (h : Stands v R.2) (hm : Fl.may x = true) : (FloatKind.f64.format.order v x == some .eq) = match R.2 with | some n => !Fl.isNaN x && decide (Fl.toW x = n) | none => false := by
  cases hR : R.2 with
  | none =>
    rw [hR] at h
    rw [ordN h]; rfl
  | some n =>
    rw [hR] at h
    have hv : Fl.Is v n := h
    rcases may_cases hm with hn | ⟨hn, hx, _⟩
    · rw [ordN' hn, hn]; rfl
    · rw [hn, Fl.order_is hv hx]
      rw [show (some (compare n (Fl.toW x)) == some Ordering.eq) = (compare n (Fl.toW x) == .eq) from rfl, Fl.compare_eq_iff]
      show decide (n = Fl.toW x) = (true && decide (Fl.toW x = n))
      rw [Bool.true_and, decide_eq_decide]
      exact eq_comm

theorem may_of_bool {x : Nat} (h : (isN x || is1 x) = true) : Fl.may x = true := by
  rw [Bool.or_eq_true] at h
  rcases h with h | h
  · have := isN_eq x
    rw [h, Bool.and_eq_true] at this
    exact this.2
  · unfold is1 at h
    cases hn : Fl.isNaN x
    · rcases Fl.kinds x with hf | hi | hn2
      · rw [Fl.eq_fin hf Fl.is_1.1, Fl.is_1.2.1, decide_eq_true_eq] at h
        have hi : Fl.Is x 1 := ⟨hf, h, fun h => by cases h⟩
        have hw : Fl.isW x = true := Fl.isW_of_is hi (by unfold Fl.safe; omega) (by unfold Fl.safe; omega)
        unfold Fl.may; rw [hw]; simp
      · rw [Fl.order_inf_fin hi Fl.is_1.1] at h
        split at h <;> cases h
      · rw [hn2] at hn; cases hn
    · rw [ordN hn] at h; cases h

theorem may_4 {x : Nat} {s : ByteArray} {r : Int} (h : mayV 4 x s r = true) : s.size ≤ 4096 := by
  unfold mayV at h
  rw [if_neg (by decide), if_neg (by decide), if_neg (by decide), if_pos rfl] at h
  simp only [Bool.and_eq_true, decide_eq_true_eq] at h
  exact h.1.2
theorem may_3 {x : Nat} {s : ByteArray} {r : Int} (h : mayV 3 x s r = true) : Fl.may x = true := by
  unfold mayV at h
  rw [if_neg (by decide), if_neg (by decide), if_pos rfl] at h
  simp only [Bool.and_eq_true] at h
  exact h.1.1
theorem may_2 {x : Nat} {s : ByteArray} {r : Int} (h : mayV 2 x s r = true) : Fl.may x = true := by
  unfold mayV at h
  rw [if_neg (by decide), if_pos rfl] at h
  simp only [Bool.and_eq_true] at h
  exact may_of_bool h.1.1
theorem may_num {x : Nat} (h : Fl.may x = true) : mayV 3 x ⟨#[]⟩ 0 = true := by
  unfold mayV
  rw [if_neg (by decide), if_neg (by decide), if_pos rfl, h, (empty_size ⟨#[]⟩).2 rfl]
  rfl

set_option maxHeartbeats 4000000 in
set_option maxRecDepth 100000 in
theorem plain_no1 (k1 : Int) (x1 : Nat) (s1 : ByteArray) (r1 : Int) (k2 : Int) (x2 : Nat) (s2 : ByteArray) (r2 : Int) (h0 : 0 ≤ k1) (m1 : mayV k1 x1 s1 r1 = false) (w : World) :
    Calls Tryd.prog 7 #[val k1 x1 s1 r1, val k2 x2 s2 r2] w (Pl (false, 9) w) := by
  go_enter Tryd.func7, Tryd.ntmps7
  go_wp2_with fail
  have TT := hid (Two.new w 24 #[.int .u8 k1, .float .f64 x1, .string s1, .int .i64 r1] #[.int .u8 k2, .float .f64 x2, .string s2, .int .i64 r2])
  have Bt := hid (below2 w (.cells #[.int .u8 k1, .float .f64 x1, .string s1, .int .i64 r1] 24) (.cells #[.int .u8 k2, .float .f64 x2, .string s2, .int .i64 r2] 24))
  go_wp2_with (first | (go_at_call 14; first | ((with_reducible refine (vmay_any k1 x1 s1 r1 h0 _).mono ?_); rintro e wn ⟨rfl, hb⟩; have Bt := hid (grow Bt.out hb); have TT := hid (TT.out.on hb); clear hb; obtain ⟨a0, a1, a2, a3, b0, b1, b2, b3, fa, fb⟩ := TT.out.facts) | ((with_reducible refine (vmay_any k2 x2 s2 r2 g0 _).mono ?_); rintro e wn ⟨rfl, hb⟩; have Bt := hid (grow Bt.out hb); have TT := hid (TT.out.on hb); clear hb; obtain ⟨a0, a1, a2, a3, b0, b1, b2, b3, fa, fb⟩ := TT.out.facts)) | (go_at_call 19; refine (isObj_b _ _ _ _ _).mono ?_; rintro e wn ⟨rfl, hb⟩; have Bt := hid (grow Bt.out hb); have TT := hid (TT.out.on hb); clear hb; obtain ⟨a0, a1, a2, a3, b0, b1, b2, b3, fa, fb⟩ := TT.out.facts))
  go_ret2
  exact ⟨rfl, Bt.out⟩

set_option maxHeartbeats 4000000 in
set_option maxRecDepth 100000 in
theorem plain_no2 (k1 : Int) (x1 : Nat) (s1 : ByteArray) (r1 : Int) (k2 : Int) (x2 : Nat) (s2 : ByteArray) (r2 : Int) (h0 : 0 ≤ k1) (g0 : 0 ≤ k2) (m1 : mayV k1 x1 s1 r1 = true) (m2 : mayV k2 x2 s2 r2 = false) (w : World) :
    Calls Tryd.prog 7 #[val k1 x1 s1 r1, val k2 x2 s2 r2] w (Pl (false, 9) w) := by
  go_enter Tryd.func7, Tryd.ntmps7
  go_wp2_with fail
  have TT := hid (Two.new w 24 #[.int .u8 k1, .float .f64 x1, .string s1, .int .i64 r1] #[.int .u8 k2, .float .f64 x2, .string s2, .int .i64 r2])
  have Bt := hid (below2 w (.cells #[.int .u8 k1, .float .f64 x1, .string s1, .int .i64 r1] 24) (.cells #[.int .u8 k2, .float .f64 x2, .string s2, .int .i64 r2] 24))
  go_wp2_with (first | (go_at_call 14; first | ((with_reducible refine (vmay_any k1 x1 s1 r1 h0 _).mono ?_); rintro e wn ⟨rfl, hb⟩; have Bt := hid (grow Bt.out hb); have TT := hid (TT.out.on hb); clear hb; obtain ⟨a0, a1, a2, a3, b0, b1, b2, b3, fa, fb⟩ := TT.out.facts) | ((with_reducible refine (vmay_any k2 x2 s2 r2 g0 _).mono ?_); rintro e wn ⟨rfl, hb⟩; have Bt := hid (grow Bt.out hb); have TT := hid (TT.out.on hb); clear hb; obtain ⟨a0, a1, a2, a3, b0, b1, b2, b3, fa, fb⟩ := TT.out.facts)) | (go_at_call 19; refine (isObj_b _ _ _ _ _).mono ?_; rintro e wn ⟨rfl, hb⟩; have Bt := hid (grow Bt.out hb); have TT := hid (TT.out.on hb); clear hb; obtain ⟨a0, a1, a2, a3, b0, b1, b2, b3, fa, fb⟩ := TT.out.facts))
  go_ret2
  exact ⟨rfl, Bt.out⟩

set_option maxHeartbeats 4000000 in
set_option maxRecDepth 100000 in
theorem plain_no3 (k1 : Int) (x1 : Nat) (s1 : ByteArray) (r1 : Int) (k2 : Int) (x2 : Nat) (s2 : ByteArray) (r2 : Int) (h0 : 0 ≤ k1) (g0 : 0 ≤ k2) (m1 : mayV k1 x1 s1 r1 = true) (m2 : mayV k2 x2 s2 r2 = true) (o1 : isObj k1 = true) (w : World) :
    Calls Tryd.prog 7 #[val k1 x1 s1 r1, val k2 x2 s2 r2] w (Pl (false, 9) w) := by
  go_enter Tryd.func7, Tryd.ntmps7
  go_wp2_with fail
  have TT := hid (Two.new w 24 #[.int .u8 k1, .float .f64 x1, .string s1, .int .i64 r1] #[.int .u8 k2, .float .f64 x2, .string s2, .int .i64 r2])
  have Bt := hid (below2 w (.cells #[.int .u8 k1, .float .f64 x1, .string s1, .int .i64 r1] 24) (.cells #[.int .u8 k2, .float .f64 x2, .string s2, .int .i64 r2] 24))
  go_wp2_with (first | (go_at_call 14; first | ((with_reducible refine (vmay_any k1 x1 s1 r1 h0 _).mono ?_); rintro e wn ⟨rfl, hb⟩; have Bt := hid (grow Bt.out hb); have TT := hid (TT.out.on hb); clear hb; obtain ⟨a0, a1, a2, a3, b0, b1, b2, b3, fa, fb⟩ := TT.out.facts) | ((with_reducible refine (vmay_any k2 x2 s2 r2 g0 _).mono ?_); rintro e wn ⟨rfl, hb⟩; have Bt := hid (grow Bt.out hb); have TT := hid (TT.out.on hb); clear hb; obtain ⟨a0, a1, a2, a3, b0, b1, b2, b3, fa, fb⟩ := TT.out.facts)) | (go_at_call 19; refine (isObj_b _ _ _ _ _).mono ?_; rintro e wn ⟨rfl, hb⟩; have Bt := hid (grow Bt.out hb); have TT := hid (TT.out.on hb); clear hb; obtain ⟨a0, a1, a2, a3, b0, b1, b2, b3, fa, fb⟩ := TT.out.facts))
  go_ret2
  exact ⟨rfl, Bt.out⟩

set_option maxHeartbeats 4000000 in
set_option maxRecDepth 100000 in
theorem plain_no4 (k1 : Int) (x1 : Nat) (s1 : ByteArray) (r1 : Int) (k2 : Int) (x2 : Nat) (s2 : ByteArray) (r2 : Int) (h0 : 0 ≤ k1) (g0 : 0 ≤ k2) (m1 : mayV k1 x1 s1 r1 = true) (m2 : mayV k2 x2 s2 r2 = true) (o1 : isObj k1 = false) (o2 : isObj k2 = true) (w : World) :
    Calls Tryd.prog 7 #[val k1 x1 s1 r1, val k2 x2 s2 r2] w (Pl (false, 9) w) := by
  go_enter Tryd.func7, Tryd.ntmps7
  go_wp2_with fail
  have TT := hid (Two.new w 24 #[.int .u8 k1, .float .f64 x1, .string s1, .int .i64 r1] #[.int .u8 k2, .float .f64 x2, .string s2, .int .i64 r2])
  have Bt := hid (below2 w (.cells #[.int .u8 k1, .float .f64 x1, .string s1, .int .i64 r1] 24) (.cells #[.int .u8 k2, .float .f64 x2, .string s2, .int .i64 r2] 24))
  go_wp2_with (first | (go_at_call 14; first | ((with_reducible refine (vmay_any k1 x1 s1 r1 h0 _).mono ?_); rintro e wn ⟨rfl, hb⟩; have Bt := hid (grow Bt.out hb); have TT := hid (TT.out.on hb); clear hb; obtain ⟨a0, a1, a2, a3, b0, b1, b2, b3, fa, fb⟩ := TT.out.facts) | ((with_reducible refine (vmay_any k2 x2 s2 r2 g0 _).mono ?_); rintro e wn ⟨rfl, hb⟩; have Bt := hid (grow Bt.out hb); have TT := hid (TT.out.on hb); clear hb; obtain ⟨a0, a1, a2, a3, b0, b1, b2, b3, fa, fb⟩ := TT.out.facts)) | (go_at_call 19; refine (isObj_b _ _ _ _ _).mono ?_; rintro e wn ⟨rfl, hb⟩; have Bt := hid (grow Bt.out hb); have TT := hid (TT.out.on hb); clear hb; obtain ⟨a0, a1, a2, a3, b0, b1, b2, b3, fa, fb⟩ := TT.out.facts))
  go_ret2
  exact ⟨rfl, Bt.out⟩

set_option maxHeartbeats 4000000 in
set_option maxRecDepth 100000 in
theorem plain_eq (k1 : Int) (x1 : Nat) (s1 : ByteArray) (r1 : Int) (k2 : Int) (x2 : Nat) (s2 : ByteArray) (r2 : Int) (h0 : 0 ≤ k1) (g0 : 0 ≤ k2) (m1 : mayV k1 x1 s1 r1 = true) (m2 : mayV k2 x2 s2 r2 = true) (o1 : isObj k1 = false) (o2 : isObj k2 = false) (hk : (k1 != k2) = false) (hk2 : (k1 == k2) = true) (w : World) :
    Calls Tryd.prog 7 #[val k1 x1 s1 r1, val k2 x2 s2 r2] w (Pl (strictV k1 x1 s1 r1 k2 x2 s2 r2, 0) w) := by
  go_enter Tryd.func7, Tryd.ntmps7
  go_wp2_with fail
  have TT := hid (Two.new w 24 #[.int .u8 k1, .float .f64 x1, .string s1, .int .i64 r1] #[.int .u8 k2, .float .f64 x2, .string s2, .int .i64 r2])
  have Bt := hid (below2 w (.cells #[.int .u8 k1, .float .f64 x1, .string s1, .int .i64 r1] 24) (.cells #[.int .u8 k2, .float .f64 x2, .string s2, .int .i64 r2] 24))
  go_wp2_with (first | (go_at_call 14; first | ((with_reducible refine (vmay_any k1 x1 s1 r1 h0 _).mono ?_); rintro e wn ⟨rfl, hb⟩; have Bt := hid (grow Bt.out hb); have TT := hid (TT.out.on hb); clear hb; obtain ⟨a0, a1, a2, a3, b0, b1, b2, b3, fa, fb⟩ := TT.out.facts) | ((with_reducible refine (vmay_any k2 x2 s2 r2 g0 _).mono ?_); rintro e wn ⟨rfl, hb⟩; have Bt := hid (grow Bt.out hb); have TT := hid (TT.out.on hb); clear hb; obtain ⟨a0, a1, a2, a3, b0, b1, b2, b3, fa, fb⟩ := TT.out.facts)) | (go_at_call 19; refine (isObj_b _ _ _ _ _).mono ?_; rintro e wn ⟨rfl, hb⟩; have Bt := hid (grow Bt.out hb); have TT := hid (TT.out.on hb); clear hb; obtain ⟨a0, a1, a2, a3, b0, b1, b2, b3, fa, fb⟩ := TT.out.facts) | (go_at_call 20; refine (num_any _ _).mono ?_; rintro e wn ⟨rfl, hb⟩; have Bt := hid (grow Bt.out hb); have TT := hid (TT.out.on hb); clear hb; obtain ⟨a0, a1, a2, a3, b0, b1, b2, b3, fa, fb⟩ := TT.out.facts) | (go_at_call 11; refine (strict_any _ _ _ _ _ _ _ _ h0 _).mono ?_; rintro e wn ⟨rfl, hb⟩; have Bt := hid (grow Bt.out hb); clear hb))
  go_ret2
  exact ⟨rfl, Bt.out⟩

set_option maxHeartbeats 4000000 in
set_option maxRecDepth 100000 in
theorem plain_n1 (x1 : Nat) (s1 : ByteArray) (r1 : Int) (x2 : Nat) (s2 : ByteArray) (r2 : Int) (m1 : mayV 2 x1 s1 r1 = true) (m2 : mayV 3 x2 s2 r2 = true) (w : World) :
    Calls Tryd.prog 7 #[val 2 x1 s1 r1, val 3 x2 s2 r2] w (Pl (strictV 3 x1 ⟨#[]⟩ 0 3 x2 s2 r2, 0) w) := by
  have h0 : (0 : Int) ≤ 2 := by decide
  have g0 : (0 : Int) ≤ 3 := by decide
  have o1 : isObj 2 = false := by decide
  have o2 : isObj 3 = false := by decide
  go_enter Tryd.func7, Tryd.ntmps7
  go_wp2_with fail
  have TT := hid (Two.new w 24 #[.int .u8 2, .float .f64 x1, .string s1, .int .i64 r1] #[.int .u8 3, .float .f64 x2, .string s2, .int .i64 r2])
  have Bt := hid (below2 w (.cells #[.int .u8 2, .float .f64 x1, .string s1, .int .i64 r1] 24) (.cells #[.int .u8 3, .float .f64 x2, .string s2, .int .i64 r2] 24))
  go_wp2_with (first | (go_at_call 14; first | ((with_reducible refine (vmay_any 2 x1 s1 r1 h0 _).mono ?_); rintro e wn ⟨rfl, hb⟩; have Bt := hid (grow Bt.out hb); have TT := hid (TT.out.on hb); clear hb; obtain ⟨a0, a1, a2, a3, b0, b1, b2, b3, fa, fb⟩ := TT.out.facts) | ((with_reducible refine (vmay_any 3 x2 s2 r2 g0 _).mono ?_); rintro e wn ⟨rfl, hb⟩; have Bt := hid (grow Bt.out hb); have TT := hid (TT.out.on hb); clear hb; obtain ⟨a0, a1, a2, a3, b0, b1, b2, b3, fa, fb⟩ := TT.out.facts)) | (go_at_call 19; refine (isObj_b _ _ _ _ _).mono ?_; rintro e wn ⟨rfl, hb⟩; have Bt := hid (grow Bt.out hb); have TT := hid (TT.out.on hb); clear hb; obtain ⟨a0, a1, a2, a3, b0, b1, b2, b3, fa, fb⟩ := TT.out.facts) | (go_at_call 20; refine (num_any _ _).mono ?_; rintro e wn ⟨rfl, hb⟩; have Bt := hid (grow Bt.out hb); have TT := hid (TT.out.on hb); clear hb; obtain ⟨a0, a1, a2, a3, b0, b1, b2, b3, fa, fb⟩ := TT.out.facts) | (go_at_call 11; refine (strict_any _ _ _ _ _ _ _ _ (by decide) _).mono ?_; rintro e wn ⟨rfl, hb⟩; have Bt := hid (grow (below_four Bt.out (Nat.le_refl _) _ _ _ _) hb); clear hb))
  go_ret2
  exact ⟨rfl, Bt.out⟩

set_option maxHeartbeats 4000000 in
set_option maxRecDepth 100000 in
theorem plain_n2 (x1 : Nat) (s1 : ByteArray) (r1 : Int) (x2 : Nat) (s2 : ByteArray) (r2 : Int) (m1 : mayV 3 x1 s1 r1 = true) (m2 : mayV 2 x2 s2 r2 = true) (w : World) :
    Calls Tryd.prog 7 #[val 3 x1 s1 r1, val 2 x2 s2 r2] w (Pl (strictV 3 x1 s1 r1 3 x2 ⟨#[]⟩ 0, 0) w) := by
  have h0 : (0 : Int) ≤ 3 := by decide
  have g0 : (0 : Int) ≤ 2 := by decide
  have o1 : isObj 3 = false := by decide
  have o2 : isObj 2 = false := by decide
  go_enter Tryd.func7, Tryd.ntmps7
  go_wp2_with fail
  have TT := hid (Two.new w 24 #[.int .u8 3, .float .f64 x1, .string s1, .int .i64 r1] #[.int .u8 2, .float .f64 x2, .string s2, .int .i64 r2])
  have Bt := hid (below2 w (.cells #[.int .u8 3, .float .f64 x1, .string s1, .int .i64 r1] 24) (.cells #[.int .u8 2, .float .f64 x2, .string s2, .int .i64 r2] 24))
  go_wp2_with (first | (go_at_call 14; first | ((with_reducible refine (vmay_any 3 x1 s1 r1 h0 _).mono ?_); rintro e wn ⟨rfl, hb⟩; have Bt := hid (grow Bt.out hb); have TT := hid (TT.out.on hb); clear hb; obtain ⟨a0, a1, a2, a3, b0, b1, b2, b3, fa, fb⟩ := TT.out.facts) | ((with_reducible refine (vmay_any 2 x2 s2 r2 g0 _).mono ?_); rintro e wn ⟨rfl, hb⟩; have Bt := hid (grow Bt.out hb); have TT := hid (TT.out.on hb); clear hb; obtain ⟨a0, a1, a2, a3, b0, b1, b2, b3, fa, fb⟩ := TT.out.facts)) | (go_at_call 19; refine (isObj_b _ _ _ _ _).mono ?_; rintro e wn ⟨rfl, hb⟩; have Bt := hid (grow Bt.out hb); have TT := hid (TT.out.on hb); clear hb; obtain ⟨a0, a1, a2, a3, b0, b1, b2, b3, fa, fb⟩ := TT.out.facts) | (go_at_call 20; refine (num_any _ _).mono ?_; rintro e wn ⟨rfl, hb⟩; have Bt := hid (grow Bt.out hb); have TT := hid (TT.out.on hb); clear hb; obtain ⟨a0, a1, a2, a3, b0, b1, b2, b3, fa, fb⟩ := TT.out.facts) | (go_at_call 11; refine (strict_any _ _ _ _ _ _ _ _ (by decide) _).mono ?_; rintro e wn ⟨rfl, hb⟩; have Bt := hid (grow (below_four Bt.out (Nat.le_succ _) _ _ _ _) hb); clear hb))
  go_ret2
  exact ⟨rfl, Bt.out⟩

set_option maxHeartbeats 4000000 in
set_option maxRecDepth 100000 in
theorem plain_34 (x1 : Nat) (s1 : ByteArray) (r1 : Int) (x2 : Nat) (s2 : ByteArray) (r2 : Int) (m1 : mayV 3 x1 s1 r1 = true) (m2 : mayV 4 x2 s2 r2 = true) (w : World) :
    Calls Tryd.prog 7 #[val 3 x1 s1 r1, val 4 x2 s2 r2] w (Pl (numV x1 s2.data.toList) w) := by
  have h0 : (0 : Int) ≤ 3 := by decide
  have g0 : (0 : Int) ≤ 4 := by decide
  have o1 : isObj 3 = false := by decide
  have o2 : isObj 4 = false := by decide
  have hm := may_3 m1
  have Rd := hid (fun W => read_any s2 W (by have := may_4 m2; omega))
  unfold numV
  generalize readR s2.data.toList = R at *
  by_cases hR : R.1 = 0
  · rw [if_pos hR]
    have z : (R.1 == 0) = true := by rw [hR]; rfl
    have E := hid hR
    clear hR
    go_enter Tryd.func7, Tryd.ntmps7
    go_wp2_with fail
    have TT := hid (Two.new w 24 #[.int .u8 3, .float .f64 x1, .string s1, .int .i64 r1] #[.int .u8 4, .float .f64 x2, .string s2, .int .i64 r2])
    have Bt := hid (below2 w (.cells #[.int .u8 3, .float .f64 x1, .string s1, .int .i64 r1] 24) (.cells #[.int .u8 4, .float .f64 x2, .string s2, .int .i64 r2] 24))
    go_wp2_with (first | (go_at_call 14; first | ((with_reducible refine (vmay_any 3 x1 s1 r1 h0 _).mono ?_); rintro e wn ⟨rfl, hb⟩; have Bt := hid (grow Bt.out hb); have TT := hid (TT.out.on hb); clear hb; obtain ⟨a0, a1, a2, a3, b0, b1, b2, b3, fa, fb⟩ := TT.out.facts) | ((with_reducible refine (vmay_any 4 x2 s2 r2 g0 _).mono ?_); rintro e wn ⟨rfl, hb⟩; have Bt := hid (grow Bt.out hb); have TT := hid (TT.out.on hb); clear hb; obtain ⟨a0, a1, a2, a3, b0, b1, b2, b3, fa, fb⟩ := TT.out.facts)) | (go_at_call 19; refine (isObj_b _ _ _ _ _).mono ?_; rintro e wn ⟨rfl, hb⟩; have Bt := hid (grow Bt.out hb); have TT := hid (TT.out.on hb); clear hb; obtain ⟨a0, a1, a2, a3, b0, b1, b2, b3, fa, fb⟩ := TT.out.facts) | (go_at_call 20; refine (num_any _ _).mono ?_; rintro e wn ⟨rfl, hb⟩; have Bt := hid (grow Bt.out hb); have TT := hid (TT.out.on hb); clear hb; obtain ⟨a0, a1, a2, a3, b0, b1, b2, b3, fa, fb⟩ := TT.out.facts) | (go_at_call 25; refine (Rd.out _).mono ?_; rintro e wn ⟨⟨v, rfl, hv⟩, hb⟩; have cm := numV_cmp hv hm; have Bt := hid (grow Bt.out hb); have TT := hid (TT.out.on hb); clear hb hv; obtain ⟨a0, a1, a2, a3, b0, b1, b2, b3, fa, fb⟩ := TT.out.facts))
    all_goals
      go_ret2
      rw [E.out]
      exact ⟨rfl, Bt.out⟩
  · rw [if_neg hR]
    have z : (R.1 == 0) = false := by simpa using hR
    clear hR
    go_enter Tryd.func7, Tryd.ntmps7
    go_wp2_with fail
    have TT := hid (Two.new w 24 #[.int .u8 3, .float .f64 x1, .string s1, .int .i64 r1] #[.int .u8 4, .float .f64 x2, .string s2, .int .i64 r2])
    have Bt := hid (below2 w (.cells #[.int .u8 3, .float .f64 x1, .string s1, .int .i64 r1] 24) (.cells #[.int .u8 4, .float .f64 x2, .string s2, .int .i64 r2] 24))
    go_wp2_with (first | (go_at_call 14; first | ((with_reducible refine (vmay_any 3 x1 s1 r1 h0 _).mono ?_); rintro e wn ⟨rfl, hb⟩; have Bt := hid (grow Bt.out hb); have TT := hid (TT.out.on hb); clear hb; obtain ⟨a0, a1, a2, a3, b0, b1, b2, b3, fa, fb⟩ := TT.out.facts) | ((with_reducible refine (vmay_any 4 x2 s2 r2 g0 _).mono ?_); rintro e wn ⟨rfl, hb⟩; have Bt := hid (grow Bt.out hb); have TT := hid (TT.out.on hb); clear hb; obtain ⟨a0, a1, a2, a3, b0, b1, b2, b3, fa, fb⟩ := TT.out.facts)) | (go_at_call 19; refine (isObj_b _ _ _ _ _).mono ?_; rintro e wn ⟨rfl, hb⟩; have Bt := hid (grow Bt.out hb); have TT := hid (TT.out.on hb); clear hb; obtain ⟨a0, a1, a2, a3, b0, b1, b2, b3, fa, fb⟩ := TT.out.facts) | (go_at_call 20; refine (num_any _ _).mono ?_; rintro e wn ⟨rfl, hb⟩; have Bt := hid (grow Bt.out hb); have TT := hid (TT.out.on hb); clear hb; obtain ⟨a0, a1, a2, a3, b0, b1, b2, b3, fa, fb⟩ := TT.out.facts) | (go_at_call 25; refine (Rd.out _).mono ?_; rintro e wn ⟨⟨v, rfl, hv⟩, hb⟩; have cm := numV_cmp hv hm; have Bt := hid (grow Bt.out hb); have TT := hid (TT.out.on hb); clear hb hv; obtain ⟨a0, a1, a2, a3, b0, b1, b2, b3, fa, fb⟩ := TT.out.facts))
    go_ret2
    exact ⟨rfl, Bt.out⟩

set_option maxHeartbeats 4000000 in
set_option maxRecDepth 100000 in
theorem plain_24 (x1 : Nat) (s1 : ByteArray) (r1 : Int) (x2 : Nat) (s2 : ByteArray) (r2 : Int) (m1 : mayV 2 x1 s1 r1 = true) (m2 : mayV 4 x2 s2 r2 = true) (w : World) :
    Calls Tryd.prog 7 #[val 2 x1 s1 r1, val 4 x2 s2 r2] w (Pl (numV x1 s2.data.toList) w) := by
  have h0 : (0 : Int) ≤ 2 := by decide
  have g0 : (0 : Int) ≤ 4 := by decide
  have o1 : isObj 2 = false := by decide
  have o2 : isObj 4 = false := by decide
  have hm := may_2 m1
  have Rd := hid (fun W => read_any s2 W (by have := may_4 m2; omega))
  unfold numV
  generalize readR s2.data.toList = R at *
  by_cases hR : R.1 = 0
  · rw [if_pos hR]
    have z : (R.1 == 0) = true := by rw [hR]; rfl
    have E := hid hR
    clear hR
    go_enter Tryd.func7, Tryd.ntmps7
    go_wp2_with fail
    have TT := hid (Two.new w 24 #[.int .u8 2, .float .f64 x1, .string s1, .int .i64 r1] #[.int .u8 4, .float .f64 x2, .string s2, .int .i64 r2])
    have Bt := hid (below2 w (.cells #[.int .u8 2, .float .f64 x1, .string s1, .int .i64 r1] 24) (.cells #[.int .u8 4, .float .f64 x2, .string s2, .int .i64 r2] 24))
    go_wp2_with (first | (go_at_call 14; first | ((with_reducible refine (vmay_any 2 x1 s1 r1 h0 _).mono ?_); rintro e wn ⟨rfl, hb⟩; have Bt := hid (grow Bt.out hb); have TT := hid (TT.out.on hb); clear hb; obtain ⟨a0, a1, a2, a3, b0, b1, b2, b3, fa, fb⟩ := TT.out.facts) | ((with_reducible refine (vmay_any 4 x2 s2 r2 g0 _).mono ?_); rintro e wn ⟨rfl, hb⟩; have Bt := hid (grow Bt.out hb); have TT := hid (TT.out.on hb); clear hb; obtain ⟨a0, a1, a2, a3, b0, b1, b2, b3, fa, fb⟩ := TT.out.facts)) | (go_at_call 19; refine (isObj_b _ _ _ _ _).mono ?_; rintro e wn ⟨rfl, hb⟩; have Bt := hid (grow Bt.out hb); have TT := hid (TT.out.on hb); clear hb; obtain ⟨a0, a1, a2, a3, b0, b1, b2, b3, fa, fb⟩ := TT.out.facts) | (go_at_call 20; refine (num_any _ _).mono ?_; rintro e wn ⟨rfl, hb⟩; have Bt := hid (grow Bt.out hb); have TT := hid (TT.out.on hb); clear hb; obtain ⟨a0, a1, a2, a3, b0, b1, b2, b3, fa, fb⟩ := TT.out.facts) | (go_at_call 25; refine (Rd.out _).mono ?_; rintro e wn ⟨⟨v, rfl, hv⟩, hb⟩; have cm := numV_cmp hv hm; have Bt := hid (grow (below_four Bt.out (Nat.le_refl _) _ _ _ _) hb); have TT := hid ((TT.out.storeA _ _ _ _).on hb); clear hb hv; obtain ⟨a0, a1, a2, a3, b0, b1, b2, b3, fa, fb⟩ := TT.out.facts))
    all_goals
      go_ret2
      rw [E.out]
      exact ⟨rfl, Bt.out⟩
  · rw [if_neg hR]
    have z : (R.1 == 0) = false := by simpa using hR
    clear hR
    go_enter Tryd.func7, Tryd.ntmps7
    go_wp2_with fail
    have TT := hid (Two.new w 24 #[.int .u8 2, .float .f64 x1, .string s1, .int .i64 r1] #[.int .u8 4, .float .f64 x2, .string s2, .int .i64 r2])
    have Bt := hid (below2 w (.cells #[.int .u8 2, .float .f64 x1, .string s1, .int .i64 r1] 24) (.cells #[.int .u8 4, .float .f64 x2, .string s2, .int .i64 r2] 24))
    go_wp2_with (first | (go_at_call 14; first | ((with_reducible refine (vmay_any 2 x1 s1 r1 h0 _).mono ?_); rintro e wn ⟨rfl, hb⟩; have Bt := hid (grow Bt.out hb); have TT := hid (TT.out.on hb); clear hb; obtain ⟨a0, a1, a2, a3, b0, b1, b2, b3, fa, fb⟩ := TT.out.facts) | ((with_reducible refine (vmay_any 4 x2 s2 r2 g0 _).mono ?_); rintro e wn ⟨rfl, hb⟩; have Bt := hid (grow Bt.out hb); have TT := hid (TT.out.on hb); clear hb; obtain ⟨a0, a1, a2, a3, b0, b1, b2, b3, fa, fb⟩ := TT.out.facts)) | (go_at_call 19; refine (isObj_b _ _ _ _ _).mono ?_; rintro e wn ⟨rfl, hb⟩; have Bt := hid (grow Bt.out hb); have TT := hid (TT.out.on hb); clear hb; obtain ⟨a0, a1, a2, a3, b0, b1, b2, b3, fa, fb⟩ := TT.out.facts) | (go_at_call 20; refine (num_any _ _).mono ?_; rintro e wn ⟨rfl, hb⟩; have Bt := hid (grow Bt.out hb); have TT := hid (TT.out.on hb); clear hb; obtain ⟨a0, a1, a2, a3, b0, b1, b2, b3, fa, fb⟩ := TT.out.facts) | (go_at_call 25; refine (Rd.out _).mono ?_; rintro e wn ⟨⟨v, rfl, hv⟩, hb⟩; have cm := numV_cmp hv hm; have Bt := hid (grow (below_four Bt.out (Nat.le_refl _) _ _ _ _) hb); have TT := hid ((TT.out.storeA _ _ _ _).on hb); clear hb hv; obtain ⟨a0, a1, a2, a3, b0, b1, b2, b3, fa, fb⟩ := TT.out.facts))
    go_ret2
    exact ⟨rfl, Bt.out⟩

set_option maxHeartbeats 4000000 in
set_option maxRecDepth 100000 in
theorem plain_43 (x1 : Nat) (s1 : ByteArray) (r1 : Int) (x2 : Nat) (s2 : ByteArray) (r2 : Int) (m1 : mayV 4 x1 s1 r1 = true) (m2 : mayV 3 x2 s2 r2 = true) (w : World) :
    Calls Tryd.prog 7 #[val 4 x1 s1 r1, val 3 x2 s2 r2] w (Pl (numV x2 s1.data.toList) w) := by
  have h0 : (0 : Int) ≤ 4 := by decide
  have g0 : (0 : Int) ≤ 3 := by decide
  have o1 : isObj 4 = false := by decide
  have o2 : isObj 3 = false := by decide
  have Rec := hid (fun W => plain_34 x2 s2 r2 x1 s1 r1 m2 m1 W)
  generalize numV x2 s1.data.toList = q at *
  go_enter Tryd.func7, Tryd.ntmps7
  go_wp2_with fail
  have TT := hid (Two.new w 24 #[.int .u8 4, .float .f64 x1, .string s1, .int .i64 r1] #[.int .u8 3, .float .f64 x2, .string s2, .int .i64 r2])
  have Bt := hid (below2 w (.cells #[.int .u8 4, .float .f64 x1, .string s1, .int .i64 r1] 24) (.cells #[.int .u8 3, .float .f64 x2, .string s2, .int .i64 r2] 24))
  go_wp2_with (first | (go_at_call 14; first | ((with_reducible refine (vmay_any 4 x1 s1 r1 h0 _).mono ?_); rintro e wn ⟨rfl, hb⟩; have Bt := hid (grow Bt.out hb); have TT := hid (TT.out.on hb); clear hb; obtain ⟨a0, a1, a2, a3, b0, b1, b2, b3, fa, fb⟩ := TT.out.facts) | ((with_reducible refine (vmay_any 3 x2 s2 r2 g0 _).mono ?_); rintro e wn ⟨rfl, hb⟩; have Bt := hid (grow Bt.out hb); have TT := hid (TT.out.on hb); clear hb; obtain ⟨a0, a1, a2, a3, b0, b1, b2, b3, fa, fb⟩ := TT.out.facts)) | (go_at_call 19; refine (isObj_b _ _ _ _ _).mono ?_; rintro e wn ⟨rfl, hb⟩; have Bt := hid (grow Bt.out hb); have TT := hid (TT.out.on hb); clear hb; obtain ⟨a0, a1, a2, a3, b0, b1, b2, b3, fa, fb⟩ := TT.out.facts) | (go_at_call 20; refine (num_any _ _).mono ?_; rintro e wn ⟨rfl, hb⟩; have Bt := hid (grow Bt.out hb); have TT := hid (TT.out.on hb); clear hb; obtain ⟨a0, a1, a2, a3, b0, b1, b2, b3, fa, fb⟩ := TT.out.facts) | (go_at_call 7; refine (Rec.out _).mono ?_; rintro e wn ⟨rfl, hb⟩; have Bt := hid (grow Bt.out hb); clear hb))
  go_ret2
  exact ⟨rfl, Bt.out⟩

set_option maxHeartbeats 4000000 in
set_option maxRecDepth 100000 in
theorem plain_42 (x1 : Nat) (s1 : ByteArray) (r1 : Int) (x2 : Nat) (s2 : ByteArray) (r2 : Int) (m1 : mayV 4 x1 s1 r1 = true) (m2 : mayV 2 x2 s2 r2 = true) (w : World) :
    Calls Tryd.prog 7 #[val 4 x1 s1 r1, val 2 x2 s2 r2] w (Pl (numV x2 s1.data.toList) w) := by
  have h0 : (0 : Int) ≤ 4 := by decide
  have g0 : (0 : Int) ≤ 2 := by decide
  have o1 : isObj 4 = false := by decide
  have o2 : isObj 2 = false := by decide
  have Rec := hid (fun W => plain_34 x2 ⟨#[]⟩ 0 x1 s1 r1 (may_num (may_2 m2)) m1 W)
  generalize numV x2 s1.data.toList = q at *
  go_enter Tryd.func7, Tryd.ntmps7
  go_wp2_with fail
  have TT := hid (Two.new w 24 #[.int .u8 4, .float .f64 x1, .string s1, .int .i64 r1] #[.int .u8 2, .float .f64 x2, .string s2, .int .i64 r2])
  have Bt := hid (below2 w (.cells #[.int .u8 4, .float .f64 x1, .string s1, .int .i64 r1] 24) (.cells #[.int .u8 2, .float .f64 x2, .string s2, .int .i64 r2] 24))
  go_wp2_with (first | (go_at_call 14; first | ((with_reducible refine (vmay_any 4 x1 s1 r1 h0 _).mono ?_); rintro e wn ⟨rfl, hb⟩; have Bt := hid (grow Bt.out hb); have TT := hid (TT.out.on hb); clear hb; obtain ⟨a0, a1, a2, a3, b0, b1, b2, b3, fa, fb⟩ := TT.out.facts) | ((with_reducible refine (vmay_any 2 x2 s2 r2 g0 _).mono ?_); rintro e wn ⟨rfl, hb⟩; have Bt := hid (grow Bt.out hb); have TT := hid (TT.out.on hb); clear hb; obtain ⟨a0, a1, a2, a3, b0, b1, b2, b3, fa, fb⟩ := TT.out.facts)) | (go_at_call 19; refine (isObj_b _ _ _ _ _).mono ?_; rintro e wn ⟨rfl, hb⟩; have Bt := hid (grow Bt.out hb); have TT := hid (TT.out.on hb); clear hb; obtain ⟨a0, a1, a2, a3, b0, b1, b2, b3, fa, fb⟩ := TT.out.facts) | (go_at_call 20; refine (num_any _ _).mono ?_; rintro e wn ⟨rfl, hb⟩; have Bt := hid (grow Bt.out hb); have TT := hid (TT.out.on hb); clear hb; obtain ⟨a0, a1, a2, a3, b0, b1, b2, b3, fa, fb⟩ := TT.out.facts) | (go_at_call 7; refine (Rec.out _).mono ?_; rintro e wn ⟨rfl, hb⟩; have Bt := hid (grow (below_four Bt.out (Nat.le_succ _) _ _ _ _) hb); clear hb))
  go_ret2
  exact ⟨rfl, Bt.out⟩

set_option maxHeartbeats 4000000 in
set_option maxRecDepth 100000 in
theorem plain_z (k1 : Int) (x1 : Nat) (s1 : ByteArray) (r1 : Int) (k2 : Int) (x2 : Nat) (s2 : ByteArray) (r2 : Int) (h0 : 0 ≤ k1) (g0 : 0 ≤ k2) (m1 : mayV k1 x1 s1 r1 = true) (m2 : mayV k2 x2 s2 r2 = true) (o1 : isObj k1 = false) (o2 : isObj k2 = false) (hk : (k1 != k2) = true) (hk2 : (k1 == k2) = false) (p1 : k1 ≤ 1) (p2 : k2 ≤ 1) (q1 : (k1 == 2) = false) (q2 : (k2 == 2) = false) (w : World) :
    Calls Tryd.prog 7 #[val k1 x1 s1 r1, val k2 x2 s2 r2] w (Pl (true, 0) w) := by
  go_enter Tryd.func7, Tryd.ntmps7
  go_wp2_with fail
  have TT := hid (Two.new w 24 #[.int .u8 k1, .float .f64 x1, .string s1, .int .i64 r1] #[.int .u8 k2, .float .f64 x2, .string s2, .int .i64 r2])
  have Bt := hid (below2 w (.cells #[.int .u8 k1, .float .f64 x1, .string s1, .int .i64 r1] 24) (.cells #[.int .u8 k2, .float .f64 x2, .string s2, .int .i64 r2] 24))
  go_wp2_with (first | (go_at_call 14; first | ((with_reducible refine (vmay_any k1 x1 s1 r1 h0 _).mono ?_); rintro e wn ⟨rfl, hb⟩; have Bt := hid (grow Bt.out hb); have TT := hid (TT.out.on hb); clear hb; obtain ⟨a0, a1, a2, a3, b0, b1, b2, b3, fa, fb⟩ := TT.out.facts) | ((with_reducible refine (vmay_any k2 x2 s2 r2 g0 _).mono ?_); rintro e wn ⟨rfl, hb⟩; have Bt := hid (grow Bt.out hb); have TT := hid (TT.out.on hb); clear hb; obtain ⟨a0, a1, a2, a3, b0, b1, b2, b3, fa, fb⟩ := TT.out.facts)) | (go_at_call 19; refine (isObj_b _ _ _ _ _).mono ?_; rintro e wn ⟨rfl, hb⟩; have Bt := hid (grow Bt.out hb); have TT := hid (TT.out.on hb); clear hb; obtain ⟨a0, a1, a2, a3, b0, b1, b2, b3, fa, fb⟩ := TT.out.facts))
  go_ret2
  exact ⟨rfl, Bt.out⟩

set_option maxHeartbeats 4000000 in
set_option maxRecDepth 100000 in
theorem plain_o1 (k1 : Int) (x1 : Nat) (s1 : ByteArray) (r1 : Int) (k2 : Int) (x2 : Nat) (s2 : ByteArray) (r2 : Int) (h0 : 0 ≤ k1) (g0 : 0 ≤ k2) (m1 : mayV k1 x1 s1 r1 = true) (m2 : mayV k2 x2 s2 r2 = true) (o1 : isObj k1 = false) (o2 : isObj k2 = false) (hk : (k1 != k2) = true) (hk2 : (k1 == k2) = false) (p1 : k1 ≤ 1) (p2 : ¬ k2 ≤ 1) (q1 : (k1 == 2) = false) (q2 : (k2 == 2) = false) (q3 : (k1 == 4) = false) (q4 : (k1 == 3) = false) (w : World) :
    Calls Tryd.prog 7 #[val k1 x1 s1 r1, val k2 x2 s2 r2] w (Pl (false, 0) w) := by
  go_enter Tryd.func7, Tryd.ntmps7
  go_wp2_with fail
  have TT := hid (Two.new w 24 #[.int .u8 k1, .float .f64 x1, .string s1, .int .i64 r1] #[.int .u8 k2, .float .f64 x2, .string s2, .int .i64 r2])
  have Bt := hid (below2 w (.cells #[.int .u8 k1, .float .f64 x1, .string s1, .int .i64 r1] 24) (.cells #[.int .u8 k2, .float .f64 x2, .string s2, .int .i64 r2] 24))
  go_wp2_with (first | (go_at_call 14; first | ((with_reducible refine (vmay_any k1 x1 s1 r1 h0 _).mono ?_); rintro e wn ⟨rfl, hb⟩; have Bt := hid (grow Bt.out hb); have TT := hid (TT.out.on hb); clear hb; obtain ⟨a0, a1, a2, a3, b0, b1, b2, b3, fa, fb⟩ := TT.out.facts) | ((with_reducible refine (vmay_any k2 x2 s2 r2 g0 _).mono ?_); rintro e wn ⟨rfl, hb⟩; have Bt := hid (grow Bt.out hb); have TT := hid (TT.out.on hb); clear hb; obtain ⟨a0, a1, a2, a3, b0, b1, b2, b3, fa, fb⟩ := TT.out.facts)) | (go_at_call 19; refine (isObj_b _ _ _ _ _).mono ?_; rintro e wn ⟨rfl, hb⟩; have Bt := hid (grow Bt.out hb); have TT := hid (TT.out.on hb); clear hb; obtain ⟨a0, a1, a2, a3, b0, b1, b2, b3, fa, fb⟩ := TT.out.facts))
  go_ret2
  exact ⟨rfl, Bt.out⟩

set_option maxHeartbeats 4000000 in
set_option maxRecDepth 100000 in
theorem plain_o3 (x1 : Nat) (s1 : ByteArray) (r1 : Int) (k2 : Int) (x2 : Nat) (s2 : ByteArray) (r2 : Int) (g0 : 0 ≤ k2) (m1 : mayV 3 x1 s1 r1 = true) (m2 : mayV k2 x2 s2 r2 = true) (o2 : isObj k2 = false) (hk : ((3 : Int) != k2) = true) (hk2 : ((3 : Int) == k2) = false) (q2 : (k2 == 2) = false) (q3 : (k2 == 4) = false) (w : World) :
    Calls Tryd.prog 7 #[val 3 x1 s1 r1, val k2 x2 s2 r2] w (Pl (false, 0) w) := by
  have h0 : (0 : Int) ≤ 3 := by decide
  have o1 : isObj 3 = false := by decide
  go_enter Tryd.func7, Tryd.ntmps7
  go_wp2_with fail
  have TT := hid (Two.new w 24 #[.int .u8 3, .float .f64 x1, .string s1, .int .i64 r1] #[.int .u8 k2, .float .f64 x2, .string s2, .int .i64 r2])
  have Bt := hid (below2 w (.cells #[.int .u8 3, .float .f64 x1, .string s1, .int .i64 r1] 24) (.cells #[.int .u8 k2, .float .f64 x2, .string s2, .int .i64 r2] 24))
  go_wp2_with (first | (go_at_call 14; first | ((with_reducible refine (vmay_any 3 x1 s1 r1 h0 _).mono ?_); rintro e wn ⟨rfl, hb⟩; have Bt := hid (grow Bt.out hb); have TT := hid (TT.out.on hb); clear hb; obtain ⟨a0, a1, a2, a3, b0, b1, b2, b3, fa, fb⟩ := TT.out.facts) | ((with_reducible refine (vmay_any k2 x2 s2 r2 g0 _).mono ?_); rintro e wn ⟨rfl, hb⟩; have Bt := hid (grow Bt.out hb); have TT := hid (TT.out.on hb); clear hb; obtain ⟨a0, a1, a2, a3, b0, b1, b2, b3, fa, fb⟩ := TT.out.facts)) | (go_at_call 19; refine (isObj_b _ _ _ _ _).mono ?_; rintro e wn ⟨rfl, hb⟩; have Bt := hid (grow Bt.out hb); have TT := hid (TT.out.on hb); clear hb; obtain ⟨a0, a1, a2, a3, b0, b1, b2, b3, fa, fb⟩ := TT.out.facts))
  go_ret2
  exact ⟨rfl, Bt.out⟩

set_option maxHeartbeats 4000000 in
set_option maxRecDepth 100000 in
theorem plain_o4 (x1 : Nat) (s1 : ByteArray) (r1 : Int) (k2 : Int) (x2 : Nat) (s2 : ByteArray) (r2 : Int) (g0 : 0 ≤ k2) (m1 : mayV 4 x1 s1 r1 = true) (m2 : mayV k2 x2 s2 r2 = true) (o2 : isObj k2 = false) (hk : ((4 : Int) != k2) = true) (hk2 : ((4 : Int) == k2) = false) (q2 : (k2 == 2) = false) (q3 : (k2 == 3) = false) (w : World) :
    Calls Tryd.prog 7 #[val 4 x1 s1 r1, val k2 x2 s2 r2] w (Pl (false, 0) w) := by
  have h0 : (0 : Int) ≤ 4 := by decide
  have o1 : isObj 4 = false := by decide
  go_enter Tryd.func7, Tryd.ntmps7
  go_wp2_with fail
  have TT := hid (Two.new w 24 #[.int .u8 4, .float .f64 x1, .string s1, .int .i64 r1] #[.int .u8 k2, .float .f64 x2, .string s2, .int .i64 r2])
  have Bt := hid (below2 w (.cells #[.int .u8 4, .float .f64 x1, .string s1, .int .i64 r1] 24) (.cells #[.int .u8 k2, .float .f64 x2, .string s2, .int .i64 r2] 24))
  go_wp2_with (first | (go_at_call 14; first | ((with_reducible refine (vmay_any 4 x1 s1 r1 h0 _).mono ?_); rintro e wn ⟨rfl, hb⟩; have Bt := hid (grow Bt.out hb); have TT := hid (TT.out.on hb); clear hb; obtain ⟨a0, a1, a2, a3, b0, b1, b2, b3, fa, fb⟩ := TT.out.facts) | ((with_reducible refine (vmay_any k2 x2 s2 r2 g0 _).mono ?_); rintro e wn ⟨rfl, hb⟩; have Bt := hid (grow Bt.out hb); have TT := hid (TT.out.on hb); clear hb; obtain ⟨a0, a1, a2, a3, b0, b1, b2, b3, fa, fb⟩ := TT.out.facts)) | (go_at_call 19; refine (isObj_b _ _ _ _ _).mono ?_; rintro e wn ⟨rfl, hb⟩; have Bt := hid (grow Bt.out hb); have TT := hid (TT.out.on hb); clear hb; obtain ⟨a0, a1, a2, a3, b0, b1, b2, b3, fa, fb⟩ := TT.out.facts))
  go_ret2
  exact ⟨rfl, Bt.out⟩

set_option maxHeartbeats 4000000 in
set_option maxRecDepth 100000 in
theorem plain_o5 (x1 : Nat) (s1 : ByteArray) (r1 : Int) (k2 : Int) (x2 : Nat) (s2 : ByteArray) (r2 : Int) (g0 : 0 ≤ k2) (m1 : mayV 5 x1 s1 r1 = true) (m2 : mayV k2 x2 s2 r2 = true) (o2 : isObj k2 = false) (hk : ((5 : Int) != k2) = true) (hk2 : ((5 : Int) == k2) = false) (q2 : (k2 == 2) = false) (w : World) :
    Calls Tryd.prog 7 #[val 5 x1 s1 r1, val k2 x2 s2 r2] w (Pl (false, 0) w) := by
  have h0 : (0 : Int) ≤ 5 := by decide
  have o1 : isObj 5 = false := by decide
  go_enter Tryd.func7, Tryd.ntmps7
  go_wp2_with fail
  have TT := hid (Two.new w 24 #[.int .u8 5, .float .f64 x1, .string s1, .int .i64 r1] #[.int .u8 k2, .float .f64 x2, .string s2, .int .i64 r2])
  have Bt := hid (below2 w (.cells #[.int .u8 5, .float .f64 x1, .string s1, .int .i64 r1] 24) (.cells #[.int .u8 k2, .float .f64 x2, .string s2, .int .i64 r2] 24))
  go_wp2_with (first | (go_at_call 14; first | ((with_reducible refine (vmay_any 5 x1 s1 r1 h0 _).mono ?_); rintro e wn ⟨rfl, hb⟩; have Bt := hid (grow Bt.out hb); have TT := hid (TT.out.on hb); clear hb; obtain ⟨a0, a1, a2, a3, b0, b1, b2, b3, fa, fb⟩ := TT.out.facts) | ((with_reducible refine (vmay_any k2 x2 s2 r2 g0 _).mono ?_); rintro e wn ⟨rfl, hb⟩; have Bt := hid (grow Bt.out hb); have TT := hid (TT.out.on hb); clear hb; obtain ⟨a0, a1, a2, a3, b0, b1, b2, b3, fa, fb⟩ := TT.out.facts)) | (go_at_call 19; refine (isObj_b _ _ _ _ _).mono ?_; rintro e wn ⟨rfl, hb⟩; have Bt := hid (grow Bt.out hb); have TT := hid (TT.out.on hb); clear hb; obtain ⟨a0, a1, a2, a3, b0, b1, b2, b3, fa, fb⟩ := TT.out.facts))
  go_ret2
  exact ⟨rfl, Bt.out⟩

set_option maxHeartbeats 4000000 in
set_option maxRecDepth 100000 in
theorem plain_b1 (x1 : Nat) (s1 : ByteArray) (r1 : Int) (k2 : Int) (x2 : Nat) (s2 : ByteArray) (r2 : Int) (g0 : 0 ≤ k2) (m1 : mayV 2 x1 s1 r1 = true) (m2 : mayV k2 x2 s2 r2 = true) (o2 : isObj k2 = false) (hk : ((2 : Int) != k2) = true) (hk2 : ((3 : Int) == k2) = false) (q2 : (k2 == 2) = false) (q3 : (k2 == 4) = false) (w : World) :
    Calls Tryd.prog 7 #[val 2 x1 s1 r1, val k2 x2 s2 r2] w (Pl (false, 0) w) := by
  have h0 : (0 : Int) ≤ 2 := by decide
  have o1 : isObj 2 = false := by decide
  go_enter Tryd.func7, Tryd.ntmps7
  go_wp2_with fail
  have TT := hid (Two.new w 24 #[.int .u8 2, .float .f64 x1, .string s1, .int .i64 r1] #[.int .u8 k2, .float .f64 x2, .string s2, .int .i64 r2])
  have Bt := hid (below2 w (.cells #[.int .u8 2, .float .f64 x1, .string s1, .int .i64 r1] 24) (.cells #[.int .u8 k2, .float .f64 x2, .string s2, .int .i64 r2] 24))
  go_wp2_with (first | (go_at_call 14; first | ((with_reducible refine (vmay_any 2 x1 s1 r1 h0 _).mono ?_); rintro e wn ⟨rfl, hb⟩; have Bt := hid (grow Bt.out hb); have TT := hid (TT.out.on hb); clear hb; obtain ⟨a0, a1, a2, a3, b0, b1, b2, b3, fa, fb⟩ := TT.out.facts) | ((with_reducible refine (vmay_any k2 x2 s2 r2 g0 _).mono ?_); rintro e wn ⟨rfl, hb⟩; have Bt := hid (grow Bt.out hb); have TT := hid (TT.out.on hb); clear hb; obtain ⟨a0, a1, a2, a3, b0, b1, b2, b3, fa, fb⟩ := TT.out.facts)) | (go_at_call 19; refine (isObj_b _ _ _ _ _).mono ?_; rintro e wn ⟨rfl, hb⟩; have Bt := hid (grow Bt.out hb); have TT := hid (TT.out.on hb); clear hb; obtain ⟨a0, a1, a2, a3, b0, b1, b2, b3, fa, fb⟩ := TT.out.facts) | (go_at_call 20; refine (num_any _ _).mono ?_; rintro e wn ⟨rfl, hb⟩; have Bt := hid (grow Bt.out hb); have TT := hid (TT.out.on hb); clear hb; obtain ⟨a0, a1, a2, a3, b0, b1, b2, b3, fa, fb⟩ := TT.out.facts))
  go_ret2
  exact ⟨rfl, (below_four Bt.out (Nat.le_refl _) _ _ _ _)⟩

set_option maxHeartbeats 4000000 in
set_option maxRecDepth 100000 in
theorem plain_b2 (k1 : Int) (x1 : Nat) (s1 : ByteArray) (r1 : Int) (x2 : Nat) (s2 : ByteArray) (r2 : Int) (h0 : 0 ≤ k1) (m1 : mayV k1 x1 s1 r1 = true) (m2 : mayV 2 x2 s2 r2 = true) (o1 : isObj k1 = false) (hk : (k1 != 2) = true) (hk2 : (k1 == 3) = false) (q2 : (k1 == 2) = false) (q3 : (k1 == 4) = false) (p1 : k1 ≤ 1) (w : World) :
    Calls Tryd.prog 7 #[val k1 x1 s1 r1, val 2 x2 s2 r2] w (Pl (false, 0) w) := by
  have g0 : (0 : Int) ≤ 2 := by decide
  have o2 : isObj 2 = false := by decide
  go_enter Tryd.func7, Tryd.ntmps7
  go_wp2_with fail
  have TT := hid (Two.new w 24 #[.int .u8 k1, .float .f64 x1, .string s1, .int .i64 r1] #[.int .u8 2, .float .f64 x2, .string s2, .int .i64 r2])
  have Bt := hid (below2 w (.cells #[.int .u8 k1, .float .f64 x1, .string s1, .int .i64 r1] 24) (.cells #[.int .u8 2, .float .f64 x2, .string s2, .int .i64 r2] 24))
  go_wp2_with (first | (go_at_call 14; first | ((with_reducible refine (vmay_any k1 x1 s1 r1 h0 _).mono ?_); rintro e wn ⟨rfl, hb⟩; have Bt := hid (grow Bt.out hb); have TT := hid (TT.out.on hb); clear hb; obtain ⟨a0, a1, a2, a3, b0, b1, b2, b3, fa, fb⟩ := TT.out.facts) | ((with_reducible refine (vmay_any 2 x2 s2 r2 g0 _).mono ?_); rintro e wn ⟨rfl, hb⟩; have Bt := hid (grow Bt.out hb); have TT := hid (TT.out.on hb); clear hb; obtain ⟨a0, a1, a2, a3, b0, b1, b2, b3, fa, fb⟩ := TT.out.facts)) | (go_at_call 19; refine (isObj_b _ _ _ _ _).mono ?_; rintro e wn ⟨rfl, hb⟩; have Bt := hid (grow Bt.out hb); have TT := hid (TT.out.on hb); clear hb; obtain ⟨a0, a1, a2, a3, b0, b1, b2, b3, fa, fb⟩ := TT.out.facts) | (go_at_call 20; refine (num_any _ _).mono ?_; rintro e wn ⟨rfl, hb⟩; have Bt := hid (grow Bt.out hb); have TT := hid (TT.out.on hb); clear hb; obtain ⟨a0, a1, a2, a3, b0, b1, b2, b3, fa, fb⟩ := TT.out.facts))
  go_ret2
  exact ⟨rfl, (below_four Bt.out (Nat.le_succ _) _ _ _ _)⟩

set_option maxHeartbeats 4000000 in
set_option maxRecDepth 100000 in
theorem plain_b3 (k1 : Int) (x1 : Nat) (s1 : ByteArray) (r1 : Int) (x2 : Nat) (s2 : ByteArray) (r2 : Int) (h0 : 0 ≤ k1) (m1 : mayV k1 x1 s1 r1 = true) (m2 : mayV 2 x2 s2 r2 = true) (o1 : isObj k1 = false) (hk : (k1 != 2) = true) (hk2 : (k1 == 3) = false) (q2 : (k1 == 2) = false) (q3 : (k1 == 4) = false) (p1 : ¬ k1 ≤ 1) (w : World) :
    Calls Tryd.prog 7 #[val k1 x1 s1 r1, val 2 x2 s2 r2] w (Pl (false, 0) w) := by
  have g0 : (0 : Int) ≤ 2 := by decide
  have o2 : isObj 2 = false := by decide
  go_enter Tryd.func7, Tryd.ntmps7
  go_wp2_with fail
  have TT := hid (Two.new w 24 #[.int .u8 k1, .float .f64 x1, .string s1, .int .i64 r1] #[.int .u8 2, .float .f64 x2, .string s2, .int .i64 r2])
  have Bt := hid (below2 w (.cells #[.int .u8 k1, .float .f64 x1, .string s1, .int .i64 r1] 24) (.cells #[.int .u8 2, .float .f64 x2, .string s2, .int .i64 r2] 24))
  go_wp2_with (first | (go_at_call 14; first | ((with_reducible refine (vmay_any k1 x1 s1 r1 h0 _).mono ?_); rintro e wn ⟨rfl, hb⟩; have Bt := hid (grow Bt.out hb); have TT := hid (TT.out.on hb); clear hb; obtain ⟨a0, a1, a2, a3, b0, b1, b2, b3, fa, fb⟩ := TT.out.facts) | ((with_reducible refine (vmay_any 2 x2 s2 r2 g0 _).mono ?_); rintro e wn ⟨rfl, hb⟩; have Bt := hid (grow Bt.out hb); have TT := hid (TT.out.on hb); clear hb; obtain ⟨a0, a1, a2, a3, b0, b1, b2, b3, fa, fb⟩ := TT.out.facts)) | (go_at_call 19; refine (isObj_b _ _ _ _ _).mono ?_; rintro e wn ⟨rfl, hb⟩; have Bt := hid (grow Bt.out hb); have TT := hid (TT.out.on hb); clear hb; obtain ⟨a0, a1, a2, a3, b0, b1, b2, b3, fa, fb⟩ := TT.out.facts) | (go_at_call 20; refine (num_any _ _).mono ?_; rintro e wn ⟨rfl, hb⟩; have Bt := hid (grow Bt.out hb); have TT := hid (TT.out.on hb); clear hb; obtain ⟨a0, a1, a2, a3, b0, b1, b2, b3, fa, fb⟩ := TT.out.facts))
  go_ret2
  exact ⟨rfl, (below_four Bt.out (Nat.le_succ _) _ _ _ _)⟩


theorem val_kinds {k : Int} {x : Nat} {s : ByteArray} {r : Int} (m : mayV k x s r = true) (o : isObj k = false) : k = 0 ∨ k = 1 ∨ k = 2 ∨ k = 3 ∨ k = 4 ∨ k = 5 := by
  unfold isObj at o
  rw [Bool.and_eq_false_iff, decide_eq_false_iff_not, decide_eq_false_iff_not] at o
  unfold mayV at m
  repeat' split at m
  all_goals first | omega | cases m

theorem plain_any (k1 : Int) (x1 : Nat) (s1 : ByteArray) (r1 : Int) (k2 : Int) (x2 : Nat) (s2 : ByteArray) (r2 : Int) (h0 : 0 ≤ k1) (g0 : 0 ≤ k2) (w : World) : Calls Tryd.prog 7 #[val k1 x1 s1 r1, val k2 x2 s2 r2] w (Pl (plainV k1 x1 s1 r1 k2 x2 s2 r2) w) := by
  unfold plainV
  cases m1 : mayV k1 x1 s1 r1
  · rw [if_pos (Or.inl rfl)]; exact plain_no1 k1 x1 s1 r1 k2 x2 s2 r2 h0 m1 w
  cases m2 : mayV k2 x2 s2 r2
  · rw [if_pos (Or.inr (Or.inl rfl))]; exact plain_no2 k1 x1 s1 r1 k2 x2 s2 r2 h0 g0 m1 m2 w
  cases o1 : isObj k1
  case true => rw [if_pos (by simp)]; exact plain_no3 k1 x1 s1 r1 k2 x2 s2 r2 h0 g0 m1 m2 o1 w
  cases o2 : isObj k2
  case true => rw [if_pos (by simp)]; exact plain_no4 k1 x1 s1 r1 k2 x2 s2 r2 h0 g0 m1 m2 o1 o2 w
  rw [if_neg (by simp)]
  by_cases hk : k1 = k2
  · rw [if_pos hk]; exact plain_eq k1 x1 s1 r1 k2 x2 s2 r2 h0 g0 m1 m2 o1 o2 (by simp [hk]) (by simp [hk]) w
  rw [if_neg hk]
  have n1 : (k1 != k2) = true := by rw [bne_iff_ne]; exact hk
  have n2 : (k1 == k2) = false := by rw [beq_eq_false_iff_ne]; exact hk
  have e3 : ∀ (y1 : Nat) (t1 : ByteArray) (u1 : Int) (y2 : Nat) (t2 : ByteArray) (u2 : Int), strictV 3 y1 t1 u1 3 y2 t2 u2 = (FloatKind.f64.format.order y1 y2 == some .eq) := fun y1 t1 u1 y2 t2 u2 => by
    rw [strict_eq y1 t1 u1 y2 t2 u2 (by decide), if_neg (by simp), if_pos (by simp)]
  rcases val_kinds m1 o1 with rfl | rfl | rfl | rfl | rfl | rfl
  · by_cases p2 : k2 ≤ 1
    · rw [if_neg (by omega), if_pos ⟨by decide, p2⟩]
      exact plain_z 0 x1 s1 r1 k2 x2 s2 r2 h0 g0 m1 m2 o1 o2 n1 n2 (by decide) p2 (by decide) (by rw [beq_eq_false_iff_ne]; omega) w
    · rw [if_neg (by omega), if_neg (by omega), if_neg (by omega), if_neg (by omega)]
      by_cases hq : k2 = 2
      · subst hq; exact plain_b2 0 x1 s1 r1 x2 s2 r2 h0 m1 m2 o1 n1 (by decide) (by decide) (by decide) (by decide) w
      · exact plain_o1 0 x1 s1 r1 k2 x2 s2 r2 h0 g0 m1 m2 o1 o2 n1 n2 (by decide) p2 (by decide) (by rw [beq_eq_false_iff_ne]; exact hq) (by decide) (by decide) w
  · by_cases p2 : k2 ≤ 1
    · rw [if_neg (by omega), if_pos ⟨by decide, p2⟩]
      exact plain_z 1 x1 s1 r1 k2 x2 s2 r2 h0 g0 m1 m2 o1 o2 n1 n2 (by decide) p2 (by decide) (by rw [beq_eq_false_iff_ne]; omega) w
    · rw [if_neg (by omega), if_neg (by omega), if_neg (by omega), if_neg (by omega)]
      by_cases hq : k2 = 2
      · subst hq; exact plain_b2 1 x1 s1 r1 x2 s2 r2 h0 m1 m2 o1 n1 (by decide) (by decide) (by decide) (by decide) w
      · exact plain_o1 1 x1 s1 r1 k2 x2 s2 r2 h0 g0 m1 m2 o1 o2 n1 n2 (by decide) p2 (by decide) (by rw [beq_eq_false_iff_ne]; exact hq) (by decide) (by decide) w
  · by_cases h3 : k2 = 3
    · subst h3
      rw [if_pos (by simp), ← e3 x1 ⟨#[]⟩ 0 x2 s2 r2]
      exact plain_n1 x1 s1 r1 x2 s2 r2 m1 m2 w
    · rw [if_neg (by omega), if_neg (by omega), if_neg (by omega)]
      by_cases h4 : k2 = 4
      · subst h4
        rw [if_pos (by simp)]
        exact plain_24 x1 s1 r1 x2 s2 r2 m1 m2 w
      · rw [if_neg (by omega)]
        exact plain_b1 x1 s1 r1 k2 x2 s2 r2 g0 m1 m2 o2 n1 (by rw [beq_eq_false_iff_ne]; omega) (by rw [beq_eq_false_iff_ne]; omega) (by rw [beq_eq_false_iff_ne]; omega) w
  · by_cases h2 : k2 = 2
    · subst h2
      rw [if_pos (by simp), ← e3 x1 s1 r1 x2 ⟨#[]⟩ 0]
      exact plain_n2 x1 s1 r1 x2 s2 r2 m1 m2 w
    · rw [if_neg (by omega), if_neg (by omega), if_neg (by omega)]
      by_cases h4 : k2 = 4
      · subst h4
        rw [if_pos (by simp)]
        exact plain_34 x1 s1 r1 x2 s2 r2 m1 m2 w
      · rw [if_neg (by omega)]
        exact plain_o3 x1 s1 r1 k2 x2 s2 r2 g0 m1 m2 o2 n1 n2 (by rw [beq_eq_false_iff_ne]; omega) (by rw [beq_eq_false_iff_ne]; omega) w
  · rw [if_neg (by omega), if_neg (by omega)]
    by_cases h2 : k2 = 2
    · subst h2
      rw [if_pos (by simp)]
      exact plain_42 x1 s1 r1 x2 s2 r2 m1 m2 w
    · by_cases h3 : k2 = 3
      · subst h3
        rw [if_pos (by simp)]
        exact plain_43 x1 s1 r1 x2 s2 r2 m1 m2 w
      · rw [if_neg (by omega), if_neg (by omega)]
        exact plain_o4 x1 s1 r1 k2 x2 s2 r2 g0 m1 m2 o2 n1 n2 (by rw [beq_eq_false_iff_ne]; omega) (by rw [beq_eq_false_iff_ne]; omega) w
  · rw [if_neg (by omega), if_neg (by omega), if_neg (by omega), if_neg (by omega)]
    by_cases h2 : k2 = 2
    · subst h2; exact plain_b3 5 x1 s1 r1 x2 s2 r2 h0 m1 m2 o1 n1 (by decide) (by decide) (by decide) (by decide) w
    · exact plain_o5 x1 s1 r1 k2 x2 s2 r2 g0 m1 m2 o2 n1 n2 (by rw [beq_eq_false_iff_ne]; omega) w

end Go.Proofs.YtecadaoncpminaaDoor
