/-
  The walk of the reference's Plain.
-/
import Derived.Test.YtecadaoncpminaaDoorPlain
import Derived.Test.YtecadaoncpminaaDoorRefVMay
import Derived.Test.YtecadaoncpminaaDoorRefRead
import Derived.Deep.RegionHeld3
namespace Go.Proofs.YtecadaoncpminaaDoor
open Go.RowKit

theorem refObj_b (k : Int) (x : Nat) (s : ByteArray) (r : Int) (w : World) :
    Calls Tryd.prog 27 #[val k x s r] w fun e w' => e = .returned (.bool (isObj k)) ∧ Below w.heap.size w w' := by
  refine (refObj_any k x s r w).mono ?_
  rintro e w' ⟨rfl, rfl⟩
  exact ⟨rfl, (Below.refl _ _).alloc (Nat.le_refl _) _⟩

set_option maxHeartbeats 4000000 in
set_option maxRecDepth 100000 in
theorem rplain_no1 (k1 : Int) (x1 : Nat) (s1 : ByteArray) (r1 : Int) (k2 : Int) (x2 : Nat) (s2 : ByteArray) (r2 : Int) (h0 : 0 ≤ k1) (m1 : mayV k1 x1 s1 r1 = false) (w : World) :
    Calls Tryd.prog 8 #[val k1 x1 s1 r1, val k2 x2 s2 r2] w (Pl (false, 9) w) := by
  go_enter Tryd.func8, Tryd.ntmps8
  go_wp2_with fail
  have TT := hid (Two.new w 24 #[.int .u8 k1, .float .f64 x1, .string s1, .int .i64 r1] #[.int .u8 k2, .float .f64 x2, .string s2, .int .i64 r2])
  have Bt := hid (below2 w (.cells #[.int .u8 k1, .float .f64 x1, .string s1, .int .i64 r1] 24) (.cells #[.int .u8 k2, .float .f64 x2, .string s2, .int .i64 r2] 24))
  go_wp2_with (first | (go_at_call 26; first | ((with_reducible refine (rmay_any k1 x1 s1 r1 h0 _).mono ?_); rintro e wn ⟨rfl, hb⟩; have Bt := hid (grow Bt.out hb); have TT := hid (TT.out.on hb); clear hb; obtain ⟨a0, a1, a2, a3, b0, b1, b2, b3, fa, fb⟩ := TT.out.facts) | ((with_reducible refine (rmay_any k2 x2 s2 r2 g0 _).mono ?_); rintro e wn ⟨rfl, hb⟩; have Bt := hid (grow Bt.out hb); have TT := hid (TT.out.on hb); clear hb; obtain ⟨a0, a1, a2, a3, b0, b1, b2, b3, fa, fb⟩ := TT.out.facts)) | (go_at_call 27; refine (refObj_b _ _ _ _ _).mono ?_; rintro e wn ⟨rfl, hb⟩; have Bt := hid (grow Bt.out hb); have TT := hid (TT.out.on hb); clear hb; obtain ⟨a0, a1, a2, a3, b0, b1, b2, b3, fa, fb⟩ := TT.out.facts))
  go_ret2
  exact ⟨rfl, Bt.out⟩

set_option maxHeartbeats 4000000 in
set_option maxRecDepth 100000 in
theorem rplain_no2 (k1 : Int) (x1 : Nat) (s1 : ByteArray) (r1 : Int) (k2 : Int) (x2 : Nat) (s2 : ByteArray) (r2 : Int) (h0 : 0 ≤ k1) (g0 : 0 ≤ k2) (m1 : mayV k1 x1 s1 r1 = true) (m2 : mayV k2 x2 s2 r2 = false) (w : World) :
    Calls Tryd.prog 8 #[val k1 x1 s1 r1, val k2 x2 s2 r2] w (Pl (false, 9) w) := by
  go_enter Tryd.func8, Tryd.ntmps8
  go_wp2_with fail
  have TT := hid (Two.new w 24 #[.int .u8 k1, .float .f64 x1, .string s1, .int .i64 r1] #[.int .u8 k2, .float .f64 x2, .string s2, .int .i64 r2])
  have Bt := hid (below2 w (.cells #[.int .u8 k1, .float .f64 x1, .string s1, .int .i64 r1] 24) (.cells #[.int .u8 k2, .float .f64 x2, .string s2, .int .i64 r2] 24))
  go_wp2_with (first | (go_at_call 26; first | ((with_reducible refine (rmay_any k1 x1 s1 r1 h0 _).mono ?_); rintro e wn ⟨rfl, hb⟩; have Bt := hid (grow Bt.out hb); have TT := hid (TT.out.on hb); clear hb; obtain ⟨a0, a1, a2, a3, b0, b1, b2, b3, fa, fb⟩ := TT.out.facts) | ((with_reducible refine (rmay_any k2 x2 s2 r2 g0 _).mono ?_); rintro e wn ⟨rfl, hb⟩; have Bt := hid (grow Bt.out hb); have TT := hid (TT.out.on hb); clear hb; obtain ⟨a0, a1, a2, a3, b0, b1, b2, b3, fa, fb⟩ := TT.out.facts)) | (go_at_call 27; refine (refObj_b _ _ _ _ _).mono ?_; rintro e wn ⟨rfl, hb⟩; have Bt := hid (grow Bt.out hb); have TT := hid (TT.out.on hb); clear hb; obtain ⟨a0, a1, a2, a3, b0, b1, b2, b3, fa, fb⟩ := TT.out.facts))
  go_ret2
  exact ⟨rfl, Bt.out⟩

set_option maxHeartbeats 4000000 in
set_option maxRecDepth 100000 in
theorem rplain_no3 (k1 : Int) (x1 : Nat) (s1 : ByteArray) (r1 : Int) (k2 : Int) (x2 : Nat) (s2 : ByteArray) (r2 : Int) (h0 : 0 ≤ k1) (g0 : 0 ≤ k2) (m1 : mayV k1 x1 s1 r1 = true) (m2 : mayV k2 x2 s2 r2 = true) (o1 : isObj k1 = true) (w : World) :
    Calls Tryd.prog 8 #[val k1 x1 s1 r1, val k2 x2 s2 r2] w (Pl (false, 9) w) := by
  go_enter Tryd.func8, Tryd.ntmps8
  go_wp2_with fail
  have TT := hid (Two.new w 24 #[.int .u8 k1, .float .f64 x1, .string s1, .int .i64 r1] #[.int .u8 k2, .float .f64 x2, .string s2, .int .i64 r2])
  have Bt := hid (below2 w (.cells #[.int .u8 k1, .float .f64 x1, .string s1, .int .i64 r1] 24) (.cells #[.int .u8 k2, .float .f64 x2, .string s2, .int .i64 r2] 24))
  go_wp2_with (first | (go_at_call 26; first | ((with_reducible refine (rmay_any k1 x1 s1 r1 h0 _).mono ?_); rintro e wn ⟨rfl, hb⟩; have Bt := hid (grow Bt.out hb); have TT := hid (TT.out.on hb); clear hb; obtain ⟨a0, a1, a2, a3, b0, b1, b2, b3, fa, fb⟩ := TT.out.facts) | ((with_reducible refine (rmay_any k2 x2 s2 r2 g0 _).mono ?_); rintro e wn ⟨rfl, hb⟩; have Bt := hid (grow Bt.out hb); have TT := hid (TT.out.on hb); clear hb; obtain ⟨a0, a1, a2, a3, b0, b1, b2, b3, fa, fb⟩ := TT.out.facts)) | (go_at_call 27; refine (refObj_b _ _ _ _ _).mono ?_; rintro e wn ⟨rfl, hb⟩; have Bt := hid (grow Bt.out hb); have TT := hid (TT.out.on hb); clear hb; obtain ⟨a0, a1, a2, a3, b0, b1, b2, b3, fa, fb⟩ := TT.out.facts))
  go_ret2
  exact ⟨rfl, Bt.out⟩

set_option maxHeartbeats 4000000 in
set_option maxRecDepth 100000 in
theorem rplain_no4 (k1 : Int) (x1 : Nat) (s1 : ByteArray) (r1 : Int) (k2 : Int) (x2 : Nat) (s2 : ByteArray) (r2 : Int) (h0 : 0 ≤ k1) (g0 : 0 ≤ k2) (m1 : mayV k1 x1 s1 r1 = true) (m2 : mayV k2 x2 s2 r2 = true) (o1 : isObj k1 = false) (o2 : isObj k2 = true) (w : World) :
    Calls Tryd.prog 8 #[val k1 x1 s1 r1, val k2 x2 s2 r2] w (Pl (false, 9) w) := by
  go_enter Tryd.func8, Tryd.ntmps8
  go_wp2_with fail
  have TT := hid (Two.new w 24 #[.int .u8 k1, .float .f64 x1, .string s1, .int .i64 r1] #[.int .u8 k2, .float .f64 x2, .string s2, .int .i64 r2])
  have Bt := hid (below2 w (.cells #[.int .u8 k1, .float .f64 x1, .string s1, .int .i64 r1] 24) (.cells #[.int .u8 k2, .float .f64 x2, .string s2, .int .i64 r2] 24))
  go_wp2_with (first | (go_at_call 26; first | ((with_reducible refine (rmay_any k1 x1 s1 r1 h0 _).mono ?_); rintro e wn ⟨rfl, hb⟩; have Bt := hid (grow Bt.out hb); have TT := hid (TT.out.on hb); clear hb; obtain ⟨a0, a1, a2, a3, b0, b1, b2, b3, fa, fb⟩ := TT.out.facts) | ((with_reducible refine (rmay_any k2 x2 s2 r2 g0 _).mono ?_); rintro e wn ⟨rfl, hb⟩; have Bt := hid (grow Bt.out hb); have TT := hid (TT.out.on hb); clear hb; obtain ⟨a0, a1, a2, a3, b0, b1, b2, b3, fa, fb⟩ := TT.out.facts)) | (go_at_call 27; refine (refObj_b _ _ _ _ _).mono ?_; rintro e wn ⟨rfl, hb⟩; have Bt := hid (grow Bt.out hb); have TT := hid (TT.out.on hb); clear hb; obtain ⟨a0, a1, a2, a3, b0, b1, b2, b3, fa, fb⟩ := TT.out.facts))
  go_ret2
  exact ⟨rfl, Bt.out⟩

set_option maxHeartbeats 4000000 in
set_option maxRecDepth 100000 in
theorem rplain_eq (k1 : Int) (x1 : Nat) (s1 : ByteArray) (r1 : Int) (k2 : Int) (x2 : Nat) (s2 : ByteArray) (r2 : Int) (h0 : 0 ≤ k1) (g0 : 0 ≤ k2) (m1 : mayV k1 x1 s1 r1 = true) (m2 : mayV k2 x2 s2 r2 = true) (o1 : isObj k1 = false) (o2 : isObj k2 = false) (hk2 : (k1 == k2) = true) (w : World) :
    Calls Tryd.prog 8 #[val k1 x1 s1 r1, val k2 x2 s2 r2] w (Pl (strictV k1 x1 s1 r1 k2 x2 s2 r2, 0) w) := by
  go_enter Tryd.func8, Tryd.ntmps8
  go_wp2_with fail
  have TT := hid (Two.new w 24 #[.int .u8 k1, .float .f64 x1, .string s1, .int .i64 r1] #[.int .u8 k2, .float .f64 x2, .string s2, .int .i64 r2])
  have Bt := hid (below2 w (.cells #[.int .u8 k1, .float .f64 x1, .string s1, .int .i64 r1] 24) (.cells #[.int .u8 k2, .float .f64 x2, .string s2, .int .i64 r2] 24))
  go_wp2_with (first | (go_at_call 26; first | ((with_reducible refine (rmay_any k1 x1 s1 r1 h0 _).mono ?_); rintro e wn ⟨rfl, hb⟩; have Bt := hid (grow Bt.out hb); have TT := hid (TT.out.on hb); clear hb; obtain ⟨a0, a1, a2, a3, b0, b1, b2, b3, fa, fb⟩ := TT.out.facts) | ((with_reducible refine (rmay_any k2 x2 s2 r2 g0 _).mono ?_); rintro e wn ⟨rfl, hb⟩; have Bt := hid (grow Bt.out hb); have TT := hid (TT.out.on hb); clear hb; obtain ⟨a0, a1, a2, a3, b0, b1, b2, b3, fa, fb⟩ := TT.out.facts)) | (go_at_call 27; refine (refObj_b _ _ _ _ _).mono ?_; rintro e wn ⟨rfl, hb⟩; have Bt := hid (grow Bt.out hb); have TT := hid (TT.out.on hb); clear hb; obtain ⟨a0, a1, a2, a3, b0, b1, b2, b3, fa, fb⟩ := TT.out.facts) | (go_at_call 12; refine (refStrict_any _ _ _ _ _ _ _ _ h0 _).mono ?_; rintro e wn ⟨rfl, hb⟩; have Bt := hid (grow Bt.out hb); clear hb))
  go_ret2
  exact ⟨rfl, Bt.out⟩

set_option maxHeartbeats 4000000 in
set_option maxRecDepth 100000 in
theorem rplain_34 (x1 : Nat) (s1 : ByteArray) (r1 : Int) (x2 : Nat) (s2 : ByteArray) (r2 : Int) (m1 : mayV 3 x1 s1 r1 = true) (m2 : mayV 4 x2 s2 r2 = true) (w : World) :
    Calls Tryd.prog 8 #[val 3 x1 s1 r1, val 4 x2 s2 r2] w (Pl (numV x1 s2.data.toList) w) := by
  have h0 : (0 : Int) ≤ 3 := by decide
  have g0 : (0 : Int) ≤ 4 := by decide
  have o1 : isObj 3 = false := by decide
  have o2 : isObj 4 = false := by decide
  have hm := may_3 m1
  have Rd := hid (fun W => refRead_any s2 W (by have := may_4 m2; omega))
  unfold numV
  generalize readR s2.data.toList = R at *
  by_cases hR : R.1 = 0
  · rw [if_pos hR]
    have z : (R.1 != 0) = false := by rw [hR]; rfl
    have E := hid hR
    clear hR
    go_enter Tryd.func8, Tryd.ntmps8
    go_wp2_with fail
    have TT := hid (Two.new w 24 #[.int .u8 3, .float .f64 x1, .string s1, .int .i64 r1] #[.int .u8 4, .float .f64 x2, .string s2, .int .i64 r2])
    have Bt := hid (below2 w (.cells #[.int .u8 3, .float .f64 x1, .string s1, .int .i64 r1] 24) (.cells #[.int .u8 4, .float .f64 x2, .string s2, .int .i64 r2] 24))
    go_wp2_with (first | (go_at_call 26; first | ((with_reducible refine (rmay_any 3 x1 s1 r1 h0 _).mono ?_); rintro e wn ⟨rfl, hb⟩; have Bt := hid (grow Bt.out hb); have TT := hid (TT.out.on hb); clear hb; obtain ⟨a0, a1, a2, a3, b0, b1, b2, b3, fa, fb⟩ := TT.out.facts) | ((with_reducible refine (rmay_any 4 x2 s2 r2 g0 _).mono ?_); rintro e wn ⟨rfl, hb⟩; have Bt := hid (grow Bt.out hb); have TT := hid (TT.out.on hb); clear hb; obtain ⟨a0, a1, a2, a3, b0, b1, b2, b3, fa, fb⟩ := TT.out.facts)) | (go_at_call 27; refine (refObj_b _ _ _ _ _).mono ?_; rintro e wn ⟨rfl, hb⟩; have Bt := hid (grow Bt.out hb); have TT := hid (TT.out.on hb); clear hb; obtain ⟨a0, a1, a2, a3, b0, b1, b2, b3, fa, fb⟩ := TT.out.facts) | (go_at_call 29; refine (Rd.out _).mono ?_; rintro e wn ⟨⟨v, rfl, hv⟩, hb⟩; have cm := numV_cmp hv hm; have Bt := hid (grow Bt.out hb); have TT := hid (TT.out.on hb); clear hb hv; obtain ⟨a0, a1, a2, a3, b0, b1, b2, b3, fa, fb⟩ := TT.out.facts))
    all_goals
      go_ret2
      exact ⟨rfl, Bt.out⟩
  · rw [if_neg hR]
    have z : (R.1 != 0) = true := by simpa using hR
    clear hR
    go_enter Tryd.func8, Tryd.ntmps8
    go_wp2_with fail
    have TT := hid (Two.new w 24 #[.int .u8 3, .float .f64 x1, .string s1, .int .i64 r1] #[.int .u8 4, .float .f64 x2, .string s2, .int .i64 r2])
    have Bt := hid (below2 w (.cells #[.int .u8 3, .float .f64 x1, .string s1, .int .i64 r1] 24) (.cells #[.int .u8 4, .float .f64 x2, .string s2, .int .i64 r2] 24))
    go_wp2_with (first | (go_at_call 26; first | ((with_reducible refine (rmay_any 3 x1 s1 r1 h0 _).mono ?_); rintro e wn ⟨rfl, hb⟩; have Bt := hid (grow Bt.out hb); have TT := hid (TT.out.on hb); clear hb; obtain ⟨a0, a1, a2, a3, b0, b1, b2, b3, fa, fb⟩ := TT.out.facts) | ((with_reducible refine (rmay_any 4 x2 s2 r2 g0 _).mono ?_); rintro e wn ⟨rfl, hb⟩; have Bt := hid (grow Bt.out hb); have TT := hid (TT.out.on hb); clear hb; obtain ⟨a0, a1, a2, a3, b0, b1, b2, b3, fa, fb⟩ := TT.out.facts)) | (go_at_call 27; refine (refObj_b _ _ _ _ _).mono ?_; rintro e wn ⟨rfl, hb⟩; have Bt := hid (grow Bt.out hb); have TT := hid (TT.out.on hb); clear hb; obtain ⟨a0, a1, a2, a3, b0, b1, b2, b3, fa, fb⟩ := TT.out.facts) | (go_at_call 29; refine (Rd.out _).mono ?_; rintro e wn ⟨⟨v, rfl, hv⟩, hb⟩; have cm := numV_cmp hv hm; have Bt := hid (grow Bt.out hb); have TT := hid (TT.out.on hb); clear hb hv; obtain ⟨a0, a1, a2, a3, b0, b1, b2, b3, fa, fb⟩ := TT.out.facts))
    go_ret2
    exact ⟨rfl, Bt.out⟩

set_option maxHeartbeats 4000000 in
set_option maxRecDepth 100000 in
theorem rplain_43 (x1 : Nat) (s1 : ByteArray) (r1 : Int) (x2 : Nat) (s2 : ByteArray) (r2 : Int) (m1 : mayV 4 x1 s1 r1 = true) (m2 : mayV 3 x2 s2 r2 = true) (w : World) :
    Calls Tryd.prog 8 #[val 4 x1 s1 r1, val 3 x2 s2 r2] w (Pl (numV x2 s1.data.toList) w) := by
  have h0 : (0 : Int) ≤ 4 := by decide
  have g0 : (0 : Int) ≤ 3 := by decide
  have o1 : isObj 4 = false := by decide
  have o2 : isObj 3 = false := by decide
  have Rec := hid (fun W => rplain_34 x2 s2 r2 x1 s1 r1 m2 m1 W)
  generalize numV x2 s1.data.toList = q at *
  go_enter Tryd.func8, Tryd.ntmps8
  go_wp2_with fail
  have TT := hid (Two.new w 24 #[.int .u8 4, .float .f64 x1, .string s1, .int .i64 r1] #[.int .u8 3, .float .f64 x2, .string s2, .int .i64 r2])
  have Bt := hid (below2 w (.cells #[.int .u8 4, .float .f64 x1, .string s1, .int .i64 r1] 24) (.cells #[.int .u8 3, .float .f64 x2, .string s2, .int .i64 r2] 24))
  go_wp2_with (first | (go_at_call 26; first | ((with_reducible refine (rmay_any 4 x1 s1 r1 h0 _).mono ?_); rintro e wn ⟨rfl, hb⟩; have Bt := hid (grow Bt.out hb); have TT := hid (TT.out.on hb); clear hb; obtain ⟨a0, a1, a2, a3, b0, b1, b2, b3, fa, fb⟩ := TT.out.facts) | ((with_reducible refine (rmay_any 3 x2 s2 r2 g0 _).mono ?_); rintro e wn ⟨rfl, hb⟩; have Bt := hid (grow Bt.out hb); have TT := hid (TT.out.on hb); clear hb; obtain ⟨a0, a1, a2, a3, b0, b1, b2, b3, fa, fb⟩ := TT.out.facts)) | (go_at_call 27; refine (refObj_b _ _ _ _ _).mono ?_; rintro e wn ⟨rfl, hb⟩; have Bt := hid (grow Bt.out hb); have TT := hid (TT.out.on hb); clear hb; obtain ⟨a0, a1, a2, a3, b0, b1, b2, b3, fa, fb⟩ := TT.out.facts) | (go_at_call 8; refine (Rec.out _).mono ?_; rintro e wn ⟨rfl, hb⟩; have Bt := hid (grow Bt.out hb); have TT := hid (TT.out.on hb); clear hb; obtain ⟨a0, a1, a2, a3, b0, b1, b2, b3, fa, fb⟩ := TT.out.facts))
  go_ret2
  exact ⟨rfl, Bt.out⟩

set_option maxHeartbeats 4000000 in
set_option maxRecDepth 100000 in
theorem rplain_z01 (x1 : Nat) (s1 : ByteArray) (r1 : Int) (x2 : Nat) (s2 : ByteArray) (r2 : Int) (m1 : mayV 0 x1 s1 r1 = true) (m2 : mayV 1 x2 s2 r2 = true) (w : World) :
    Calls Tryd.prog 8 #[val 0 x1 s1 r1, val 1 x2 s2 r2] w (Pl (true, 0) w) := by
  have h0 : (0 : Int) ≤ 0 := by decide
  have g0 : (0 : Int) ≤ 1 := by decide
  have o1 : isObj 0 = false := by decide
  have o2 : isObj 1 = false := by decide
  go_enter Tryd.func8, Tryd.ntmps8
  go_wp2_with fail
  have TT := hid (Two.new w 24 #[.int .u8 0, .float .f64 x1, .string s1, .int .i64 r1] #[.int .u8 1, .float .f64 x2, .string s2, .int .i64 r2])
  have Bt := hid (below2 w (.cells #[.int .u8 0, .float .f64 x1, .string s1, .int .i64 r1] 24) (.cells #[.int .u8 1, .float .f64 x2, .string s2, .int .i64 r2] 24))
  go_wp2_with (first | (go_at_call 26; first | ((with_reducible refine (rmay_any 0 x1 s1 r1 h0 _).mono ?_); rintro e wn ⟨rfl, hb⟩; have Bt := hid (grow Bt.out hb); have TT := hid (TT.out.on hb); clear hb; obtain ⟨a0, a1, a2, a3, b0, b1, b2, b3, fa, fb⟩ := TT.out.facts) | ((with_reducible refine (rmay_any 1 x2 s2 r2 g0 _).mono ?_); rintro e wn ⟨rfl, hb⟩; have Bt := hid (grow Bt.out hb); have TT := hid (TT.out.on hb); clear hb; obtain ⟨a0, a1, a2, a3, b0, b1, b2, b3, fa, fb⟩ := TT.out.facts)) | (go_at_call 27; refine (refObj_b _ _ _ _ _).mono ?_; rintro e wn ⟨rfl, hb⟩; have Bt := hid (grow Bt.out hb); have TT := hid (TT.out.on hb); clear hb; obtain ⟨a0, a1, a2, a3, b0, b1, b2, b3, fa, fb⟩ := TT.out.facts))
  go_ret2
  exact ⟨rfl, Bt.out⟩

set_option maxHeartbeats 4000000 in
set_option maxRecDepth 100000 in
theorem rplain_z10 (x1 : Nat) (s1 : ByteArray) (r1 : Int) (x2 : Nat) (s2 : ByteArray) (r2 : Int) (m1 : mayV 1 x1 s1 r1 = true) (m2 : mayV 0 x2 s2 r2 = true) (w : World) :
    Calls Tryd.prog 8 #[val 1 x1 s1 r1, val 0 x2 s2 r2] w (Pl (true, 0) w) := by
  have h0 : (0 : Int) ≤ 1 := by decide
  have g0 : (0 : Int) ≤ 0 := by decide
  have o1 : isObj 1 = false := by decide
  have o2 : isObj 0 = false := by decide
  go_enter Tryd.func8, Tryd.ntmps8
  go_wp2_with fail
  have TT := hid (Two.new w 24 #[.int .u8 1, .float .f64 x1, .string s1, .int .i64 r1] #[.int .u8 0, .float .f64 x2, .string s2, .int .i64 r2])
  have Bt := hid (below2 w (.cells #[.int .u8 1, .float .f64 x1, .string s1, .int .i64 r1] 24) (.cells #[.int .u8 0, .float .f64 x2, .string s2, .int .i64 r2] 24))
  go_wp2_with (first | (go_at_call 26; first | ((with_reducible refine (rmay_any 1 x1 s1 r1 h0 _).mono ?_); rintro e wn ⟨rfl, hb⟩; have Bt := hid (grow Bt.out hb); have TT := hid (TT.out.on hb); clear hb; obtain ⟨a0, a1, a2, a3, b0, b1, b2, b3, fa, fb⟩ := TT.out.facts) | ((with_reducible refine (rmay_any 0 x2 s2 r2 g0 _).mono ?_); rintro e wn ⟨rfl, hb⟩; have Bt := hid (grow Bt.out hb); have TT := hid (TT.out.on hb); clear hb; obtain ⟨a0, a1, a2, a3, b0, b1, b2, b3, fa, fb⟩ := TT.out.facts)) | (go_at_call 27; refine (refObj_b _ _ _ _ _).mono ?_; rintro e wn ⟨rfl, hb⟩; have Bt := hid (grow Bt.out hb); have TT := hid (TT.out.on hb); clear hb; obtain ⟨a0, a1, a2, a3, b0, b1, b2, b3, fa, fb⟩ := TT.out.facts))
  go_ret2
  exact ⟨rfl, Bt.out⟩

set_option maxHeartbeats 4000000 in
set_option maxRecDepth 100000 in
theorem rplain_o0 (x1 : Nat) (s1 : ByteArray) (r1 : Int) (k2 : Int) (x2 : Nat) (s2 : ByteArray) (r2 : Int) (g0 : 0 ≤ k2) (m1 : mayV 0 x1 s1 r1 = true) (m2 : mayV k2 x2 s2 r2 = true) (o2 : isObj k2 = false) (hk2 : ((0 : Int) == k2) = false) (q2 : (k2 == 2) = false) (q3 : (k2 == 0) = false) (q4 : (k2 == 1) = false) (w : World) :
    Calls Tryd.prog 8 #[val 0 x1 s1 r1, val k2 x2 s2 r2] w (Pl (false, 0) w) := by
  have h0 : (0 : Int) ≤ 0 := by decide
  have o1 : isObj 0 = false := by decide
  go_enter Tryd.func8, Tryd.ntmps8
  go_wp2_with fail
  have TT := hid (Two.new w 24 #[.int .u8 0, .float .f64 x1, .string s1, .int .i64 r1] #[.int .u8 k2, .float .f64 x2, .string s2, .int .i64 r2])
  have Bt := hid (below2 w (.cells #[.int .u8 0, .float .f64 x1, .string s1, .int .i64 r1] 24) (.cells #[.int .u8 k2, .float .f64 x2, .string s2, .int .i64 r2] 24))
  go_wp2_with (first | (go_at_call 26; first | ((with_reducible refine (rmay_any 0 x1 s1 r1 h0 _).mono ?_); rintro e wn ⟨rfl, hb⟩; have Bt := hid (grow Bt.out hb); have TT := hid (TT.out.on hb); clear hb; obtain ⟨a0, a1, a2, a3, b0, b1, b2, b3, fa, fb⟩ := TT.out.facts) | ((with_reducible refine (rmay_any k2 x2 s2 r2 g0 _).mono ?_); rintro e wn ⟨rfl, hb⟩; have Bt := hid (grow Bt.out hb); have TT := hid (TT.out.on hb); clear hb; obtain ⟨a0, a1, a2, a3, b0, b1, b2, b3, fa, fb⟩ := TT.out.facts)) | (go_at_call 27; refine (refObj_b _ _ _ _ _).mono ?_; rintro e wn ⟨rfl, hb⟩; have Bt := hid (grow Bt.out hb); have TT := hid (TT.out.on hb); clear hb; obtain ⟨a0, a1, a2, a3, b0, b1, b2, b3, fa, fb⟩ := TT.out.facts))
  go_ret2
  exact ⟨rfl, Bt.out⟩

set_option maxHeartbeats 4000000 in
set_option maxRecDepth 100000 in
theorem rplain_o1 (x1 : Nat) (s1 : ByteArray) (r1 : Int) (k2 : Int) (x2 : Nat) (s2 : ByteArray) (r2 : Int) (g0 : 0 ≤ k2) (m1 : mayV 1 x1 s1 r1 = true) (m2 : mayV k2 x2 s2 r2 = true) (o2 : isObj k2 = false) (hk2 : ((1 : Int) == k2) = false) (q2 : (k2 == 2) = false) (q3 : (k2 == 0) = false) (q4 : (k2 == 1) = false) (w : World) :
    Calls Tryd.prog 8 #[val 1 x1 s1 r1, val k2 x2 s2 r2] w (Pl (false, 0) w) := by
  have h0 : (0 : Int) ≤ 1 := by decide
  have o1 : isObj 1 = false := by decide
  go_enter Tryd.func8, Tryd.ntmps8
  go_wp2_with fail
  have TT := hid (Two.new w 24 #[.int .u8 1, .float .f64 x1, .string s1, .int .i64 r1] #[.int .u8 k2, .float .f64 x2, .string s2, .int .i64 r2])
  have Bt := hid (below2 w (.cells #[.int .u8 1, .float .f64 x1, .string s1, .int .i64 r1] 24) (.cells #[.int .u8 k2, .float .f64 x2, .string s2, .int .i64 r2] 24))
  go_wp2_with (first | (go_at_call 26; first | ((with_reducible refine (rmay_any 1 x1 s1 r1 h0 _).mono ?_); rintro e wn ⟨rfl, hb⟩; have Bt := hid (grow Bt.out hb); have TT := hid (TT.out.on hb); clear hb; obtain ⟨a0, a1, a2, a3, b0, b1, b2, b3, fa, fb⟩ := TT.out.facts) | ((with_reducible refine (rmay_any k2 x2 s2 r2 g0 _).mono ?_); rintro e wn ⟨rfl, hb⟩; have Bt := hid (grow Bt.out hb); have TT := hid (TT.out.on hb); clear hb; obtain ⟨a0, a1, a2, a3, b0, b1, b2, b3, fa, fb⟩ := TT.out.facts)) | (go_at_call 27; refine (refObj_b _ _ _ _ _).mono ?_; rintro e wn ⟨rfl, hb⟩; have Bt := hid (grow Bt.out hb); have TT := hid (TT.out.on hb); clear hb; obtain ⟨a0, a1, a2, a3, b0, b1, b2, b3, fa, fb⟩ := TT.out.facts))
  go_ret2
  exact ⟨rfl, Bt.out⟩

set_option maxHeartbeats 4000000 in
set_option maxRecDepth 100000 in
theorem rplain_o3 (x1 : Nat) (s1 : ByteArray) (r1 : Int) (k2 : Int) (x2 : Nat) (s2 : ByteArray) (r2 : Int) (g0 : 0 ≤ k2) (m1 : mayV 3 x1 s1 r1 = true) (m2 : mayV k2 x2 s2 r2 = true) (o2 : isObj k2 = false) (hk2 : ((3 : Int) == k2) = false) (q2 : (k2 == 2) = false) (q3 : (k2 == 4) = false) (w : World) :
    Calls Tryd.prog 8 #[val 3 x1 s1 r1, val k2 x2 s2 r2] w (Pl (false, 0) w) := by
  have h0 : (0 : Int) ≤ 3 := by decide
  have o1 : isObj 3 = false := by decide
  go_enter Tryd.func8, Tryd.ntmps8
  go_wp2_with fail
  have TT := hid (Two.new w 24 #[.int .u8 3, .float .f64 x1, .string s1, .int .i64 r1] #[.int .u8 k2, .float .f64 x2, .string s2, .int .i64 r2])
  have Bt := hid (below2 w (.cells #[.int .u8 3, .float .f64 x1, .string s1, .int .i64 r1] 24) (.cells #[.int .u8 k2, .float .f64 x2, .string s2, .int .i64 r2] 24))
  go_wp2_with (first | (go_at_call 26; first | ((with_reducible refine (rmay_any 3 x1 s1 r1 h0 _).mono ?_); rintro e wn ⟨rfl, hb⟩; have Bt := hid (grow Bt.out hb); have TT := hid (TT.out.on hb); clear hb; obtain ⟨a0, a1, a2, a3, b0, b1, b2, b3, fa, fb⟩ := TT.out.facts) | ((with_reducible refine (rmay_any k2 x2 s2 r2 g0 _).mono ?_); rintro e wn ⟨rfl, hb⟩; have Bt := hid (grow Bt.out hb); have TT := hid (TT.out.on hb); clear hb; obtain ⟨a0, a1, a2, a3, b0, b1, b2, b3, fa, fb⟩ := TT.out.facts)) | (go_at_call 27; refine (refObj_b _ _ _ _ _).mono ?_; rintro e wn ⟨rfl, hb⟩; have Bt := hid (grow Bt.out hb); have TT := hid (TT.out.on hb); clear hb; obtain ⟨a0, a1, a2, a3, b0, b1, b2, b3, fa, fb⟩ := TT.out.facts))
  go_ret2
  exact ⟨rfl, Bt.out⟩

set_option maxHeartbeats 4000000 in
set_option maxRecDepth 100000 in
theorem rplain_o4 (x1 : Nat) (s1 : ByteArray) (r1 : Int) (k2 : Int) (x2 : Nat) (s2 : ByteArray) (r2 : Int) (g0 : 0 ≤ k2) (m1 : mayV 4 x1 s1 r1 = true) (m2 : mayV k2 x2 s2 r2 = true) (o2 : isObj k2 = false) (hk2 : ((4 : Int) == k2) = false) (q2 : (k2 == 2) = false) (q3 : (k2 == 3) = false) (w : World) :
    Calls Tryd.prog 8 #[val 4 x1 s1 r1, val k2 x2 s2 r2] w (Pl (false, 0) w) := by
  have h0 : (0 : Int) ≤ 4 := by decide
  have o1 : isObj 4 = false := by decide
  go_enter Tryd.func8, Tryd.ntmps8
  go_wp2_with fail
  have TT := hid (Two.new w 24 #[.int .u8 4, .float .f64 x1, .string s1, .int .i64 r1] #[.int .u8 k2, .float .f64 x2, .string s2, .int .i64 r2])
  have Bt := hid (below2 w (.cells #[.int .u8 4, .float .f64 x1, .string s1, .int .i64 r1] 24) (.cells #[.int .u8 k2, .float .f64 x2, .string s2, .int .i64 r2] 24))
  go_wp2_with (first | (go_at_call 26; first | ((with_reducible refine (rmay_any 4 x1 s1 r1 h0 _).mono ?_); rintro e wn ⟨rfl, hb⟩; have Bt := hid (grow Bt.out hb); have TT := hid (TT.out.on hb); clear hb; obtain ⟨a0, a1, a2, a3, b0, b1, b2, b3, fa, fb⟩ := TT.out.facts) | ((with_reducible refine (rmay_any k2 x2 s2 r2 g0 _).mono ?_); rintro e wn ⟨rfl, hb⟩; have Bt := hid (grow Bt.out hb); have TT := hid (TT.out.on hb); clear hb; obtain ⟨a0, a1, a2, a3, b0, b1, b2, b3, fa, fb⟩ := TT.out.facts)) | (go_at_call 27; refine (refObj_b _ _ _ _ _).mono ?_; rintro e wn ⟨rfl, hb⟩; have Bt := hid (grow Bt.out hb); have TT := hid (TT.out.on hb); clear hb; obtain ⟨a0, a1, a2, a3, b0, b1, b2, b3, fa, fb⟩ := TT.out.facts))
  go_ret2
  exact ⟨rfl, Bt.out⟩

set_option maxHeartbeats 4000000 in
set_option maxRecDepth 100000 in
theorem rplain_o5 (x1 : Nat) (s1 : ByteArray) (r1 : Int) (k2 : Int) (x2 : Nat) (s2 : ByteArray) (r2 : Int) (g0 : 0 ≤ k2) (m1 : mayV 5 x1 s1 r1 = true) (m2 : mayV k2 x2 s2 r2 = true) (o2 : isObj k2 = false) (hk2 : ((5 : Int) == k2) = false) (q2 : (k2 == 2) = false) (w : World) :
    Calls Tryd.prog 8 #[val 5 x1 s1 r1, val k2 x2 s2 r2] w (Pl (false, 0) w) := by
  have h0 : (0 : Int) ≤ 5 := by decide
  have o1 : isObj 5 = false := by decide
  go_enter Tryd.func8, Tryd.ntmps8
  go_wp2_with fail
  have TT := hid (Two.new w 24 #[.int .u8 5, .float .f64 x1, .string s1, .int .i64 r1] #[.int .u8 k2, .float .f64 x2, .string s2, .int .i64 r2])
  have Bt := hid (below2 w (.cells #[.int .u8 5, .float .f64 x1, .string s1, .int .i64 r1] 24) (.cells #[.int .u8 k2, .float .f64 x2, .string s2, .int .i64 r2] 24))
  go_wp2_with (first | (go_at_call 26; first | ((with_reducible refine (rmay_any 5 x1 s1 r1 h0 _).mono ?_); rintro e wn ⟨rfl, hb⟩; have Bt := hid (grow Bt.out hb); have TT := hid (TT.out.on hb); clear hb; obtain ⟨a0, a1, a2, a3, b0, b1, b2, b3, fa, fb⟩ := TT.out.facts) | ((with_reducible refine (rmay_any k2 x2 s2 r2 g0 _).mono ?_); rintro e wn ⟨rfl, hb⟩; have Bt := hid (grow Bt.out hb); have TT := hid (TT.out.on hb); clear hb; obtain ⟨a0, a1, a2, a3, b0, b1, b2, b3, fa, fb⟩ := TT.out.facts)) | (go_at_call 27; refine (refObj_b _ _ _ _ _).mono ?_; rintro e wn ⟨rfl, hb⟩; have Bt := hid (grow Bt.out hb); have TT := hid (TT.out.on hb); clear hb; obtain ⟨a0, a1, a2, a3, b0, b1, b2, b3, fa, fb⟩ := TT.out.facts))
  go_ret2
  exact ⟨rfl, Bt.out⟩

set_option maxHeartbeats 4000000 in
set_option maxRecDepth 100000 in
theorem rplain_2 (x1 : Nat) (s1 : ByteArray) (r1 : Int) (k2 : Int) (x2 : Nat) (s2 : ByteArray) (r2 : Int) (g0 : 0 ≤ k2) (m1 : mayV 2 x1 s1 r1 = true) (m2 : mayV k2 x2 s2 r2 = true) (o2 : isObj k2 = false) (hk2 : ((2 : Int) == k2) = false) (q : Bool × Int) (Rec : Hid (∀ W, Calls Tryd.prog 8 #[val 3 x1 ⟨#[]⟩ 0, val k2 x2 s2 r2] W (Pl q W))) (w : World) :
    Calls Tryd.prog 8 #[val 2 x1 s1 r1, val k2 x2 s2 r2] w (Pl q w) := by
  have h0 : (0 : Int) ≤ 2 := by decide
  have o1 : isObj 2 = false := by decide
  go_enter Tryd.func8, Tryd.ntmps8
  go_wp2_with fail
  have TT := hid (Two.new w 24 #[.int .u8 2, .float .f64 x1, .string s1, .int .i64 r1] #[.int .u8 k2, .float .f64 x2, .string s2, .int .i64 r2])
  have Bt := hid (below2 w (.cells #[.int .u8 2, .float .f64 x1, .string s1, .int .i64 r1] 24) (.cells #[.int .u8 k2, .float .f64 x2, .string s2, .int .i64 r2] 24))
  go_wp2_with (first | (go_at_call 26; first | ((with_reducible refine (rmay_any 2 x1 s1 r1 h0 _).mono ?_); rintro e wn ⟨rfl, hb⟩; have Bt := hid (grow Bt.out hb); have TT := hid (TT.out.on hb); clear hb; obtain ⟨a0, a1, a2, a3, b0, b1, b2, b3, fa, fb⟩ := TT.out.facts) | ((with_reducible refine (rmay_any k2 x2 s2 r2 g0 _).mono ?_); rintro e wn ⟨rfl, hb⟩; have Bt := hid (grow Bt.out hb); have TT := hid (TT.out.on hb); clear hb; obtain ⟨a0, a1, a2, a3, b0, b1, b2, b3, fa, fb⟩ := TT.out.facts)) | (go_at_call 27; refine (refObj_b _ _ _ _ _).mono ?_; rintro e wn ⟨rfl, hb⟩; have Bt := hid (grow Bt.out hb); have TT := hid (TT.out.on hb); clear hb; obtain ⟨a0, a1, a2, a3, b0, b1, b2, b3, fa, fb⟩ := TT.out.facts))
  go_region_held3 (fun w' => w'.cell? ⟨w.heap.size, 1, none⟩ = some (.float .f64 x1) ∧ w'.cell? ⟨w.heap.size + 1, 0, none⟩ = some (.int .u8 k2) ∧ w'.cell? ⟨w.heap.size + 1, 1, none⟩ = some (.float .f64 x2) ∧ w'.cell? ⟨w.heap.size + 1, 2, none⟩ = some (.string s2) ∧ w'.cell? ⟨w.heap.size + 1, 3, none⟩ = some (.int .i64 r2)) (first | exact ⟨a1, b0, b1, b2, b3⟩) (first | (go_at_call 28; refine (refNum_any _ _).mono ?_; rintro e wn ⟨rfl, hb⟩; have Bt := hid (show Below w.heap.size w _ from by first | exact grow Bt.out hb | exact grow Bt.out.drew hb); have TT := hid (by first | exact TT.out.on hb | exact TT.out.drew.on hb); clear hb; obtain ⟨a0, a1, a2, a3, b0, b1, b2, b3, fa, fb⟩ := TT.out.facts) | (go_at_call 8; refine (Rec.out _).mono ?_; rintro e wn ⟨rfl, hb⟩; have Bt := hid (show Below w.heap.size w _ from by first | exact grow Bt.out hb | exact grow Bt.out.drew hb); have TT := hid (by first | exact TT.out.on hb | exact TT.out.drew.on hb); clear hb; obtain ⟨a0, a1, a2, a3, b0, b1, b2, b3, fa, fb⟩ := TT.out.facts))
  all_goals
    go_wp2
    go_ret2
    exact ⟨rfl, Bt.out⟩

set_option maxHeartbeats 4000000 in
set_option maxRecDepth 100000 in
theorem rplain_b (k1 : Int) (x1 : Nat) (s1 : ByteArray) (r1 : Int) (x2 : Nat) (s2 : ByteArray) (r2 : Int) (h0 : 0 ≤ k1) (m1 : mayV k1 x1 s1 r1 = true) (m2 : mayV 2 x2 s2 r2 = true) (o1 : isObj k1 = false) (hk2 : (k1 == 2) = false) (q : Bool × Int) (Rec : Hid (∀ W, Calls Tryd.prog 8 #[val k1 x1 s1 r1, val 3 x2 ⟨#[]⟩ 0] W (Pl q W))) (w : World) :
    Calls Tryd.prog 8 #[val k1 x1 s1 r1, val 2 x2 s2 r2] w (Pl q w) := by
  have g0 : (0 : Int) ≤ 2 := by decide
  have o2 : isObj 2 = false := by decide
  go_enter Tryd.func8, Tryd.ntmps8
  go_wp2_with fail
  have TT := hid (Two.new w 24 #[.int .u8 k1, .float .f64 x1, .string s1, .int .i64 r1] #[.int .u8 2, .float .f64 x2, .string s2, .int .i64 r2])
  have Bt := hid (below2 w (.cells #[.int .u8 k1, .float .f64 x1, .string s1, .int .i64 r1] 24) (.cells #[.int .u8 2, .float .f64 x2, .string s2, .int .i64 r2] 24))
  go_wp2_with (first | (go_at_call 26; first | ((with_reducible refine (rmay_any k1 x1 s1 r1 h0 _).mono ?_); rintro e wn ⟨rfl, hb⟩; have Bt := hid (grow Bt.out hb); have TT := hid (TT.out.on hb); clear hb; obtain ⟨a0, a1, a2, a3, b0, b1, b2, b3, fa, fb⟩ := TT.out.facts) | ((with_reducible refine (rmay_any 2 x2 s2 r2 g0 _).mono ?_); rintro e wn ⟨rfl, hb⟩; have Bt := hid (grow Bt.out hb); have TT := hid (TT.out.on hb); clear hb; obtain ⟨a0, a1, a2, a3, b0, b1, b2, b3, fa, fb⟩ := TT.out.facts)) | (go_at_call 27; refine (refObj_b _ _ _ _ _).mono ?_; rintro e wn ⟨rfl, hb⟩; have Bt := hid (grow Bt.out hb); have TT := hid (TT.out.on hb); clear hb; obtain ⟨a0, a1, a2, a3, b0, b1, b2, b3, fa, fb⟩ := TT.out.facts))
  go_region_held3 (fun w' => w'.cell? ⟨w.heap.size, 0, none⟩ = some (.int .u8 k1) ∧ w'.cell? ⟨w.heap.size, 1, none⟩ = some (.float .f64 x1) ∧ w'.cell? ⟨w.heap.size, 2, none⟩ = some (.string s1) ∧ w'.cell? ⟨w.heap.size, 3, none⟩ = some (.int .i64 r1) ∧ w'.cell? ⟨w.heap.size + 1, 1, none⟩ = some (.float .f64 x2)) (first | exact ⟨a0, a1, a2, a3, b1⟩) (first | (go_at_call 28; refine (refNum_any _ _).mono ?_; rintro e wn ⟨rfl, hb⟩; have Bt := hid (show Below w.heap.size w _ from by first | exact grow Bt.out hb | exact grow Bt.out.drew hb); have TT := hid (by first | exact TT.out.on hb | exact TT.out.drew.on hb); clear hb; obtain ⟨a0, a1, a2, a3, b0, b1, b2, b3, fa, fb⟩ := TT.out.facts) | (go_at_call 8; refine (Rec.out _).mono ?_; rintro e wn ⟨rfl, hb⟩; have Bt := hid (show Below w.heap.size w _ from by first | exact grow Bt.out hb | exact grow Bt.out.drew hb); have TT := hid (by first | exact TT.out.on hb | exact TT.out.drew.on hb); clear hb; obtain ⟨a0, a1, a2, a3, b0, b1, b2, b3, fa, fb⟩ := TT.out.facts))
  all_goals
    go_wp2
    go_ret2
    exact ⟨rfl, Bt.out⟩

end Go.Proofs.YtecadaoncpminaaDoor
