/-
  The walks of realm.Native and Number and of the reference's own.
-/
import Derived.Test.YtchpkopeblgifaaRealmNames
import Derived.Test.YtchpkopeblgifaaBlocks
import Derived.WalkSpells
import Derived.WalkLawsBesides
import Derived.Deep.QuietTactic
import Derived.BigQuiet
import Derived.Deep.RegionHeld3
import Derived.Test.YtchpkopeblgifaaLaw
namespace Go.Proofs.Ytchpkopeblgifaa
open Go.RowKit

set_option maxRecDepth 100000 in
theorem funcs_any (w : World) : Calls Try.prog 25 #[] w fun e w' => e = .returned (.agg funcsA) ∧ Below w.heap.size w w' := by
  go_enter Try.func25, Try.ntmps25
  go_wp2_with (first | (refine wpList_build_to rfl 61 _ rfl funcsA (by kernel_rfl) ?_) | (refine wpList_store_new rfl _ _ _ rfl funcsA _ _ rfl rfl (by kernel_rfl) (by rfl) (by kernel_rfl) ?_))
  refine bodyPost_ret (v := .agg funcsA) (results_cell_row Try.results25 _ _ w.heap.size _ funcsA _ _ rfl (alloc_at w _) Try.underlying61 rfl (by kernel_rfl)) rfl ⟨rfl, (Below.refl _ _).alloc (Nat.le_refl _) _⟩

set_option maxRecDepth 100000 in
theorem firsts_any (w : World) : Calls Try.prog 24 #[] w fun e w' => e = .returned (.agg firstsA) ∧ Below w.heap.size w w' := by
  go_enter Try.func24, Try.ntmps24
  go_wp2_with (first | (refine wpList_build_to rfl 59 _ rfl firstsA (by kernel_rfl) ?_) | (refine wpList_store_new rfl _ _ _ rfl firstsA _ _ rfl rfl (by kernel_rfl) (by rfl) (by kernel_rfl) ?_))
  refine bodyPost_ret (v := .agg firstsA) (results_cell_row Try.results24 _ _ w.heap.size _ firstsA _ _ rfl (alloc_at w _) Try.underlying59 rfl (by kernel_rfl)) rfl ⟨rfl, (Below.refl _ _).alloc (Nat.le_refl _) _⟩

/-- Is a number a native's? Which is its name? -/
def isN (n : Int) : Bool := decide (n = 1) || (decide (14 ≤ n) && decide (n < 72))
def nmN (n : Int) : ByteArray := if isN n then nm n.toNat else ⟨#[]⟩

set_option maxRecDepth 100000 in
theorem native_1 (n : Int) (h : n = 1 ∨ (14 ≤ n ∧ n < 24)) (w : World) : Calls Try.prog 7 #[.int .i64 n] w fun e w' => e = .returned (.tuple #[.string (nm n.toNat), .bool true]) ∧ Below w.heap.size w w' := by
  have hk : n.toNat < 24 := by omega
  have h0 : 0 ≤ n := by omega
  have h24 : n < 24 := by omega
  have hc := firstsA_get n.toNat hk
  have hc1 := firstsA_get 1 (by decide)
  rcases h with rfl | ⟨h, _⟩
  all_goals
    go_enter Try.func7, Try.ntmps7
    go_wp2_with fail
    refine (firsts_any _).mono ?_; rintro e w1 ⟨rfl, hb1⟩
    have Hb1 := hidN hb1
    clear hb1
    go_wp2_with fail
    refine (funcs_any _).mono ?_; rintro e w2 ⟨rfl, hb2⟩
    have Hb2 := hidN hb2
    clear hb2
    go_wp2_with (first | (refine wpList_store_new2 rfl _ _ _ rfl firstsA _ _ _ rfl rfl (by kernel_rfl) (by rfl) (by kernel_rfl) ?_) | (refine wpList_store_at rfl _ _ _ rfl _ (by simp) funcsA _ _ rfl rfl (by kernel_rfl) (by rfl) (by kernel_rfl) ?_))
    go_ret2
    exact ⟨rfl, ((grow Hb1.out Hb2.out).alloc (by have := Hb1.out.size; have := Hb2.out.size; omega) _).alloc (by have := Hb1.out.size; have := Hb2.out.size; simp; omega) _⟩

set_option maxRecDepth 100000 in
theorem native_2 (n : Int) (h : 24 ≤ n) (h72 : n < 72) (w : World) : Calls Try.prog 7 #[.int .i64 n] w fun e w' => e = .returned (.tuple #[.string (nm n.toNat), .bool true]) ∧ Below w.heap.size w w' := by
  have hc : funcsA[n.toNat - 24]? = some (.string (nm n.toNat)) := by
    rw [funcsA_get _ (by omega)]; congr 3; omega
  have hc' : funcsA[(n - 24).toNat]? = some (.string (nm n.toNat)) := by
    rw [funcsA_get _ (by omega)]; congr 3; omega
  go_enter Try.func7, Try.ntmps7
  go_wp2_with fail
  refine (firsts_any _).mono ?_; rintro e w1 ⟨rfl, hb1⟩
  have Hb1 := hidN hb1
  clear hb1
  go_wp2_with fail
  refine (funcs_any _).mono ?_; rintro e w2 ⟨rfl, hb2⟩
  have Hb2 := hidN hb2
  clear hb2
  go_wp2_with (first | (refine wpList_store_new2 rfl _ _ _ rfl firstsA _ _ _ rfl rfl (by kernel_rfl) (by rfl) (by kernel_rfl) ?_) | (refine wpList_store_at rfl _ _ _ rfl _ (by simp) funcsA _ _ rfl rfl (by kernel_rfl) (by rfl) (by kernel_rfl) ?_))
  go_ret2
  exact ⟨rfl, ((grow Hb1.out Hb2.out).alloc (by have := Hb1.out.size; have := Hb2.out.size; omega) _).alloc (by have := Hb1.out.size; have := Hb2.out.size; simp; omega) _⟩

set_option maxRecDepth 100000 in
theorem native_3 (n : Int) (h1 : (n == 1) = false) (h : n < 14 ∨ 72 ≤ n) (w : World) : Calls Try.prog 7 #[.int .i64 n] w fun e w' => e = .returned (.tuple #[.string ⟨#[]⟩, .bool false]) ∧ Below w.heap.size w w' := by
  rcases h with h | h
  all_goals
    go_enter Try.func7, Try.ntmps7
    go_wp2_with fail
    refine (firsts_any _).mono ?_; rintro e w1 ⟨rfl, hb1⟩
    have Hb1 := hidN hb1
    clear hb1
    go_wp2_with fail
    refine (funcs_any _).mono ?_; rintro e w2 ⟨rfl, hb2⟩
    have Hb2 := hidN hb2
    clear hb2
    go_wp2_with (first | (refine wpList_store_new2 rfl _ _ _ rfl firstsA _ _ _ rfl rfl (by kernel_rfl) (by rfl) (by kernel_rfl) ?_) | (refine wpList_store_at rfl _ _ _ rfl _ (by simp) funcsA _ _ rfl rfl (by kernel_rfl) (by rfl) (by kernel_rfl) ?_))
    go_ret2
    exact ⟨rfl, ((grow Hb1.out Hb2.out).alloc (by have := Hb1.out.size; have := Hb2.out.size; omega) _).alloc (by have := Hb1.out.size; have := Hb2.out.size; simp; omega) _⟩

theorem native_any (n : Int) (w : World) : Calls Try.prog 7 #[.int .i64 n] w fun e w' => e = .returned (.tuple #[.string (nmN n), .bool (isN n)]) ∧ Below w.heap.size w w' := by
  by_cases h1 : n = 1 ∨ (14 ≤ n ∧ n < 24)
  · have e : isN n = true := by unfold isN; simp; omega
    unfold nmN; rw [e]; exact native_1 n h1 w
  · by_cases h2 : 24 ≤ n ∧ n < 72
    · have e : isN n = true := by unfold isN; simp; omega
      unfold nmN; rw [e]; exact native_2 n h2.1 h2.2 w
    · have e : isN n = false := by unfold isN; simp; omega
      unfold nmN; rw [e]; exact native_3 n (by rw [beq_eq_false_iff_ne]; omega) (by omega) w

end Go.Proofs.Ytchpkopeblgifaa
