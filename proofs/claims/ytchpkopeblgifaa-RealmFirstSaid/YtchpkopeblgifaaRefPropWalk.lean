/-
  What makes one property, the reference's own way.
-/
import Derived.Test.YtchpkopeblgifaaNewWalk
import Derived.Deep.QuietTactic
import Derived.BigQuiet
namespace Go.Proofs.Ytchpkopeblgifaa
open Go.RowKit

theorem refStr_any (s : ByteArray) (w : World) :
    Calls Try.prog 59 #[.string s] w fun e w' => e = .returned (val 4 0 s 0) ∧ Below w.heap.size w w' := by
  go_enter Try.func59, Try.ntmps59
  go_wp2
  exact bodyPost_ret (v := val 4 0 s 0) (by simp [results, Try.results59, go_sem]) rfl ⟨rfl, (Below.refl _ _).alloc (Nat.le_refl _) _⟩

set_option maxHeartbeats 1000000 in
set_option maxRecDepth 100000 in
theorem refProp_any (nm s : ByteArray) (k r : Int) (free : Bool) (w : World) : Calls Try.prog 58 #[.string nm, val k 0 s r, .bool free] w fun e w' => e = .returned (.agg #[.string nm, .int .i64 0, .int .u8 51, .int .u8 (k), .float .f64 0, .string s, .int .i64 (r), .int .u8 0, .float .f64 0, .string ⟨#[]⟩, .int .i64 0, .int .u8 0, .float .f64 0, .string ⟨#[]⟩, .int .i64 0, .bool free, .bool false, .bool free]) ∧ Below w.heap.size w w' := by
  have UU := hid (Bk.new2 w (.cells #[.int .u8 k, .float .f64 0, .string s, .int .i64 r] 33) 49 zeroProp)
  have Bt := hid (((Below.refl w.heap.size w).alloc (Nat.le_refl _) (.cells #[.int .u8 k, .float .f64 0, .string s, .int .i64 r] 33)).alloc (by simp) (.cells zeroProp 49))
  go_enter Try.func58, Try.ntmps58
  go_wp2_with (first | (refine wpList_build_to (by rfl) 47 _ (by rfl) #[.int .u8 51, .int .u8 (k), .float .f64 0, .string s, .int .i64 (r), .int .u8 0, .float .f64 0, .string ⟨#[]⟩, .int .i64 0, .int .u8 0, .float .f64 0, .string ⟨#[]⟩, .int .i64 0, .bool free, .bool false, .bool free] (by kernel_rfl) ?_) | (refine wpList_build_to (by rfl) 49 _ (by rfl) #[.string nm, .int .i64 0, .int .u8 51, .int .u8 (k), .float .f64 0, .string s, .int .i64 (r), .int .u8 0, .float .f64 0, .string ⟨#[]⟩, .int .i64 0, .int .u8 0, .float .f64 0, .string ⟨#[]⟩, .int .i64 0, .bool free, .bool false, .bool free] (by kernel_rfl) ?_) | (refine wpList_store_row (by rfl) 49 (.tmp 6) (.tmp 13) (by rfl) (w.heap.size + 1) (PR.cells ⟨nm, k, s, r, free⟩).toArray (by rfl) (by rfl) 49 zeroProp UU.out (by kernel_rfl) (by rfl) (PR.arr_one _) ?_))
  refine bodyPost_ret (v := .agg #[.string nm, .int .i64 0, .int .u8 51, .int .u8 (k), .float .f64 0, .string s, .int .i64 (r), .int .u8 0, .float .f64 0, .string ⟨#[]⟩, .int .i64 0, .int .u8 0, .float .f64 0, .string ⟨#[]⟩, .int .i64 0, .bool free, .bool false, .bool free]) (results_cell_row Try.results58 _ _ (w.heap.size + 1) 49 (PR.cells ⟨nm, k, s, r, free⟩).toArray (0, 0) _ rfl (UU.out.setRow _) Try.underlying49 rfl (by kernel_rfl)) rfl ⟨rfl, below_setRow Bt.out (Nat.le_succ _) _⟩

/-- Whose prototype: -1: nobody's. -/
def mkI (n : Nat) : Int := if isMk n then mk n else -1
def mkA : Array Value := #[.int .i64 (-1), .int .i64 (-1), .int .i64 (-1), .int .i64 15, .int .i64 20, .int .i64 21, .int .i64 22, .int .i64 16, .int .i64 17, .int .i64 18, .int .i64 19]
theorem mkA_get (n : Nat) (h : n ≤ 10) : mkA[n]? = some (.int .i64 (mkI n)) := by
  match n, h with
  | 0, _ => rfl
  | 1, _ => rfl
  | 2, _ => rfl
  | 3, _ => rfl
  | 4, _ => rfl
  | 5, _ => rfl
  | 6, _ => rfl
  | 7, _ => rfl
  | 8, _ => rfl
  | 9, _ => rfl
  | 10, _ => rfl
theorem mkI_great {n : Nat} (h : 10 < n) : mkI n = -1 := by
  unfold mkI isMk; rw [if_neg (by simp; omega)]

set_option maxHeartbeats 1000000 in
set_option maxRecDepth 100000 in
theorem maker_any (n : Nat) (w : World) : Calls Try.prog 57 #[.int .i64 n] w fun e w' => e = .returned (.int .i64 (mkI n)) ∧ Below w.heap.size w w' := by
  by_cases hn : n ≤ 10
  · have hcell : (w.alloc (.cells mkA 98)).cell? ⟨w.heap.size, n, none⟩ = some (.int .i64 (mkI n)) := ((Bk.new w 98 mkA).cell n).trans (mkA_get n hn)
    have h1 : ¬ (10 : Int) < n := by omega
    go_enter Try.func57, Try.ntmps57
    go_wp2_with (first | (refine wpList_build_to (by rfl) 98 _ (by rfl) mkA (by kernel_rfl) ?_) | (refine wpList_store_new (by rfl) 98 (.tmp 3) (.tmp 4) (by rfl) mkA _ _ (by rfl) (by rfl) (by kernel_rfl) (by rfl) (by kernel_rfl) ?_))
    go_ret
    exact ⟨rfl, box1 _ _⟩
  · have h1 : (10 : Int) < n := by omega
    rw [mkI_great (by omega)]
    go_enter Try.func57, Try.ntmps57
    go_wp2_with (first | (refine wpList_build_to (by rfl) 98 _ (by rfl) mkA (by kernel_rfl) ?_) | (refine wpList_store_new (by rfl) 98 (.tmp 3) (.tmp 4) (by rfl) mkA _ _ (by rfl) (by rfl) (by kernel_rfl) (by rfl) (by kernel_rfl) ?_))
    go_ret
    exact ⟨rfl, box1 _ _⟩

theorem tab11 : ((List.range 48).all fun i => (List.range (nm (24 + i)).size).all fun j => decide (j < ldN i) || ((((nm (24 + i)).data.getD j 0).toNat == 46) == (j == ldN i))) = true := by decide +kernel
theorem dot_at (i j : Nat) (hi : i < 48) (hj : j < (nm (24 + i)).size) (hl : ldN i ≤ j) : (((nm (24 + i))[j].toNat : Int) == 46) = (j == ldN i) := by
  have h := at24 (at24 tab11 hi) hj
  rw [decide_eq_false (by omega), Bool.false_or, beq_iff_eq] at h
  rw [← h, show (nm (24 + i)).data.getD j 0 = (nm (24 + i))[j] from by
    show (if h : _ then _ else _) = _
    rw [dif_pos (show j < (nm (24 + i)).data.size from hj)]; rfl]
  rw [Bool.eq_iff_iff, beq_iff_eq, beq_iff_eq]; omega

set_option maxHeartbeats 1000000 in
set_option maxRecDepth 100000 in
theorem cut_any (i : Nat) (hi : i < 48) (w : World) : Calls Try.prog 60 #[.string (nm (24 + i))] w fun e w' => e = .returned (.tuple #[.string (ow i), .string (wd i)]) ∧ Below w.heap.size w w' := by
  have h10 := at24 tab10 hi
  simp only [Bool.and_eq_true, decide_eq_true_eq] at h10
  have hl1 : ldN i + 1 ≤ (nm (24 + i)).size := h10.1.2
  have hl2 : (nm (24 + i)).size ≤ 100 := h10.2
  clear h10
  have D := hid (fun j hj hl => dot_at i j hi hj hl)
  have O : Hid (ow i = (nm (24 + i)).extract 0 (ldN i)) := hid rfl
  have W : Hid (wd i = (nm (24 + i)).extract (ldN i + 1) (nm (24 + i)).size) := hid rfl
  rw [O.out, W.out]
  clear O W
  generalize ldN i = d at *
  generalize nm (24 + i) = s at *
  go_enter Try.func60, Try.ntmps60
  go_wp2_with fail
  go_loop [4] (fun t => ∃ j : Nat, d ≤ j ∧ j < s.size ∧ t = .int .i64 j) (fun t => (intOf t).toNat)
  case atStart => exact ⟨s.size - 1, by omega, by omega, by go_num⟩
  case round =>
    obtain ⟨j, h1, h2, rfl⟩ := hrel
    have hd := D.out j h2 h1
    by_cases hj : j = d
    · subst hj
      rw [beq_self_eq_true] at hd
      have hw1 : IntKind.i64.wrap ((j : Int) + 1) = (j : Int) + 1 := IntWalk.i64_in _ (by omega)
      have hw2 : (0 : Int) ≤ (j : Int) + 1 := by omega
      have hw3 : ((j : Int) + 1).toNat = j + 1 := by omega
      have hw5 : (j : Int) + 1 ≤ (s.size : Int) := by omega
      have hw6 : (j : Int) ≤ (s.size : Int) := by omega
      go_upto_region 5 with fail
      go_quiet (fail)
      go_wp2_with fail
      go_ret2
      exact ⟨rfl, below_drewN (Below.refl _ _) _⟩
    · rw [beq_eq_false_iff_ne.2 hj] at hd
      go_wp2_with fail
      go_round
      case rel => exact ⟨j - 1, by omega, by omega, by go_num⟩
      case measure => simp [intOf]; omega

end Go.Proofs.Ytchpkopeblgifaa
