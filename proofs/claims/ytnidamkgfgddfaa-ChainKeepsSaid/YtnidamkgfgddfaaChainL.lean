/-
  Proxies in one another, as many as one likes, plainly.
-/
import Derived.Test.YtnidamkgfgddfaaChainQ
import Derived.Test.YtnidamkgfgddfaaChain6
namespace Go.Proofs.Ytnidamkgfgddfaa
open Go.RowKit

def atL (i : Nat) : Nat := if i = 0 then 0 else i + 1
/-- Two plain objects, and so many proxies in one another. -/
def longH : Nat → HI
  | 0 => twoH
  | i + 1 => longH i ++ [(prxO (longH i) (atL i) 1, [])]
theorem long_succ (i : Nat) : longH (i + 1) = longH i ++ [(prxO (longH i) (atL i) 1, [])] := rfl
theorem long_len : ∀ i, (longH i).length = i + 2
  | 0 => rfl
  | i + 1 => by rw [long_succ, List.length_append, long_len i]; rfl
theorem atL_lt (i : Nat) : atL i < (longH i).length := by rw [long_len]; unfold atL; split <;> omega
theorem atL_succ (i : Nat) : atL (i + 1) = (longH i).length := by rw [long_len]; unfold atL; rw [if_neg (by omega)]
theorem long_ok : ∀ i, HOk (longH i)
  | 0 => twoH_ok
  | i + 1 => (long_ok i).prx _ _
theorem long_keys : ∀ i, HKeys (longH i)
  | 0 => twoH_keys
  | i + 1 => (long_keys i).prx _ _
theorem chk_two : chkH twoH = 0 := by kernel_rfl
theorem long_chk : ∀ i, i ≤ 4000 → chkH (longH i) = 0
  | 0, _ => chk_two
  | i + 1, h => prx_ok (long_chk i (by omega)) (by rw [long_len]; omega) (atL_lt i) (by rw [long_len]; omega)
theorem long_fall {i : Nat} (h : i ≤ 4000) : FallH (longH i) := fall_of (chkH_ok (long_chk i h)).2.1
theorem long_one : ∀ i, objAt (longH i) 1 = twoO
  | 0 => rfl
  | i + 1 => by
    rw [long_succ]
    rw [objAt_push _ (by rw [long_len]; omega)]
    exact long_one i
theorem long_zero : ∀ i, objAt (longH i) 0 = twoO
  | 0 => rfl
  | i + 1 => by
    rw [long_succ]
    rw [objAt_push _ (by rw [long_len]; omega)]
    exact long_zero i
/-- The proxies, one by one. -/
theorem long_at : ∀ k j, j < k → objAt (longH k) (j + 2) = prxO (longH j) (atL j) 1
  | 0, _, h => by omega
  | k + 1, j, h => by
    rw [long_succ]
    by_cases hj : j < k
    · rw [objAt_push _ (by rw [long_len]; omega)]
      exact long_at k j hj
    · obtain rfl : j = k := by omega
      rw [show j + 2 = (longH j).length from (long_len j).symm, objAt_last]
theorem long_gone (i : Nat) : goneB (objAt (longH i) (atL i)) = false := by
  cases i with
  | zero => rw [show atL 0 = 0 from rfl, long_zero]; rfl
  | succ i =>
    rw [show atL (i + 1) = i + 2 from by unfold atL; rw [if_neg (by omega)], long_at (i + 1) i (by omega)]
    exact prx_gone _ _ _
theorem mk_long {i : Nat} (h : i ≤ 4000) : mkE (longH i) (atL i) 1 = 0 := by
  have hl := long_len i
  have ha := atL_lt i
  have e : askE (longH i) [(atL i : Int), 1] = 0 := by
    unfold askE
    rw [if_pos (long_chk i h), if_pos]
    simp only [List.all_cons, List.all_nil, Bool.and_true, Bool.and_eq_true, decide_eq_true_eq]
    omega
  unfold mkE
  rw [if_pos e, show ((atL i : Int)).toNat = atL i from Int.toNat_natCast _, show ((1 : Int)).toNat = 1 from rfl, long_gone, long_one, if_neg (by decide), if_neg (by rw [hl]; omega)]
theorem long_dwn : ∀ i, i ≤ 4000 → (dwn (longH i) (atL i)).length = i ∧ lst (longH i) (atL i) = 0 ∧ cutB (longH i) (atL i) = false
  | 0, _ => by
    have : liveB (objAt (longH 0) (atL 0)) = false := rfl
    have h1 := dwn_dead this
    exact ⟨by rw [h1.1]; rfl, h1.2, by unfold cutB; rw [h1.2]; rfl⟩
  | i + 1, h => by
    have ih := long_dwn i (by omega)
    have hl := long_len i
    have h1 := prx_dwn (long_chk i (by omega)) (by omega) (atL_lt i) (m := 1) (by omega)
    rw [atL_succ]
    rw [long_succ]
    rw [h1.1, h1.2.1, h1.2.2]
    exact ⟨by rw [List.length_cons, ih.1], ih.2.1, ih.2.2⟩
theorem ask_long {i : Nat} (h : i ≤ 4000) : askE (longH i) [(atL i : Int)] = 0 := askE_of (long_chk i h) (by omega) (by have := atL_lt i; omega)
theorem deep_long {i : Nat} (h : i ≤ 4000) : deepV (longH i) (atL i) = i := by
  unfold deepV
  rw [if_pos (ask_long h), Int.toNat_natCast, (long_dwn i h).1, (long_dwn i h).2.2]
  simp
theorem arrE_long {i : Nat} (h : i ≤ 4000) : arrE (longH i) (atL i) = if 64 < i then 140 else 0 := by
  unfold arrE
  rw [if_pos (ask_long h), Int.toNat_natCast, (long_dwn i h).1, (long_dwn i h).2.2]
  simp
theorem arrV_long {i : Nat} (h : i ≤ 4000) : arrV (longH i) (atL i) = false := by
  unfold arrV
  split
  · rw [Int.toNat_natCast, (long_dwn i h).2.1, long_zero]; rfl
  · rfl
theorem dwn_lastL {i : Nat} (h : i ≤ 4000) (h0 : 0 < i) : (dwn (longH i) (atL i))[i - 1]? = some 0 := by
  have h1 := (dwn_all (long_fall h) (atL i) (atL_lt i)).2.2.1
  rw [(long_dwn i h).1, (long_dwn i h).2.1] at h1
  obtain ⟨j, rfl⟩ : ∃ j, i = j + 1 := ⟨i - 1, by omega⟩
  simpa using h1
/-- One of the proxies revoked: it is met. -/
theorem rv_long {k a : Nat} (h : k ≤ 4000) (ha : a < k) : rvE (longH k) ((a + 2 : Nat) : Int) = 0 := by
  unfold rvE
  rw [if_pos (askE_of (long_chk k h) (by omega) (by rw [long_len]; omega)), Int.toNat_natCast, long_at k a ha]
  rfl
theorem rvl_chk {k a : Nat} (h : k ≤ 4000) (ha : a < k) : chkH (revH (longH k) (a + 2)) = 0 := rev_ok (long_chk k h) (by rw [long_at k a ha]; rfl)
theorem rvl_dwn {k a : Nat} (h : k ≤ 4000) (ha : a < k) : ∀ j, a ≤ j → j < k → (dwn (revH (longH k) (a + 2)) (j + 2)).length = j - a ∧ lst (revH (longH k) (a + 2)) (j + 2) = a + 2 := by
  have hn : a + 2 < (longH k).length := by rw [long_len]; omega
  have hf := fall_of (chkH_ok (rvl_chk h ha)).2.1
  intro j
  induction j with
  | zero =>
    intro h1 h2
    obtain rfl : a = 0 := by omega
    have := dwn_dead (live_rev hn)
    exact ⟨by rw [this.1]; rfl, this.2⟩
  | succ j ih =>
    intro h1 h2
    by_cases hj : a = j + 1
    · subst hj
      have := dwn_dead (live_rev hn)
      exact ⟨by rw [this.1]; simp, this.2⟩
    · have hi := ih (by omega) (by omega)
      have hob : objAt (revH (longH k) (a + 2)) (j + 1 + 2) = prxO (longH (j + 1)) (atL (j + 1)) 1 := by
        rw [objAt_rev hn, if_neg (by omega), long_at k (j + 1) h2]
      have hd := dwn_live hf (n := j + 1 + 2) (by rw [rev_len, long_len]; omega) (by rw [hob]; exact prx_live _ _ _)
      rw [hob, show (prxO (longH (j + 1)) (atL (j + 1)) 1).tg.r.toNat = atL (j + 1) from Int.toNat_natCast _, show atL (j + 1) = j + 2 from by unfold atL; rw [if_neg (by omega)]] at hd
      rw [hd.1, hd.2, List.length_cons, hi.1, hi.2]
      exact ⟨by omega, rfl⟩
theorem rvl_cut {k a : Nat} (h : k ≤ 4000) (ha : a < k) {j : Nat} (h1 : a ≤ j) (h2 : j < k) : cutB (revH (longH k) (a + 2)) (j + 2) = true := by
  unfold cutB
  rw [(rvl_dwn h ha j h1 h2).2]
  exact gone_rev (by rw [long_len]; omega) (by rw [long_at k a ha]; rfl)
end Go.Proofs.Ytnidamkgfgddfaa
