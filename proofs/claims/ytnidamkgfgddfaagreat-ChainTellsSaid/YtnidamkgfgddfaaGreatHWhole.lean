/-
  May a heap be: heap.Check, whole.
-/
import Derived.Test.YtnidamkgfgddfaaGreatHLoops
namespace Go.Proofs.YtnidamkgfgddfaaGreat
open Go.RowKit

theorem allO_at {h : HI} {k : Nat} (ha : allO h k = true) {i : Nat} (hi : i < h.length) (hk : i < k) : objB h i (h[i]'hi) = true := by
  have := List.all_eq_true.1 ha i (List.mem_range.2 hk)
  rw [List.getElem?_eq_getElem hi] at this
  exact this
theorem inB_ref {h : HI} {v : VI} (hi : inB h v = true) (ho : isObj v.k = true) : 0 ≤ v.r ∧ v.r < (h.length : Int) := by
  unfold inB at hi
  rw [Bool.and_eq_true, ho] at hi
  refine ⟨may_ref hi.1 ho, ?_⟩
  have := hi.2
  simp only [Bool.not_true, Bool.false_or, Bool.and_eq_true, decide_eq_true_eq] at this
  exact this.1
theorem pr_of {h : HI} {n : Nat} {e : OJ × List PI} (ho : objB h n e = true) : (e.1.pr.k == 1) = true ∨ (isObj e.1.pr.k = true ∧ inB h e.1.pr = true) := by
  unfold objB at ho
  split at ho
  · left
    unfold prxB badX isV at ho
    cases hk : e.1.pr.k == 1
    · rw [hk] at ho; simp at ho
    · rfl
  · unfold plainB bad7 at ho
    cases hk : e.1.pr.k == 1
    · right
      rw [hk] at ho
      cases hi : isObj e.1.pr.k
      · rw [hi] at ho; simp at ho
      · cases hb : inB h e.1.pr
        · rw [hb] at ho; simp at ho
        · exact ⟨rfl, rfl⟩
    · exact Or.inl rfl
theorem good_of {h : HI} (ha : allO h h.length = true) : GoodN h ∧ ∀ i (hi : i < h.length), ((h[i]'hi).1.pr.k == 1) = false → 0 ≤ (h[i]'hi).1.pr.r := by
  have key : ∀ i (hi : i < h.length), ((h[i]'hi).1.pr.k == 1) = false → 0 ≤ (h[i]'hi).1.pr.r ∧ (h[i]'hi).1.pr.r < (h.length : Int) := by
    intro i hi hk
    rcases pr_of (allO_at ha hi hi) with h1 | ⟨h1, h2⟩
    · rw [h1] at hk; cases hk
    · exact inB_ref h2 h1
  refine ⟨fun i j hi hj => ?_, fun i hi hk => (key i hi hk).1⟩
  rw [nx_at hi] at hj
  split at hj
  · cases hj
  · rename_i hk
    have := key i hi (by simpa using hk)
    cases hj
    omega
/-- What is said of a heap. -/
def chkH (h : HI) : Int := heapE h (lpB h)
theorem chk_any (h : HI) (hok : HOk h) (hk : HKeys h) (hv : Value) (w : World) (hr : RdH h hv w) : Calls Tryz.prog 35 #[.agg #[hv]] w fun e w' => e = .returned (.int .i64 (chkH h)) ∧ Below w.heap.size w w' :=
  heapCheck_any h hok hk (lpB h) hv w hr fun hm ha W hb =>
    have hg := good_of ha
    loops_any h hg.1 hg.2 hv W (hr.on hb) hm
theorem chkH_ok {h : HI} (hc : chkH h = 0) : h.length ≤ 4096 ∧ allO h h.length = true ∧ lpB h = false := by
  unfold chkH heapE at hc
  split at hc
  · cases hc
  · rename_i hn
    split at hc
    · rename_i h1
      rw [Bool.and_eq_true, Bool.not_eq_true'] at h1
      exact ⟨by omega, h1⟩
    · cases hc
theorem chkH_of {h : HI} (h1 : h.length ≤ 4096) (h2 : allO h h.length = true) (h3 : lpB h = false) : chkH h = 0 := by
  unfold chkH heapE
  rw [if_neg (by omega), h2, h3]; rfl
end Go.Proofs.YtnidamkgfgddfaaGreat
