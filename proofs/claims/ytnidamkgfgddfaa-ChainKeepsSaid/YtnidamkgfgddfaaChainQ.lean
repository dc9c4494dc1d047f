/-
  Proxies revoked, and proxies in one another many times, plainly.
-/
import Derived.Test.YtnidamkgfgddfaaChainF
namespace Go.Proofs.Ytnidamkgfgddfaa
open Go.RowKit

theorem rev_len (h : HI) (n : Nat) : (revH h n).length = h.length := by
  unfold revH
  cases h[n]? with
  | none => rfl
  | some e => exact List.length_set
theorem rev_get (h : HI) (n i : Nat) : (revH h n)[i]? = if i = n then (h[i]?).map rvkE else h[i]? := by
  unfold revH
  cases hq : h[n]? with
  | none =>
    show h[i]? = _
    by_cases hi : i = n
    · subst hi; rw [if_pos rfl, hq]; rfl
    · rw [if_neg hi]
  | some e =>
    show (h.set n (rvkE e))[i]? = _
    rw [List.getElem?_set]
    by_cases hi : i = n
    · subst hi
      have hl := (List.getElem?_eq_some_iff.1 hq).1
      rw [if_pos rfl, if_pos rfl, if_pos hl, hq]; rfl
    · rw [if_neg (fun e => hi e.symm), if_neg hi]
theorem map_rev {β : Type} (f : OJ × List PI → β) (hf : ∀ e, f (rvkE e) = f e) (h : HI) (n i : Nat) : ((revH h n)[i]?).map f = (h[i]?).map f := by
  rw [rev_get]
  split
  · rw [Option.map_map]
    cases h[i]? with
    | none => rfl
    | some e => exact congrArg some (hf e)
  · rfl
theorem inB_rev (h : HI) (n : Nat) (v : VI) : inB (revH h n) v = inB h v := by
  unfold inB
  rw [rev_len, map_rev (fun e => kindO e.1) (fun _ => rfl)]
theorem objB_rev (h : HI) (n m : Nat) (e : OJ × List PI) : objB (revH h n) m e = objB h m e := by
  have h1 : ∀ v, inB (revH h n) v = inB h v := inB_rev h n
  have h2 : ∀ v, refB (revH h n) m v = refB h m v := fun v => by unfold refB; rw [h1]
  have h3 : prxB (revH h n) m e.1 e.2 = prxB h m e.1 e.2 := by
    unfold prxB
    rw [h2, h2, map_rev (fun x => x.1.ca == e.1.ca && x.1.ma == e.1.ma) (fun _ => rfl)]
  have h4 : plainB arrB boxB (revH h n) m e.1 e.2 = plainB arrB boxB h m e.1 e.2 := by
    have h5 : revB (revH h n) m e.1 = revB h m e.1 := by
      unfold revB
      rw [h1, map_rev (fun x => x.1.kd) (fun _ => rfl)]
    have h8 : propB (revH h n) = propB h := by funext q; unfold propB; rw [h1, h1, h1]
    unfold plainB bad5 bad7
    rw [h5, h1, h8]
  unfold objB
  rw [h3, h4]
theorem objB_rvk {h : HI} {m : Nat} {e : OJ × List PI} (hk : e.1.kd = 6) (ho : objB h m e = true) : objB h m (rvkE e) = true := by
  unfold objB at ho ⊢
  rw [if_pos hk] at ho
  rw [if_pos (show (rvkE e).1.kd = 6 from hk)]
  unfold prxB at ho ⊢
  rw [Bool.and_eq_true] at ho ⊢
  have e1 : isV nullI 1 = true := by kernel_rfl
  exact ⟨ho.1, by rw [show (rvkE e).1.tg = nullI from rfl, show (rvkE e).1.hd = nullI from rfl, e1]; rfl⟩
theorem nx_rev (h : HI) (n i : Nat) : nx (revH h n) i = nx h i := by
  unfold nx
  rw [rev_get]
  split
  · cases h[i]? <;> rfl
  · rfl
theorem ends_rev (h : HI) (n : Nat) : ∀ k i, ends (revH h n) k i = ends h k i
  | 0, _ => rfl
  | k + 1, i => by
    unfold ends
    rw [nx_rev]
    cases nx h i with
    | none => rfl
    | some j => exact ends_rev h n k j
theorem rev_ok {h : HI} (hc : chkH h = 0) {n : Nat} (hk : (objAt h n).kd = 6) : chkH (revH h n) = 0 := by
  obtain ⟨h1, h2, h3⟩ := chkH_ok hc
  refine chkH_of (by rw [rev_len]; exact h1) ?_ ?_
  · unfold allO
    rw [List.all_eq_true]
    intro i hi
    have hi2 := List.mem_range.1 hi
    rw [rev_len] at hi2
    rw [rev_get, List.getElem?_eq_getElem hi2]
    have ho := allO_at h2 hi2 hi2
    split
    · rename_i e
      subst e
      show objB (revH h i) i (rvkE (h[i]'hi2)) = true
      rw [objB_rev]
      rw [objAt_lt hi2] at hk
      exact objB_rvk hk ho
    · show objB (revH h n) i (h[i]'hi2) = true
      rw [objB_rev]; exact ho
  · unfold lpB at h3 ⊢
    rw [rev_len]
    rw [show (fun i => ends (revH h n) h.length i) = fun i => ends h h.length i from funext fun i => ends_rev h n _ i]
    exact h3
theorem objAt_rev {h : HI} {n : Nat} (hn : n < h.length) (i : Nat) : objAt (revH h n) i = if i = n then { objAt h n with tg := nullI, hd := nullI } else objAt h i := by
  unfold objAt
  rw [rev_get]
  split
  · rename_i e
    subst e
    rw [List.getElem?_eq_getElem hn]; rfl
  · rfl
theorem live_rev {h : HI} {n : Nat} (hn : n < h.length) : liveB (objAt (revH h n) n) = false := by
  rw [objAt_rev hn, if_pos rfl]
  unfold liveB
  show ((objAt h n).kd == 6 && !((1 : Int) == 1)) = false
  simp
theorem gone_rev {h : HI} {n : Nat} (hn : n < h.length) (hk : (objAt h n).kd = 6) : goneB (objAt (revH h n) n) = true := by
  rw [objAt_rev hn, if_pos rfl]
  unfold goneB
  show ((objAt h n).kd == 6 && ((1 : Int) == 1)) = true
  rw [hk]; rfl
/-! ### one proxy more -/
theorem objAt_push {h : HI} (x : OJ × List PI) {n : Nat} (hn : n < h.length) : objAt (h ++ [x]) n = objAt h n := by
  unfold objAt
  rw [List.getElem?_append_left hn]
theorem objAt_last (h : HI) (x : OJ × List PI) : objAt (h ++ [x]) h.length = x.1 := by
  unfold objAt
  rw [List.getElem?_append_right (Nat.le_refl _), Nat.sub_self]; rfl
theorem dwn_push {h : HI} (hf : FallH h) (x : OJ × List PI) (hf2 : FallH (h ++ [x])) : ∀ n, n < h.length → dwn (h ++ [x]) n = dwn h n ∧ lst (h ++ [x]) n = lst h n := by
  intro n
  induction n using Nat.strongRecOn with
  | _ n ih =>
    intro hn
    have hl : n < (h ++ [x]).length := by rw [List.length_append]; omega
    cases hv : liveB (objAt h n)
    · have h1 := dwn_dead hv
      have h2 := dwn_dead (h := h ++ [x]) (n := n) (by rw [objAt_push x hn]; exact hv)
      exact ⟨h2.1.trans h1.1.symm, h2.2.trans h1.2.symm⟩
    · have h1 := dwn_live hf hn hv
      have h2 := dwn_live hf2 hl (by rw [objAt_push x hn]; exact hv)
      have hr := hf n hn hv
      rw [objAt_push x hn] at h2
      have h3 := ih _ hr.2 (by omega)
      rw [h1.1, h1.2, h2.1, h2.2, h3.1, h3.2]
      exact ⟨rfl, rfl⟩
theorem kind_ne (o : OJ) : (kindO o == 1) = false := by
  unfold kindO
  split
  · rfl
  · split <;> rfl
theorem prx_live (h : HI) (n m : Nat) : liveB (prxO h n m) = true := by
  unfold liveB
  show (((6 : Int) == 6) && !(kindO (objAt h n) == 1)) = true
  rw [kind_ne]; rfl
theorem prx_gone (h : HI) (n m : Nat) : goneB (prxO h n m) = false := by
  unfold goneB
  show (((6 : Int) == 6) && (kindO (objAt h n) == 1)) = false
  rw [kind_ne]; rfl
/-- A new proxy is one deeper than its target. -/
theorem prx_dwn {h : HI} (hc : chkH h = 0) (hl : h.length ≠ 4096) {n m : Nat} (hn : n < h.length) (hm : m < h.length) : dwn (h ++ [(prxO h n m, [])]) h.length = n :: dwn h n ∧ lst (h ++ [(prxO h n m, [])]) h.length = lst h n ∧ cutB (h ++ [(prxO h n m, [])]) h.length = cutB h n := by
  have hc2 := prx_ok hc hl hn hm
  have hf := fall_of (chkH_ok hc).2.1
  have hf2 := fall_of (chkH_ok hc2).2.1
  have hlt : h.length < (h ++ [(prxO h n m, [])]).length := by simp
  have h1 := dwn_live hf2 hlt (by rw [objAt_last]; exact prx_live h n m)
  rw [objAt_last, show (prxO h n m).tg.r.toNat = n from Int.toNat_natCast n] at h1
  have h2 := dwn_push hf (prxO h n m, []) hf2 n hn
  have h3 : lst h n < h.length := (dwn_all hf n hn).1
  refine ⟨by rw [h1.1, h2.1], by rw [h1.2, h2.2], ?_⟩
  unfold cutB
  rw [h1.2, h2.2, objAt_push _ h3]
end Go.Proofs.Ytnidamkgfgddfaa
