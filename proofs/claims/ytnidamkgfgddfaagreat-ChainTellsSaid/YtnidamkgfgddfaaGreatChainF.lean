/-
  chain's functions over heaps that are told but for where their properties lie.
-/
import Derived.Test.YtnidamkgfgddfaaGreatChainP
namespace Go.Proofs.YtnidamkgfgddfaaGreat
open Go.RowKit

/-- A heap that can be read; one of a call's own. -/
def RdB (H : HI) (v : Value) (w : World) : Prop := ∃ h, bareH h = bareH H ∧ RdH h v w
def FrB (B : Nat) (H : HI) (v : Value) (w : World) : Prop := ∃ h, bareH h = bareH H ∧ FreshH B h v w
theorem FrB.rd {B : Nat} {H : HI} {v : Value} {w : World} (f : FrB B H v w) : RdB H v w := by
  obtain ⟨h, e, f⟩ := f
  exact ⟨h, e, f.rd⟩
theorem RdB.on {H : HI} {v : Value} {w w1 : World} (r : RdB H v w) (hb : Below w.heap.size w w1) : RdB H v w1 := by
  obtain ⟨h, e, r⟩ := r
  exact ⟨h, e, r.on hb⟩
theorem FrB.on {B : Nat} {H : HI} {v : Value} {w w1 : World} (f : FrB B H v w) (hb : Below w.heap.size w w1) : FrB B H v w1 := by
  obtain ⟨h, e, f⟩ := f
  exact ⟨h, e, f.on hb⟩
theorem FrB.low {B B' : Nat} {H : HI} {v : Value} {w : World} (f : FrB B H v w) (hb : B' ≤ B) : FrB B' H v w := by
  obtain ⟨h, e, f⟩ := f
  exact ⟨h, e, f.low hb⟩
theorem FrB.same {B : Nat} {H H' : HI} {v : Value} {w : World} (f : FrB B H v w) (e : bareH H = bareH H') : FrB B H' v w := by
  obtain ⟨h, e1, f⟩ := f
  exact ⟨h, e1.trans e, f⟩
theorem RdB.form {H : HI} {v : Value} {w : World} (r : RdB H v w) : ∃ p c, v = .slice p H.length c := by
  obtain ⟨h, e, ⟨pa, c, hv, _⟩, _⟩ := r
  exact ⟨pa, c, by rw [hv, bareH_length e]⟩
section
variable {H : HI} (hok : HOk H) (hk : HKeys H) {v : Value} {w : World} (hr : RdB H v w)
include hok hk hr
theorem check_fr : Calls Tryz.prog 35 #[.agg #[v]] w fun e w' => e = .returned (.int .i64 (chkH H)) ∧ Below w.heap.size w w' := by
  obtain ⟨h, e, r⟩ := hr
  rw [← chkH_same e]
  exact chk_any h (hok.same e) (hk.same e) v w r
theorem live_fr (n : Int) : Calls Tryz.prog 16 #[.agg #[v], .int .i64 n] w fun e w' => e = .returned (.tuple #[.bool (liveV H n), .int .i64 (askE H [n])]) ∧ Below w.heap.size w w' := by
  obtain ⟨h, e, r⟩ := hr
  rw [← liveV_same e, ← ask_same e]
  exact live_heap h (hok.same e) (hk.same e) v n w r
theorem deep_fr (n : Int) : Calls Tryz.prog 14 #[.agg #[v], .int .i64 n] w fun e w' => e = .returned (.tuple #[.int .i64 (deepV H n), .int .i64 (askE H [n])]) ∧ Below w.heap.size w w' := by
  obtain ⟨h, e, r⟩ := hr
  rw [← deep_same e, ← ask_same e]
  exact deep_heap h (hok.same e) (hk.same e) v n w r
theorem isarr_fr (n : Int) : Calls Tryz.prog 12 #[.agg #[v], .int .i64 n] w fun e w' => e = .returned (.tuple #[.bool (arrV H n), .int .i64 (arrE H n)]) ∧ Below w.heap.size w w' := by
  obtain ⟨h, e, r⟩ := hr
  rw [← arrV_same e, ← arrE_same e]
  exact isarr_heap h (hok.same e) (hk.same e) v n w r
theorem down_fr (n : Int) : Calls Tryz.prog 10 #[.agg #[v], .int .i64 n] w (DownQ H n w) := by
  obtain ⟨h, e, r⟩ := hr
  refine (down_heap h (hok.same e) (hk.same e) v n w r).mono fun e2 w' hq => ?_
  unfold DownQ at hq ⊢
  rwa [ask_same e, cut_same e, dwn_same e] at hq
/-- What Make comes to. -/
def mkE (H : HI) (n m : Int) : Int := if askE H [n, m] = 0 then (if goneB (objAt H n.toNat) || goneB (objAt H m.toNat) then 140 else if H.length = 4096 then 4 else 0) else askE H [n, m]
def MakeF (H : HI) (n m : Int) (w : World) (e : Ending) (w' : World) : Prop := Below w.heap.size w w' ∧
  ((mkE H n m ≠ 0 ∧ e = .returned (.tuple #[.agg #[.slice none 0 0], .int .i64 0, .int .i64 (mkE H n m)])) ∨
   (mkE H n m = 0 ∧ ∃ v2, e = .returned (.tuple #[.agg #[v2], .int .i64 H.length, .int .i64 0]) ∧ FrB w.heap.size (H ++ [(prxO H n.toNat m.toNat, [])]) v2 w'))
theorem make_fr (n m : Int) : Calls Tryz.prog 6 #[.agg #[v], .int .i64 n, .int .i64 m] w (MakeF H n m w) := by
  obtain ⟨h, e, r⟩ := hr
  refine (make_heap h (hok.same e) (hk.same e) v n m w r).mono fun e2 w' hq => ?_
  obtain ⟨hb, hq⟩ := hq
  have hl := bareH_length e
  rw [ask_same e, gone_same e, gone_same e, hl, prx_same e] at hq
  refine ⟨hb, ?_⟩
  unfold mkE
  rcases hq with ⟨h1, h2⟩ | ⟨h1, h2, h3⟩ | ⟨h1, h2, h3, h4⟩ | ⟨h1, h2, h3, h4, h5⟩ | ⟨h1, h2, h3, h4, h5⟩
  · rw [if_neg h1]; exact Or.inl ⟨h1, h2⟩
  · rw [if_pos h1, if_pos h2]; exact Or.inl ⟨by decide, h3⟩
  · rw [if_pos h1, if_neg (by rw [h2]; decide), if_pos h3]; exact Or.inl ⟨by decide, h4⟩
  · exfalso
    obtain ⟨hc, hn, hm⟩ := askE_two h1
    refine h4 ?_
    have e3 : bareH (h ++ [(prxO H n.toNat m.toNat, [])]) = bareH (H ++ [(prxO H n.toNat m.toNat, [])]) := by rw [bareH_append, bareH_append, e]
    rw [chkH_same e3]
    exact prx_ok hc h3 (by omega) (by omega)
  · rw [if_pos h1, if_neg (by rw [h2]; decide), if_neg h3]
    obtain ⟨h2', v2, he, hbr, hfr⟩ := h5
    exact Or.inr ⟨rfl, v2, he, h2', by rw [hbr, bareH_append, bareH_append, e], hfr⟩
/-- What Revoke comes to. -/
def rvE (H : HI) (n : Int) : Int := if askE H [n] = 0 then (if (objAt H n.toNat).kd = 6 then 0 else 2) else askE H [n]
def RevF (H : HI) (n : Int) (w : World) (e : Ending) (w' : World) : Prop := Below w.heap.size w w' ∧
  ((rvE H n ≠ 0 ∧ e = .returned (.tuple #[.agg #[.slice none 0 0], .int .i64 (rvE H n)])) ∨
   (rvE H n = 0 ∧ ∃ v2, e = .returned (.tuple #[.agg #[v2], .int .i64 0]) ∧ FrB w.heap.size (revH H n.toNat) v2 w'))
theorem revoke_fr (n : Int) : Calls Tryz.prog 8 #[.agg #[v], .int .i64 n] w (RevF H n w) := by
  obtain ⟨h, e, r⟩ := hr
  refine (revoke_heap h (hok.same e) (hk.same e) v n w r).mono fun e2 w' hq => ?_
  obtain ⟨hb, hq⟩ := hq
  rw [ask_same e, kd_same e] at hq
  refine ⟨hb, ?_⟩
  unfold rvE
  rcases hq with ⟨h1, h2⟩ | ⟨h1, h2, h3⟩ | ⟨h1, h2, h3⟩
  · rw [if_neg h1]; exact Or.inl ⟨h1, h2⟩
  · rw [if_pos h1, if_neg h2]; exact Or.inl ⟨by decide, h3⟩
  · rw [if_pos h1, if_pos h2]
    obtain ⟨h2', v2, he, hbr, hfr⟩ := h3
    exact Or.inr ⟨rfl, v2, he, h2', hbr.trans (rev_same e _), hfr⟩
end
theorem HOk.prx {H : HI} (hok : HOk H) (n m : Nat) : HOk (H ++ [(prxO H n m, [])]) := hok.push ⟨(by decide : (0 : Int) ≤ 6), (by decide : (0 : Int) ≤ 1), kind_nn _, kind_nn _⟩ (fun q hq => by cases hq)
theorem HKeys.prx {H : HI} (hk : HKeys H) (n m : Nat) : HKeys (H ++ [(prxO H n m, [])]) := hk.push (fun q hq => by cases hq)
theorem HOk.rev {H : HI} (hok : HOk H) (n : Nat) : HOk (revH H n) := fun e he => by
  unfold revH at he
  cases hq : H[n]? with
  | none => rw [hq] at he; exact hok e he
  | some x =>
    rw [hq] at he
    rcases List.mem_or_eq_of_mem_set he with h1 | h1
    · exact hok e h1
    · subst h1
      have := hok x (List.mem_of_getElem? hq)
      exact ⟨⟨this.1.1, this.1.2.1, (by decide : (0 : Int) ≤ 1), (by decide : (0 : Int) ≤ 1)⟩, this.2⟩
theorem HKeys.rev {H : HI} (hk : HKeys H) (n : Nat) : HKeys (revH H n) := fun e he => by
  unfold revH at he
  cases hq : H[n]? with
  | none => rw [hq] at he; exact hk e he
  | some x =>
    rw [hq] at he
    rcases List.mem_or_eq_of_mem_set he with h1 | h1
    · exact hk e h1
    · subst h1
      exact hk x (List.mem_of_getElem? hq)
end Go.Proofs.YtnidamkgfgddfaaGreat
