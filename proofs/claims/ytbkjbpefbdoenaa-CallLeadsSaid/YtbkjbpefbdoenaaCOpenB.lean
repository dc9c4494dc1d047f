/-
  Outcomes that came in, opened: with their bytes and the sizes of their keys.
-/
import Derived.Test.YtbkjbpefbdoenaaOpenC
import Derived.Test.YtbkjbpefbdoenaaCMayO
namespace Go.Proofs.Ytbkjbpefbdoenaa
open Go.ChangeShapes Go.WideShapes Go.ChangeAt Go.RowKit Go.Deep

theorem is_keyB {H : Type} {enc : TypeId × Value → H} {w : World} {base : Nat} {spare : Nat → Bool} {held : Bool} {cs : List Value} (h : Trods enc Try.prog w base spare held 38 cs) : ∃ k : KI, cs = k.cells ∧ k.s.size ≤ maxLen := by
  have hl : cs.length = 2 := (trods_len under_keyO h).trans (by kernel_rfl)
  obtain ⟨s, e0, s0⟩ := trods_string Try.underlying9 (trods_field 0 under_keyO h (T := 9) (o := 0) (n := 1) (by kernel_rfl) (by kernel_rfl))
  obtain ⟨n, e1, w1⟩ := trods_int Try.underlying3 (trods_field 1 under_keyO h (T := 3) (o := 1) (n := 1) (by kernel_rfl) (by kernel_rfl))
  have e : cs = [.string s, .int .i64 n] := by
    rw [show cs = cs.drop 0 from rfl]
    rw [seg cs 0 1 1 rfl, e0]
    rw [seg cs 1 1 2 rfl, e1]
    rw [List.drop_eq_nil_of_le (by omega)]
    rfl
  exact ⟨⟨s, n⟩, e, s0⟩
theorem is_keysB {H : Type} {enc : TypeId × Value → H} {w : World} {base : Nat} {spare : Nat → Bool} {held : Bool} {cs : List Value} (h : Trods enc Try.prog w base spare held 34 cs) : ∃ v l, cs = [v] ∧ RdL KI.cells 2 l v w ∧ ∀ k ∈ l, k.s.size ≤ maxLen := by
  rcases trods_slice Try.underlying34 h with rfl | ⟨a, len, cap, rfl, hl, hm, hx⟩
  · exact ⟨_, [], rfl, ⟨none, 0, rfl, Nat.le_refl _, Nat.zero_le _, fun h => absurd h (by decide)⟩, fun k hk => by cases hk⟩
  · rw [show Try.prog.cellsOf 38 = 2 by kernel_rfl] at hx
    obtain ⟨l, rfl, hok, hl2⟩ := list_at (w := w) (a := a) (len := len) (n := 2) KI.cells (fun k => k.s.size ≤ maxLen) (by decide) (fun _ => rfl) (fun i hi => by
      obtain ⟨cs', ht, hc⟩ := hx i hi
      obtain ⟨k, rfl, hs⟩ := is_keyB ht
      exact ⟨k, hs, hc⟩)
    exact ⟨_, l, rfl, ⟨some a, cap, rfl, hl, hm, hl2⟩, hok⟩
theorem is_outB {H : Type} {enc : TypeId × Value → H} {w : World} {base : Nat} {spare : Nat → Bool} {held : Bool} {cs : List Value} (h : Trods enc Try.prog w base spare held 36 cs) : ∃ (x : OI) (lk : List KI), cs = x.cs.toList ∧ 0 ≤ x.v.k ∧ x.d.ok ∧ 0 ≤ x.d.has ∧ x.d.has ≤ 255 ∧ RdL KI.cells 2 lk x.keys w ∧ ∀ k ∈ lk, k.s.size ≤ maxLen := by
  have hl : cs.length = 26 := (trods_len under_outO h).trans (by kernel_rfl)
  obtain ⟨kd, e0, w0⟩ := trods_int Try.underlying5 (trods_field 0 under_outO h (T := 5) (o := 0) (n := 1) (by kernel_rfl) (by kernel_rfl))
  obtain ⟨v, e1, k1⟩ := is_valO (trods_field 1 under_outO h (T := 24) (o := 1) (n := 4) (by kernel_rfl) (by kernel_rfl))
  obtain ⟨b, e2⟩ := trods_bool Try.underlying4 (trods_field 2 under_outO h (T := 4) (o := 5) (n := 1) (by kernel_rfl) (by kernel_rfl))
  obtain ⟨fo, e3⟩ := trods_bool Try.underlying4 (trods_field 3 under_outO h (T := 4) (o := 6) (n := 1) (by kernel_rfl) (by kernel_rfl))
  obtain ⟨d, e4, k4, b4⟩ := is_descO (trods_field 4 under_outO h (T := 33) (o := 7) (n := 16) (by kernel_rfl) (by kernel_rfl))
  obtain ⟨keys, l5, e5, r5, z5⟩ := is_keysB (trods_field 5 under_outO h (T := 34) (o := 23) (n := 1) (by kernel_rfl) (by kernel_rfl))
  obtain ⟨er, e6, w6⟩ := trods_int Try.underlying5 (trods_field 6 under_outO h (T := 5) (o := 24) (n := 1) (by kernel_rfl) (by kernel_rfl))
  obtain ⟨tx, e7, s7⟩ := trods_string Try.underlying9 (trods_field 7 under_outO h (T := 9) (o := 25) (n := 1) (by kernel_rfl) (by kernel_rfl))
  have e : cs = (OI.cs ⟨kd, v, b, fo, d, keys, er, tx⟩).toList := by
    rw [show cs = cs.drop 0 from rfl]
    rw [seg cs 0 1 1 rfl, e0]
    rw [seg cs 1 4 5 rfl, e1]
    rw [seg cs 5 1 6 rfl, e2]
    rw [seg cs 6 1 7 rfl, e3]
    rw [seg cs 7 16 23 rfl, e4]
    rw [seg cs 23 1 24 rfl, e5]
    rw [seg cs 24 1 25 rfl, e6]
    rw [seg cs 25 1 26 rfl, e7]
    rw [List.drop_eq_nil_of_le (by omega)]
    rfl
  exact ⟨⟨kd, v, b, fo, d, keys, er, tx⟩, l5, e, k1, k4, b4.1, b4.2, r5, z5⟩
/-- An outcome that came in, with its keys. -/
def OutOkB (e : OI × List KI) (w : World) : Prop := e.1.d.ok ∧ e.1.d.byte ∧ 0 ≤ e.1.v.k ∧ (∀ k ∈ e.2, k.s.size ≤ maxLen) ∧ RdL KI.cells 2 e.2 e.1.keys w
set_option maxRecDepth 100000 in
theorem open_outsB {H : Type} {enc : TypeId × Value → H} {w : World} {r : Reach} {b0 base : Nat} {spare : Nat → Bool} {held : Bool} {v : Value} {d : DataW H} {p : List MemPlace}
    (hv : Value.okWide Try.prog w r b0 26 v) (h : DataW.Trod enc Try.prog w base spare held 26 v d p) : ∃ l : List (OI × List KI), RdL (fun e : OI × List KI => e.1.cs.toList) 26 l v w ∧ ∀ e ∈ l, OutOkB e w := by
  obtain ⟨a0, n0, c0, rfl⟩ := okWide_slice Try.underlying26 hv
  obtain ⟨fuel, hf⟩ := h
  rcases trods_slice (cs := [.slice a0 n0 c0]) Try.underlying26 ⟨fuel, _, hf⟩ with h | ⟨a, len, cap, e, hl, hm, hx⟩
  · simp only [List.cons.injEq, and_true] at h
    rw [h]
    exact ⟨[], RdL.nil _ _ _, fun x hx => by cases hx⟩
  · rw [show Try.prog.cellsOf 36 = 26 by kernel_rfl] at hx
    obtain ⟨l, rfl, hok, hl2⟩ := list_at (w := w) (a := a) (len := len) (n := 26) (fun e : OI × List KI => e.1.cs.toList) (fun e => OutOkB e w) (by decide) (fun _ => rfl) (fun i hi => by
      obtain ⟨cs', ht, hc⟩ := hx i hi
      obtain ⟨x, lk, rfl, hk, hd, h1, h2, hr, hz⟩ := is_outB ht
      exact ⟨(x, lk), ⟨hd, ⟨h1, h2⟩, hk, hz, hr⟩, hc⟩)
    simp only [List.cons.injEq, and_true] at e
    rw [e]
    exact ⟨l, ⟨some a, cap, rfl, hl, hm, hl2⟩, hok⟩

end Go.Proofs.Ytbkjbpefbdoenaa
