/-
  Tokens in memory: what their cells read as.
-/
import Derived.Test.YtkomjmgmancinaaDoorTokensWalk
namespace Go.Proofs.YtkomjmgmancinaaDoor
open Go.RowKit

theorem ne_isT {x y : Nat} {m n : Int} (h : Fl.Is x m) (k : Fl.Is y n) : (FloatKind.f64.format.order x y != some .eq) = !decide (m = n) := by
  rw [bne, Fl.order_is h k]; exact congrArg (!·) (Fl.compare_eq_iff m n)

/-- What a token's cells read as, out of a row of them. -/
theorem tok_loads {B : Nat} {l : List TC} {g c : Nat} {w : World} (h : RowT B l (.slice (some ⟨g, 0, none⟩) l.length c) w) (k : Nat) (hk : k < l.length) :
    w.cell? ⟨g, k * 4, none⟩ = some (.int .u8 l[k].k) ∧ w.cell? ⟨g, k * 4 + 1, none⟩ = some (.int .i64 l[k].p) ∧ w.cell? ⟨g, k * 4 + 2, none⟩ = some (.string l[k].text) ∧ w.cell? ⟨g, k * 4 + 3, none⟩ = some (.float .f64 l[k].num) := by
  have hc : ∀ f, f < 4 → w.cell? ⟨g, k * 4 + f, none⟩ = l[k].cells[f]? := fun f hf => by
    rw [h.cellAt (k * 4 + f) (by omega), cellsT_get l k f hk hf]
  exact ⟨hc 0 (by omega), hc 1 (by omega), hc 2 (by omega), hc 3 (by omega)⟩
theorem rowT_form {B : Nat} {l : List TC} {v : Value} {w : World} (h : RowT B l v w) : ∃ pa c, v = .slice pa l.length c ∧ (0 < l.length → ∃ g, pa = some ⟨g, 0, none⟩) := by
  obtain ⟨_, ⟨rfl, h0⟩ | ⟨g, cap, cur, rfl, _⟩⟩ := h
  · exact ⟨none, 0, by rw [h0], fun hh => absurd hh (by omega)⟩
  · exact ⟨_, _, rfl, fun _ => ⟨g, rfl⟩⟩
theorem text_eq {a b : ByteArray} {l : List UInt8} (h : a.data.toList = l) (k : b.data.toList = l) : b = a := by
  obtain ⟨⟨a⟩⟩ := a
  obtain ⟨⟨b⟩⟩ := b
  simp only at h k
  rw [h, k]

end Go.Proofs.YtkomjmgmancinaaDoor
