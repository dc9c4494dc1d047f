/-
  The walk of the law on natives' names and numbers, and the host's names.
-/
import Derived.Test.YtchpkopeblgifaaNamesWalk
namespace Go.Proofs.Ytchpkopeblgifaa
open Go.RowKit

theorem symbols_any (w : World) : Calls Try.prog 14 #[] w fun e w' => e = .returned (.slice (some ⟨w.heap.size, 0, none⟩) 1 1) ∧ w.alloc (.cells #[.string ⟨#[116, 111, 80, 114, 105, 109, 105, 116, 105, 118, 101]⟩] 9) = w' := by
  go_enter Try.func14, Try.ntmps14
  go_wp2
  go_ret
  exact ⟨rfl, rfl⟩

/-- The parts of the host's values. -/
def vk : Nat → Int
  | 0 => 0
  | 1 => 3
  | i + 2 => kd (hp (i + 2))
def vn : Nat → Int
  | 0 => 0
  | 1 => 0
  | i + 2 => hp (i + 2)
def vx (r : Nat) : Nat → Nat
  | 1 => r
  | _ => 0
theorem vitem_eq (r i : Nat) : vitem r i = objC (vk i) (vn i) (vx r i) := by
  match i with
  | 0 => rfl
  | 1 => rfl
  | i + 2 => rfl
theorem vx_same {r r' : Nat} (h : Fl.isNaN r = true) (h' : Fl.isNaN r' = true) (i : Nat) : Fl.same (vx r i) (vx r' i) = true := by
  match i with
  | 0 => exact Fl.same_self 0
  | 1 => exact Fl.same_of_nan h h'
  | i + 2 => exact Fl.same_self 0
theorem lists_at {w : World} {g gv r : Nat} (h : Lists w g gv r) {j : Nat} (hj : j < 15) : w.cell? ⟨g, j, none⟩ = some (.string (hW j)) ∧ w.cell? ⟨gv, j * 4, none⟩ = some (.int .u8 (vk j)) ∧ w.cell? ⟨gv, j * 4 + 1, none⟩ = some (.float .f64 (vx r j)) ∧
    w.cell? ⟨gv, j * 4 + 2, none⟩ = some (.string ⟨#[]⟩) ∧ w.cell? ⟨gv, j * 4 + 3, none⟩ = some (.int .i64 (vn j)) := by
  obtain ⟨h1, h2, h3⟩ := h
  refine ⟨h2 j hj, ?_, ?_, ?_, ?_⟩
  · have := h3 (j * 4 + 0) (by omega); rw [vals_get r 15 j 0 hj (by decide), vitem_eq] at this; exact this
  · have := h3 (j * 4 + 1) (by omega); rw [vals_get r 15 j 1 hj (by decide), vitem_eq] at this; exact this
  · have := h3 (j * 4 + 2) (by omega); rw [vals_get r 15 j 2 hj (by decide), vitem_eq] at this; exact this
  · have := h3 (j * 4 + 3) (by omega); rw [vals_get r 15 j 3 hj (by decide), vitem_eq] at this; exact this

theorem lists_below {w w' : World} {g gv r : Nat} (h : Lists w g gv r) (hb : Below w.heap.size w w') : Lists w' g gv r := by
  obtain ⟨h1, h2, h3⟩ := h
  refine ⟨h1, fun i hi => ?_, fun j hj => ?_⟩
  · rw [← h2 i hi]
    refine hb.cell ?_
    have := h2 i hi
    exact World.block_lt_of_cell? _ _ this
  · rw [← h3 j hj]
    refine hb.cell ?_
    obtain ⟨u, hu⟩ : ∃ u, (vals r 15)[j]? = some u := ⟨_, List.getElem?_eq_getElem (by rw [vals_length]; omega)⟩
    exact World.block_lt_of_cell? _ _ ((h3 j hj).trans hu)

set_option maxHeartbeats 1000000 in
set_option maxRecDepth 100000 in
theorem law_called (n : Int) (s : ByteArray) (w : World) :
    Calls Try.prog 3 #[.int .i64 n, .string s] w fun e w' => e = .returned (.bool true) ∧ Below w.heap.size w w' := by
  go_enter Try.func3, Try.ntmps3
  go_wp2_with fail
  refine (native_any n _).mono ?_; rintro e w1 ⟨rfl, hb1⟩
  go_wp2_with fail
  refine (refNative_any n _).mono ?_; rintro e w2 ⟨rfl, hb2⟩
  have hb := grow hb1 hb2
  clear hb1 hb2
  go_wp2_with fail
  refine (number_any s _).mono ?_; rintro e w3 ⟨k, b, rfl, q1, hb1⟩
  go_wp2_with fail
  refine (refNumber_any s _).mono ?_; rintro e w4 ⟨k', b', rfl, q2, hb2⟩
  obtain ⟨rfl, rfl⟩ := numR_one q1 q2
  have hb := grow (grow hb hb1) hb2
  clear hb1 hb2 q1 q2
  go_wp2_with fail
  refine (names_any _).mono ?_; rintro e w5 ⟨g1, v1, c1, r1, rfl, L1, hb1⟩
  go_wp2_with fail
  refine (refNames_any _).mono ?_; rintro e w6 ⟨g2, v2, c2, r2, rfl, L2, hb2⟩
  have L1 := lists_below L1 hb2
  have hb := grow (grow hb hb1) hb2
  have L1' := hidN L1
  have L2' := hidN L2
  have Hb := hidN hb
  clear hb1 hb2 hb L1 L2
  go_wp2_with fail
  go_loopw [17] (fun i wr => ∃ k : Nat, k ≤ 15 ∧ i = .int .i64 k ∧ Below w6.heap.size w6 wr) (fun i _ => 15 - (intOf i).toNat)
  case atStart => exact ⟨0, by omega, rfl, Below.refl _ _⟩
  case round =>
    obtain ⟨j, hj, rfl, hbel⟩ := hrel
    have Hbel := hidN hbel
    clear hbel
    by_cases hlt : j < 15
    · go_wp2_with fail
      obtain ⟨m0, m1, m2, m3, m4⟩ := lists_at (lists_below L1'.out Hbel.out) hlt
      obtain ⟨n0, n1, n2, n3, n4⟩ := lists_at (lists_below L2'.out Hbel.out) hlt
      have l1 := World.block_lt_of_cell? _ _ m0
      have l2 := World.block_lt_of_cell? _ _ m1
      have l3 := World.block_lt_of_cell? _ _ n0
      have l4 := World.block_lt_of_cell? _ _ n1
      simp only at l1 l2 l3 l4
      have Hs := hidN (vx_same L1'.out.1 L2'.out.1 j)
      go_region_held3 (fun w' => w'.cell? ⟨g1, j, none⟩ = some (.string (hW j)) ∧ w'.cell? ⟨g2, j, none⟩ = some (.string (hW j)) ∧ w'.cell? ⟨v1, j * 4, none⟩ = some (.int .u8 (vk j)) ∧ w'.cell? ⟨v1, j * 4 + 1, none⟩ = some (.float .f64 (vx r1 j)) ∧
        w'.cell? ⟨v1, j * 4 + 2, none⟩ = some (.string ⟨#[]⟩) ∧ w'.cell? ⟨v1, j * 4 + 3, none⟩ = some (.int .i64 (vn j)) ∧ w'.cell? ⟨v2, j * 4, none⟩ = some (.int .u8 (vk j)) ∧ w'.cell? ⟨v2, j * 4 + 1, none⟩ = some (.float .f64 (vx r2 j)) ∧
        w'.cell? ⟨v2, j * 4 + 2, none⟩ = some (.string ⟨#[]⟩) ∧ w'.cell? ⟨v2, j * 4 + 3, none⟩ = some (.int .i64 (vn j))) ((first | (refine ⟨?_, ?_, ?_, ?_, ?_, ?_, ?_, ?_, ?_, ?_⟩ <;> (refine (hc7 _ _ ?_).trans ?_ <;> assumption)) | simp [go_sem, *]))
        ((go_at_call 13; refine (alike_of _ _ _ _ _ Hs.out _).mono ?_; rintro e w7 ⟨rfl, hb7⟩; obtain ⟨hc7, hf7⟩ := bcell hb7; have Hb7 := hidN hb7; clear hb7))
      have hbel7 : Below w6.heap.size w6 w7 := (Hbel.out.drew).trans (Hb7.out.mono Hbel.out.size)
      have Hbel7 := hidN hbel7
      clear hbel7 m0 m1 m2 m3 m4 n0 n1 n2 n3 n4
      go_wp2_with fail
      go_roundw
      case rel => exact ⟨j + 1, by omega, by go_num, Hbel7.out⟩
      case measure => simp [intOf]; omega
    · go_wp2_with fail
      refine (symbols_any _).mono ?_; rintro e w7 ⟨rfl, rfl⟩
      go_wp2_with fail
      go_ret
      exact ⟨rfl, (Hb.out.trans (Hbel.out.mono Hb.out.size)).alloc (by have := Hb.out.size; have := Hbel.out.size; omega) _⟩

end Go.Proofs.Ytchpkopeblgifaa
