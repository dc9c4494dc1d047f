/-
  Chains of prototypes: those that come to an end, plainly.
-/
import Derived.Test.YtbmaodlghglopaaGreatDoorMxO
namespace Go.Proofs.YtbmaodlghglopaaGreatDoor
open Go.RowKit

/-- The prototype of an object, if it has one. -/
def nx (h : HI) (i : Nat) : Option Nat := (h[i]?).bind fun e => if e.1.pr.k == 1 then none else some e.1.pr.r.toNat
/-- What is come to in some steps. -/
def itN (h : HI) (i : Nat) : Nat → Option Nat
  | 0 => some i
  | k + 1 => (itN h i k).bind (nx h)
/-- In just so many steps an object without a prototype is come to. -/
def EndN (h : HI) (i d : Nat) : Prop := ∃ x, itN h i d = some x ∧ nx h x = none
/-- All prototypes stand in the heap. -/
def GoodN (h : HI) : Prop := ∀ i j, i < h.length → nx h i = some j → j < h.length
theorem nx_at {h : HI} {i : Nat} (hi : i < h.length) : nx h i = if (h[i]'hi).1.pr.k == 1 then none else some (h[i]'hi).1.pr.r.toNat := by
  unfold nx
  rw [List.getElem?_eq_getElem hi]
  rfl
theorem itN_succ (h : HI) (i k : Nat) : itN h i (k + 1) = (itN h i k).bind (nx h) := rfl
theorem itN_add (h : HI) (i a b : Nat) : itN h i (a + b) = (itN h i a).bind (fun x => itN h x b) := by
  induction b with
  | zero => rw [Nat.add_zero]; cases itN h i a <;> rfl
  | succ b ih =>
    rw [← Nat.add_assoc, itN_succ, ih]
    cases itN h i a <;> rfl
theorem EndN.one {h : HI} {i d d' : Nat} (a : EndN h i d) (b : EndN h i d') : d = d' := by
  obtain ⟨x, h1, h2⟩ := a
  obtain ⟨y, h3, h4⟩ := b
  rcases Nat.lt_trichotomy d d' with hl | hl | hl
  · obtain ⟨e, rfl⟩ : ∃ e, d' = d + 1 + e := ⟨d' - d - 1, by omega⟩
    rw [itN_add, itN_succ, h1] at h3
    simp only [Option.bind_some, h2, Option.bind_none] at h3
    cases h3
  · exact hl
  · obtain ⟨e, rfl⟩ : ∃ e, d = d' + 1 + e := ⟨d - d' - 1, by omega⟩
    rw [itN_add, itN_succ, h3] at h1
    simp only [Option.bind_some, h4, Option.bind_none] at h1
    cases h1
theorem EndN.step {h : HI} {i d k x : Nat} (a : EndN h i d) (hx : itN h i k = some x) : ∃ e, EndN h x e ∧ d = k + e := by
  obtain ⟨y, h1, h2⟩ := a
  rcases Nat.lt_or_ge d k with hl | hl
  · obtain ⟨e, rfl⟩ : ∃ e, k = d + 1 + e := ⟨k - d - 1, by omega⟩
    rw [itN_add, itN_succ, h1] at hx
    simp only [Option.bind_some, h2, Option.bind_none] at hx
    cases hx
  · obtain ⟨e, rfl⟩ : ∃ e, d = k + e := ⟨d - k, by omega⟩
    rw [itN_add, hx] at h1
    exact ⟨e, ⟨y, h1, h2⟩, rfl⟩
theorem EndN.back {h : HI} {i k x d : Nat} (hx : itN h i k = some x) (a : EndN h x d) : EndN h i (k + d) := by
  obtain ⟨y, h1, h2⟩ := a
  exact ⟨y, by rw [itN_add, hx]; exact h1, h2⟩
/-- Whatever is met twice leads nowhere. -/
theorem noEnd {h : HI} {i j k x : Nat} (hjk : j < k) (hj : itN h i j = some x) (hk : itN h i k = some x) : ¬ ∃ d, EndN h i d := by
  rintro ⟨d, a⟩
  obtain ⟨e1, a1, h1⟩ := a.step hj
  obtain ⟨e2, a2, h2⟩ := a.step hk
  have := a1.one a2
  omega
theorem itN_lt {h : HI} (hg : GoodN h) {i : Nat} (hi : i < h.length) : ∀ k x, itN h i k = some x → x < h.length
  | 0, x, hx => by cases hx; exact hi
  | k + 1, x, hx => by
    rw [itN_succ] at hx
    cases hk : itN h i k with
    | none => rw [hk] at hx; cases hx
    | some y =>
      rw [hk] at hx
      exact hg y x (itN_lt hg hi k y hk) hx
/-- What is met on a way's first steps. -/
def wayN (h : HI) (i : Nat) : Nat → List Nat
  | 0 => []
  | k + 1 => wayN h i k ++ (itN h i k).toList
theorem mem_wayN {h : HI} {i x : Nat} : ∀ {k : Nat}, x ∈ wayN h i k ↔ ∃ j, j < k ∧ itN h i j = some x
  | 0 => by simp [wayN]
  | k + 1 => by
    unfold wayN
    rw [List.mem_append, mem_wayN]
    constructor
    · rintro (⟨j, hj, e⟩ | hx)
      · exact ⟨j, by omega, e⟩
      · exact ⟨k, by omega, by simpa [Option.mem_toList] using hx⟩
    · rintro ⟨j, hj, e⟩
      rcases Nat.lt_or_ge j k with hl | hl
      · exact Or.inl ⟨j, hl, e⟩
      · obtain rfl : j = k := by omega
        exact Or.inr (by simp [e])
theorem wayN_length {h : HI} {i : Nat} : ∀ {k : Nat}, (∀ j, j < k → (itN h i j).isSome) → (wayN h i k).length = k
  | 0, _ => rfl
  | k + 1, hs => by
    unfold wayN
    rw [List.length_append, wayN_length (fun j hj => hs j (by omega))]
    have := hs k (by omega)
    cases hk : itN h i k with
    | none => rw [hk] at this; cases this
    | some x => rfl
/-- Numbers below a bound, none twice, are no more than the bound. -/
theorem nodup_le : ∀ (n : Nat) (l : List Nat), l.Nodup → (∀ x ∈ l, x < n) → l.length ≤ n
  | 0, [], _, _ => Nat.le_refl _
  | 0, a :: l, _, h => absurd (h a (by simp)) (by omega)
  | n + 1, l, hn, h => by
    have h1 := nodup_le n (l.filter (· != n)) (hn.filter _) (fun x hx => by
      have := (List.mem_filter.1 hx)
      have h2 := h x this.1
      have h3 : x ≠ n := by simpa using this.2
      omega)
    have h2 : l.length ≤ (l.filter (· != n)).length + 1 := by
      clear h1 h
      induction l with
      | nil => simp
      | cons a l ih =>
        have hc := List.nodup_cons.1 hn
        by_cases ha : a = n
        · subst ha
          rw [List.filter_cons_of_neg (by simp)]
          have : l.filter (· != a) = l := List.filter_eq_self.2 (fun x hx => by
            have : x ≠ a := fun e => hc.1 (e ▸ hx)
            simpa using this)
          rw [this]; simp
        · rw [List.filter_cons_of_pos (by simpa using ha)]
          have := ih hc.2
          simp; omega
    omega
/-- Does a chain end, in at most so many steps? -/
def ends (h : HI) : Nat → Nat → Bool
  | 0, _ => false
  | k + 1, i => match nx h i with
    | none => true
    | some j => ends h k j
theorem ends_of {h : HI} : ∀ {k i d : Nat}, EndN h i d → d < k → ends h k i = true
  | 0, _, _, _, h => by omega
  | k + 1, i, d, a, hd => by
    unfold ends
    cases hn : nx h i with
    | none => rfl
    | some j =>
      obtain ⟨e, a1, h1⟩ := a.step (k := 1) (x := j) (by rw [itN_succ]; exact hn)
      exact ends_of a1 (by omega)
theorem of_ends {h : HI} : ∀ {k i : Nat}, ends h k i = true → ∃ d, EndN h i d
  | 0, _, e => by cases e
  | k + 1, i, e => by
    unfold ends at e
    cases hn : nx h i with
    | none => exact ⟨0, i, rfl, hn⟩
    | some j =>
      rw [hn] at e
      obtain ⟨d, a⟩ := of_ends e
      exact ⟨1 + d, EndN.back (k := 1) (by rw [itN_succ]; exact hn) a⟩
theorem EndN.lt {h : HI} (hg : GoodN h) {i d : Nat} (hi : i < h.length) (a : EndN h i d) : d < h.length := by
  have hs : ∀ j, j < d + 1 → (itN h i j).isSome := fun j hj => by
    obtain ⟨x, h1, _⟩ := a
    obtain ⟨e, rfl⟩ : ∃ e, d = j + e := ⟨d - j, by omega⟩
    rw [itN_add] at h1
    cases hk : itN h i j with
    | none => rw [hk] at h1; cases h1
    | some x => rfl
  have hl := wayN_length hs
  have hnd : ∀ k, k ≤ d + 1 → (wayN h i k).Nodup := fun k => by
    induction k with
    | zero => intro _; simp [wayN]
    | succ k ih =>
      intro hk
      unfold wayN
      rw [List.nodup_append]
      refine ⟨ih (by omega), by cases itN h i k <;> simp, ?_⟩
      intro x hx y hy
      rintro rfl
      obtain ⟨j, hj, e⟩ := mem_wayN.1 hx
      exact noEnd hj e (by simpa [Option.mem_toList] using hy) ⟨d, a⟩
  have := nodup_le h.length _ (hnd (d + 1) (Nat.le_refl _)) (fun x hx => by
    obtain ⟨j, hj, e⟩ := mem_wayN.1 hx
    exact itN_lt hg hi j x e)
  omega
/-- Does some object stand behind itself? -/
def lpB (h : HI) : Bool := !(List.range h.length).all (fun i => ends h h.length i)
theorem lpB_no {h : HI} (hg : GoodN h) : lpB h = false ↔ ∀ i, i < h.length → ∃ d, EndN h i d := by
  unfold lpB
  rw [Bool.not_eq_false', List.all_eq_true]
  constructor
  · intro ha i hi
    exact of_ends (ha i (List.mem_range.2 hi))
  · intro ha i hi
    obtain ⟨d, a⟩ := ha i (List.mem_range.1 hi)
    exact ends_of a (a.lt hg (List.mem_range.1 hi))
theorem lpB_yes {h : HI} (hg : GoodN h) {i : Nat} (hi : i < h.length) (hn : ¬ ∃ d, EndN h i d) : lpB h = true := by
  cases hl : lpB h with
  | true => rfl
  | false => exact absurd ((lpB_no hg).1 hl i hi) hn
end Go.Proofs.YtbmaodlghglopaaGreatDoor
