/-
  Tokens that are written, with gaps between, are read back; what tokens a text is cut into (plain).
-/
import Derived.Test.YtkomjmgmancinaaDoorBackTok
namespace Go.Proofs.YtkomjmgmancinaaDoor
open Go.RowKit

/-! ### as many steps as are needed -/

theorem bl32 : isBl 32 = true := by decide
theorem bl10 : isBl 10 = true := by decide
theorem bl9 : isBl 9 = true := by decide
theorem nb47 : isBl 47 = false := by decide
theorem headR_step {L : List UInt8} {n : Nat} (h : headR L = .skip n) : 0 < n ∧ n ≤ L.length := by
  cases L with
  | nil => cases h
  | cons c r =>
    rw [headR] at h
    split at h
    · cases h; simp
    · split at h
      · rename_i hc
        cases h
        refine ⟨?_, (List.takeWhile_prefix _).length_le⟩
        rw [List.takeWhile_cons, if_pos (by rw [hc.1]; decide)]; simp
      · split at h
        · split at h
          · rename_i hi
            cases h
            refine ⟨by omega, ?_⟩
            have := Lib.index_room _ _ hi
            simp only [List.length_drop, List.length_cons, List.length_nil] at this ⊢
            omega
          · cases h
        · cases h
theorem len_pos_of_head {L : List UInt8} {n : Nat} (h : headR L = .skip n) : 0 < L.length := by
  have := headR_step h; omega

theorem lexGo_fuel : ∀ (f g : Nat) (L : List UInt8) (p : Nat) (acc : List Tk), L.length < f → L.length < g → lexGo f L p acc = lexGo g L p acc := by
  intro f
  induction f with
  | zero => intro g L p acc h; omega
  | succ f ih =>
    intro g L p acc h1 h2
    obtain ⟨g, rfl⟩ : ∃ g', g = g' + 1 := ⟨g - 1, by omega⟩
    by_cases h0 : 0 < L.length
    · cases hh : headR L with
      | skip n =>
        have hn := headR_step hh
        rw [lexGo_skip h0 hh, lexGo_skip h0 hh]
        exact ih g _ _ _ (by rw [List.length_drop]; omega) (by rw [List.length_drop]; omega)
      | unclosed => rw [lexGo_unclosed h0 hh, lexGo_unclosed h0 hh]
      | tok =>
        cases hk : (tokR L).ok with
        | false => rw [lexGo_bad h0 hh hk, lexGo_bad h0 hh hk]
        | true =>
          by_cases ha : acc.length = 16384
          · rw [lexGo_many h0 hh hk _ _ _ ha, lexGo_many h0 hh hk _ _ _ ha]
          · have hn := tokR_bounds h0 hk
            rw [lexGo_tok h0 hh hk _ _ _ ha, lexGo_tok h0 hh hk _ _ _ ha]
            exact ih g _ _ _ (by rw [List.length_drop]; omega) (by rw [List.length_drop]; omega)
    · have : L = [] := List.length_eq_zero_iff.1 (by omega)
      subst this
      rfl
/-- A text cut from a place on. -/
def lexF (L : List UInt8) (p : Nat) (acc : List Tk) : List Tk × Nat × Int := lexGo (L.length + 1) L p acc
theorem lexF_nil (p : Nat) (acc : List Tk) : lexF [] p acc = (acc ++ [⟨0, p, [], 0⟩], 0, 0) := rfl
theorem lexF_skip {L : List UInt8} {n : Nat} (h : headR L = .skip n) (p : Nat) (acc : List Tk) : lexF L p acc = lexF (L.drop n) (p + n) acc := by
  have hn := headR_step h
  unfold lexF
  rw [lexGo_skip (len_pos_of_head h) h]
  exact lexGo_fuel _ _ _ _ _ (by rw [List.length_drop]; omega) (Nat.lt_succ_self _)
theorem lexF_tok {L : List UInt8} (h0 : 0 < L.length) (h : headR L = .tok) (hk : (tokR L).ok = true) (p : Nat) (acc : List Tk) (ha : acc.length ≠ 16384) : lexF L p acc = lexF (L.drop (tokR L).n) (p + (tokR L).n) (acc ++ [⟨(tokR L).k, p, (tokR L).text, (tokR L).num⟩]) := by
  have hn := tokR_bounds h0 hk
  unfold lexF
  rw [lexGo_tok h0 h hk _ _ _ ha]
  exact lexGo_fuel _ _ _ _ _ (by rw [List.length_drop]; omega) (Nat.lt_succ_self _)

/-! ### tokens written are read back -/

theorem tok_step {t : TI} (hm : mayB t = true) {r : List UInt8} (hr : Gap r) (p : Nat) (acc : List Tk) (ha : acc.length ≠ 16384) : ∃ k : Tk, Like t k ∧ lexF (pieceR t ++ r) p acc = lexF r (p + (pieceR t).length) (acc ++ [k]) := by
  obtain ⟨num, h1, h2, h3, h4⟩ := tok_back hm hr
  refine ⟨⟨t.k, p, t.text.data.toList, num⟩, ⟨rfl, rfl, h4⟩, ?_⟩
  rw [lexF_tok (by rw [List.length_append]; omega) h2 (by rw [h3]) p acc ha, h3]
  simp only
  rw [List.drop_left]

/-- Tokens that were read are those that were written. -/
def Likes : List TI → List Tk → Prop
  | [], [] => True
  | t :: ts, k :: ks => Like t k ∧ Likes ts ks
  | _, _ => False
theorem likes_length : ∀ {ts : List TI} {ks : List Tk}, Likes ts ks → ts.length = ks.length
  | [], [], _ => rfl
  | _ :: _, _ :: _, h => by simp [likes_length h.2]
  | [], _ :: _, h => h.elim
  | _ :: _, [], h => h.elim
theorem likes_append : ∀ {ts us : List TI} {ks ls : List Tk}, Likes ts ks → Likes us ls → Likes (ts ++ us) (ks ++ ls)
  | [], _, [], _, _, h => h
  | _ :: _, _, _ :: _, _, h, k => ⟨h.1, likes_append h.2 k⟩
  | [], _, _ :: _, _, h, _ => h.elim
  | _ :: _, _, [], _, h, _ => h.elim
theorem likes_get : ∀ {ts : List TI} {ks : List Tk} (_ : Likes ts ks) (i : Nat) (hi : i < ts.length) (hj : i < ks.length), Like ts[i] ks[i]
  | t :: ts, k :: ks, h, 0, _, _ => h.1
  | t :: ts, k :: ks, h, i + 1, hi, hj => by simpa using likes_get h.2 i (by simpa using hi) (by simpa using hj)
  | [], _, _, i, hi, _ => by simp at hi
  | _ :: _, [], h, _, _, _ => h.elim
theorem end_like {t : TI} (h : endB t = true) (p : Nat) : Like t ⟨0, p, [], 0⟩ := by
  unfold endB at h
  simp only [Bool.and_eq_true, decide_eq_true_eq, List.isEmpty_iff] at h
  exact ⟨h.1.symm, h.2.1.symm, fun c hc => eq_zero h.2.2 hc⟩

/-- Tokens in a text, a blank between (the first with none ahead). -/
def joinP : Bool → List TI → List UInt8
  | _, [] => []
  | b, t :: ts => (if b then [] else [32]) ++ pieceR t ++ joinP false ts
theorem joinP_gap (ts : List TI) : Gap (joinP false ts) := by
  cases ts with
  | nil => exact gap_nil
  | cons t ts => exact gap_cons _
theorem writeGo_some : ∀ (ts : List TI) (b : Bool) (acc s : List UInt8), writeGo ts b acc = some s → s = acc ++ joinP b ts ∧ (acc.length ≤ 65536 → s.length ≤ 65536) := by
  intro ts
  induction ts with
  | nil => intro b acc s h; rw [writeGo] at h; cases h; simp [joinP]
  | cons t ts ih =>
    intro b acc s h
    rw [writeGo] at h
    by_cases hl : 65536 < (acc ++ (if b = true then [] else [32]) ++ pieceR t).length
    · rw [if_pos hl] at h; cases h
    · rw [if_neg hl] at h
      obtain ⟨h1, h2⟩ := ih _ _ _ h
      refine ⟨?_, fun _ => h2 (by omega)⟩
      rw [h1, joinP]
      simp only [List.append_assoc]
theorem back_join : ∀ (ts : List TI) (b : Bool) (p : Nat) (acc : List Tk), (∀ t ∈ ts, mayB t = true) → acc.length + ts.length ≤ 16384 → ∃ ks, Likes ts ks ∧ lexF (joinP b ts) p acc = (acc ++ ks ++ [⟨0, p + (joinP b ts).length, [], 0⟩], 0, 0) := by
  intro ts
  induction ts with
  | nil => intro b p acc _ _; exact ⟨[], trivial, by simp [joinP, lexF_nil]⟩
  | cons t ts ih =>
    intro b p acc hm hl
    have step : ∀ q : Nat, ∃ ks, Likes (t :: ts) ks ∧ lexF (pieceR t ++ joinP false ts) q acc = (acc ++ ks ++ [⟨0, q + (pieceR t ++ joinP false ts).length, [], 0⟩], 0, 0) := by
      intro q
      obtain ⟨k, hk, e⟩ := tok_step (hm t List.mem_cons_self) (joinP_gap ts) q acc (by simp at hl; omega)
      obtain ⟨ks, h1, h2⟩ := ih false (q + (pieceR t).length) (acc ++ [k]) (fun x hx => hm x (List.mem_cons_of_mem _ hx)) (by simp at hl ⊢; omega)
      refine ⟨k :: ks, ⟨hk, h1⟩, ?_⟩
      rw [e, h2, List.length_append]
      simp [Nat.add_assoc]
    cases b with
    | true =>
      obtain ⟨ks, h1, h2⟩ := step p
      refine ⟨ks, h1, ?_⟩
      show lexF (pieceR t ++ joinP false ts) p acc = (acc ++ ks ++ [⟨0, p + (pieceR t ++ joinP false ts).length, [], 0⟩], 0, 0)
      exact h2
    | false =>
      obtain ⟨ks, h1, h2⟩ := step (p + 1)
      refine ⟨ks, h1, ?_⟩
      show lexF (32 :: (pieceR t ++ joinP false ts)) p acc = (acc ++ ks ++ [⟨0, p + (32 :: (pieceR t ++ joinP false ts)).length, [], 0⟩], 0, 0)
      rw [lexF_skip (n := 1) (headR_blank (by simp) bl32)]
      show lexF (pieceR t ++ joinP false ts) (p + 1) acc = _
      rw [h2, List.length_cons, show p + 1 + (pieceR t ++ joinP false ts).length = p + ((pieceR t ++ joinP false ts).length + 1) by omega]

theorem lexR_F {L : List UInt8} (h : L.length ≤ 65536) : lexR L = lexF L 0 [] := by unfold lexR lexF; rw [if_neg (by omega)]

theorem getLast_split {l : List TI} {t : TI} (h : l.getLast? = some t) : l = l.dropLast ++ [t] := by
  have hne : l ≠ [] := by rintro rfl; cases h
  rw [List.getLast?_eq_some_getLast hne] at h
  cases h
  exact (List.dropLast_concat_getLast hne).symm
/-- What is written well. -/
theorem writeR_ok {l : List TI} (h : (writeR l).2 = 0) : ∃ t, l = l.dropLast ++ [t] ∧ endB t = true ∧ (∀ x ∈ l.dropLast, mayB x = true) ∧ l.dropLast.length ≤ 16384 ∧ (writeR l).1 = joinP true l.dropLast ∧ (writeR l).1.length ≤ 65536 := by
  unfold writeR at h ⊢
  split at h
  · cases h
  · rename_i h1
    split at h
    · cases h
    · rename_i h2
      split at h
      · cases h
      · rename_i h3
        rw [if_neg h1, if_neg h2, if_neg h3]
        cases hw : writeGo l.dropLast true [] with
        | none => rw [hw] at h; cases h
        | some s =>
          obtain ⟨e1, e2⟩ := writeGo_some _ _ _ _ hw
          cases hg : l.getLast? with
          | none => rw [hg] at h2; exact absurd rfl h2
          | some t =>
            rw [hg] at h2
            simp only [Option.map_some, Option.getD_some, Bool.not_eq_false] at h2
            refine ⟨t, getLast_split hg, h2, ?_, by rw [List.length_dropLast]; omega, by simpa using e1, e2 (by simp)⟩
            intro x hx
            exact List.all_eq_true.1 (by simpa using h3) x hx
theorem write_back {l : List TI} (h : (writeR l).2 = 0) : ∃ ks, lexR (writeR l).1 = (ks, 0, 0) ∧ Likes l ks := by
  obtain ⟨t, h1, h2, h3, h4, h5, h6⟩ := writeR_ok h
  obtain ⟨ks, k1, k2⟩ := back_join l.dropLast true 0 [] h3 (by simpa using h4)
  rw [lexR_F h6, h5, k2]
  refine ⟨_, rfl, ?_⟩
  rw [h1]
  rw [List.dropLast_concat]
  exact likes_append (by simpa using k1) ⟨end_like h2 _, trivial⟩

/-! ### gaps with comments -/

def gapS : List UInt8 := [32, 47, 42, 32, 59, 32, 42, 47, 10, 9]
theorem index_gap (r : List UInt8) : Lib.index (32 :: 59 :: 32 :: 42 :: 47 :: 10 :: 9 :: r) [42, 47] = 3 := by
  rcases Lib.index_spec (32 :: 59 :: 32 :: 42 :: 47 :: 10 :: 9 :: r) [42, 47] with ⟨_, h2⟩ | ⟨i, h1, _, h3, h4⟩
  · have := h2 3 (by simp)
    have e : Lib.occAt (32 :: 59 :: 32 :: 42 :: 47 :: 10 :: 9 :: r) [42, 47] 3 = true := rfl
    rw [e] at this; cases this
  · rw [h1]
    have e : Lib.occAt (32 :: 59 :: 32 :: 42 :: 47 :: 10 :: 9 :: r) [42, 47] 3 = true := rfl
    by_cases hi : i = 3
    · subst hi; rfl
    · exfalso
      by_cases hl : 3 < i
      · have := h4 3 hl
        rw [e] at this; cases this
      · have : i = 0 ∨ i = 1 ∨ i = 2 := by omega
        rcases this with rfl | rfl | rfl
        · have e : Lib.occAt (32 :: 59 :: 32 :: 42 :: 47 :: 10 :: 9 :: r) [42, 47] 0 = false := rfl
          rw [e] at h3; cases h3
        · have e : Lib.occAt (32 :: 59 :: 32 :: 42 :: 47 :: 10 :: 9 :: r) [42, 47] 1 = false := rfl
          rw [e] at h3; cases h3
        · have e : Lib.occAt (32 :: 59 :: 32 :: 42 :: 47 :: 10 :: 9 :: r) [42, 47] 2 = false := rfl
          rw [e] at h3; cases h3
theorem gap_pass (r : List UInt8) (p : Nat) (acc : List Tk) : lexF (gapS ++ r) p acc = lexF r (p + 10) acc := by
  show lexF (32 :: 47 :: 42 :: 32 :: 59 :: 32 :: 42 :: 47 :: 10 :: 9 :: r) p acc = _
  rw [lexF_skip (n := 1) (headR_blank (by simp) bl32)]
  show lexF (47 :: 42 :: 32 :: 59 :: 32 :: 42 :: 47 :: 10 :: 9 :: r) (p + 1) acc = _
  have hn : headR (47 :: 42 :: 32 :: 59 :: 32 :: 42 :: 47 :: 10 :: 9 :: r) = .skip 7 := by
    rw [headR_note (by simp) nb47 (by rw [Bool.eq_false_iff, ne_eq, slash_eq]; rintro ⟨_, h⟩; exact absurd (Option.some.inj h) (by decide)) ((slash_eq _ _ _).2 ⟨rfl, rfl⟩)]
    show (if 0 ≤ Lib.index (32 :: 59 :: 32 :: 42 :: 47 :: 10 :: 9 :: r) [42, 47] then Hd.skip ((Lib.index (32 :: 59 :: 32 :: 42 :: 47 :: 10 :: 9 :: r) [42, 47]).toNat + 4) else Hd.unclosed) = _
    rw [index_gap]; rfl
  rw [lexF_skip hn]
  show lexF (10 :: 9 :: r) (p + 1 + 7) acc = _
  rw [lexF_skip (n := 1) (headR_blank (by simp) bl10)]
  show lexF (9 :: r) (p + 1 + 7 + 1) acc = _
  rw [lexF_skip (n := 1) (headR_blank (by simp) bl9)]
  show lexF r (p + 1 + 7 + 1 + 1) acc = _
  rw [show p + 1 + 7 + 1 + 1 = p + 10 by omega]
def spacedR (ts : List TI) : List UInt8 := ts.flatMap fun t => pieceR t ++ gapS
theorem spaced_go : ∀ (ts : List TI) (p : Nat) (acc : List Tk), (∀ t ∈ ts, mayB t = true) → acc.length + ts.length ≤ 16384 → ∃ ks q, Likes ts ks ∧ lexF (spacedR ts ++ [47, 42, 42, 47]) p acc = (acc ++ ks ++ [⟨0, q, [], 0⟩], 0, 0) := by
  intro ts
  induction ts with
  | nil =>
    intro p acc _ _
    refine ⟨[], p + 4, trivial, ?_⟩
    show lexF [47, 42, 42, 47] p acc = _
    rw [lexF_skip (n := 4) (by kernel_rfl)]
    simp [lexF_nil]
  | cons t ts ih =>
    intro p acc hm hl
    obtain ⟨k, hk, e⟩ := tok_step (hm t List.mem_cons_self) (r := gapS ++ (spacedR ts ++ [47, 42, 42, 47])) (gap_cons _) p acc (by simp at hl; omega)
    obtain ⟨ks, q, h1, h2⟩ := ih (p + (pieceR t).length + 10) (acc ++ [k]) (fun x hx => hm x (List.mem_cons_of_mem _ hx)) (by simp at hl ⊢; omega)
    refine ⟨k :: ks, q, ⟨hk, h1⟩, ?_⟩
    have e2 : spacedR (t :: ts) ++ [47, 42, 42, 47] = pieceR t ++ (gapS ++ (spacedR ts ++ [47, 42, 42, 47])) := by
      unfold spacedR; rw [List.flatMap_cons]; simp only [List.append_assoc]
    rw [e2, e, gap_pass, h2]
    simp
theorem spaces_back {ts : List TI} {t : TI} (hm : ∀ x ∈ ts, mayB x = true) (he : endB t = true) (hl : ts.length ≤ 16384) (hs : ([47, 47, 120, 10] ++ spacedR ts ++ [47, 42, 42, 47]).length ≤ 65536) : ∃ ks, lexR ([47, 47, 120, 10] ++ spacedR ts ++ [47, 42, 42, 47]) = (ks, 0, 0) ∧ Likes (ts ++ [t]) ks := by
  rw [lexR_F hs]
  show ∃ ks, lexF (47 :: 47 :: 120 :: 10 :: (spacedR ts ++ [47, 42, 42, 47])) 0 [] = (ks, 0, 0) ∧ _
  have hn : headR (47 :: 47 :: 120 :: 10 :: (spacedR ts ++ [47, 42, 42, 47])) = .skip 3 := by
    rw [headR_line (by simp) nb47 ((slash_eq _ _ _).2 ⟨rfl, rfl⟩)]
    rfl
  rw [lexF_skip hn]
  show ∃ ks, lexF (10 :: (spacedR ts ++ [47, 42, 42, 47])) (0 + 3) [] = (ks, 0, 0) ∧ _
  rw [lexF_skip (n := 1) (headR_blank (by simp) bl10)]
  show ∃ ks, lexF (spacedR ts ++ [47, 42, 42, 47]) (0 + 3 + 1) [] = (ks, 0, 0) ∧ _
  obtain ⟨ks, q, h1, h2⟩ := spaced_go ts (0 + 3 + 1) [] hm (by simpa using hl)
  rw [h2]
  exact ⟨_, rfl, likes_append (by simpa using h1) ⟨end_like he _, trivial⟩⟩

end Go.Proofs.YtkomjmgmancinaaDoor
