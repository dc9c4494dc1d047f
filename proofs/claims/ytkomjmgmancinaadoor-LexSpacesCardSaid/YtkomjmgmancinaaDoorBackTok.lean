/-
  A token that is written is read back (plain).
-/
import Derived.Test.YtkomjmgmancinaaDoorLxR
import Derived.Test.YtkomjmgmancinaaDoorLxX
namespace Go.Proofs.YtkomjmgmancinaaDoor
open Go.RowKit

/-! ### digits -/

theorem dig_byteT (d : Nat) (h : d < 10) : isDig (UInt8.ofNat (48 + d)) = true ∧ (UInt8.ofNat (48 + d)).toNat - 48 = d ∧ (UInt8.ofNat (48 + d) = 48 → d = 0) := by
  have : d = 0 ∨ d = 1 ∨ d = 2 ∨ d = 3 ∨ d = 4 ∨ d = 5 ∨ d = 6 ∨ d = 7 ∨ d = 8 ∨ d = 9 := by omega
  rcases this with rfl | rfl | rfl | rfl | rfl | rfl | rfl | rfl | rfl | rfl <;> decide

theorem decDigits_all (k : Nat) : (Lib.decDigits k).all isDig = true ∧ worth (Lib.decDigits k) = k ∧ Lib.decDigits k ≠ [] := by
  induction k using Nat.strongRecOn with
  | ind k ih =>
    by_cases h : k < 10
    · rw [Lib.decDigits_one h]
      obtain ⟨h1, h2, _⟩ := dig_byteT k h
      refine ⟨by rw [List.all_cons, h1]; rfl, ?_, by simp⟩
      show 10 * 0 + _ = k
      rw [h2]; omega
    · rw [decDigits_step k h]
      obtain ⟨i1, i2, i3⟩ := ih (k / 10) (by omega)
      obtain ⟨h1, h2, _⟩ := dig_byteT (k % 10) (Nat.mod_lt _ (by decide))
      refine ⟨by rw [List.all_append, i1, List.all_cons, h1]; rfl, ?_, by simp⟩
      rw [worth_snoc, i2, h2]; omega
theorem decDigits_first (k : Nat) (h : (Lib.decDigits k).head? = some 48) : (Lib.decDigits k).length = 1 := by
  have key : ∀ k : Nat, 0 < k → (Lib.decDigits k).head? ≠ some 48 := by
    intro k
    induction k using Nat.strongRecOn with
    | ind k ih =>
      intro h0
      by_cases h : k < 10
      · rw [Lib.decDigits_one h]
        intro e
        simp only [List.head?_cons, Option.some.injEq] at e
        have := (dig_byteT k h).2.2 e
        omega
      · rw [decDigits_step k h, List.head?_append]
        intro e
        have := (decDigits_all (k / 10)).2.2
        cases hx : Lib.decDigits (k / 10) with
        | nil => exact this hx
        | cons a r =>
          have h2 := ih (k / 10) (by omega) (by omega)
          rw [hx] at h2 e
          exact h2 e
  by_cases h0 : 0 < k
  · exact absurd h (key k h0)
  · obtain rfl : k = 0 := by omega
    rw [Lib.decDigits_one (by decide)]; rfl
theorem decDigits_len (n : Nat) : ∀ k : Nat, k < 10 ^ (n + 1) → (Lib.decDigits k).length ≤ n + 1 := by
  induction n with
  | zero => intro k h; rw [Lib.decDigits_one (by simpa using h)]; simp
  | succ n ih =>
    intro k h
    by_cases h1 : k < 10
    · rw [Lib.decDigits_one h1]; simp
    · rw [decDigits_step k h1, List.length_append, List.length_singleton]
      have := ih (k / 10) (by rw [Nat.pow_succ] at h; omega)
      omega

theorem mem_while {p : UInt8 → Bool} {x : UInt8} : ∀ {l : List UInt8}, x ∈ l.takeWhile p → p x = true := by
  intro l
  induction l with
  | nil => intro h; simp at h
  | cons a l ih =>
    intro h
    rw [List.takeWhile_cons] at h
    split at h
    · rename_i ha
      rcases List.mem_cons.1 h with rfl | h
      · exact ha
      · exact ih h
    · simp at h

/-! ### what stands behind a token -/

/-- Nothing, or a blank. -/
def Gap (r : List UInt8) : Prop := ∀ a, r.head? = some a → a = 32
theorem gap_nil : Gap [] := fun a h => by simp at h
theorem gap_cons (r : List UInt8) : Gap (32 :: r) := fun a h => by simpa using h.symm
theorem gap_while {r : List UInt8} (h : Gap r) : r.takeWhile isNm = [] := by
  cases r with
  | nil => rfl
  | cons a r => rw [h a rfl, List.takeWhile_cons, if_neg (by decide)]
theorem run_app {p r : List UInt8} (hp : p.all isNm = true) (h : Gap r) : runN (p ++ r) = p.length := by
  unfold runN
  rw [List.takeWhile_append_of_pos (fun a ha => List.all_eq_true.1 hp a ha), gap_while h, List.append_nil]

/-! ### numbers -/

theorem is_zeroB : Fl.Is 0 0 := ⟨by decide +kernel, by decide +kernel, fun _ => by decide +kernel⟩
theorem eq_zero {x c : Nat} (h : eq0 x = true) (hc : Fl.Is c 0) : (FloatKind.f64.format.order c x == some .eq) = true := by
  unfold eq0 at h
  have hn : Fl.isNaN x = false := by
    cases hx : Fl.isNaN x with
    | false => rfl
    | true => rw [ordN hx] at h; cases h
  have hz : Fl.isZ x = true := by rw [← Fl.order_0 x hn]; exact h
  rw [Fl.eq_fin hc.1 (Fl.fin_of_isZ hz), decide_eq_true_eq, hc.2.1, (Fl.sc_zero_iff x).2 hz, Int.zero_mul]
theorem num_write {x : Nat} (h : ge0 x = true) (hm : Fl.may x = true) : ∃ n : Nat, Fl.Is x n ∧ n ≤ 9007199254740991 ∧ textR x = Lib.decDigits n := by
  have hn : Fl.isNaN x = false := by
    cases hx : Fl.isNaN x with
    | false => rfl
    | true => unfold ge0 at h; rw [ordN hx] at h; cases h
  have hw : Fl.isW x = true := by unfold Fl.may at hm; rw [hn, Bool.false_or] at hm; exact hm
  obtain ⟨h1, h2, h3⟩ := (Fl.isW_iff x).1 hw
  have h4 : 0 ≤ Fl.toW x := by
    have e := Fl.order_is h1 is_zeroB
    unfold ge0 at h
    rw [e] at h
    by_cases hl : Fl.toW x < 0
    · rw [show compare (Fl.toW x) 0 = Ordering.lt from Int.compare_eq_lt.2 hl] at h
      cases h
    · omega
  unfold Fl.safe at h3
  refine ⟨(Fl.toW x).toNat, by rw [Int.toNat_of_nonneg h4]; exact h1, by omega, ?_⟩
  unfold textR
  rw [hn, hw]
  simp only [Bool.false_eq_true, if_false, if_true]
  conv => lhs; rw [← Int.toNat_of_nonneg h4]
  rw [Lib.itoa_nonneg]

/-! ### strings -/

theorem close_pass {q c : UInt8} {r : List UInt8} (hr : r ≠ []) (hq : c ≠ q) (h1 : c ≠ 10) (h2 : c ≠ 13) (h3 : c ≠ 92) : closeAt q (c :: r) = (closeAt q r).map (· + 1) := by
  cases r with
  | nil => exact absurd rfl hr
  | cons d r => rw [closeAt, if_neg hq, if_neg (by rintro (e | e); exact h1 e; exact h2 e), if_neg (by rintro ⟨e, _⟩; exact h3 e)]
theorem close_esc {q d : UInt8} {r : List UInt8} (hq : (92 : UInt8) ≠ q) (h1 : d ≠ 10) (h2 : d ≠ 13) : closeAt q (92 :: d :: r) = (closeAt q r).map (· + 2) := by
  rw [closeAt, if_neg hq, if_neg (by decide), if_pos ⟨rfl, by rintro (e | e); exact h1 e; exact h2 e⟩]
theorem close_here (q : UInt8) (r : List UInt8) : closeAt q (q :: r) = some 0 := by
  cases r with
  | nil => rw [closeAt, if_pos rfl]
  | cons d r => rw [closeAt, if_pos rfl]
theorem hexd_pass : ∀ n : Fin 16, hexd n ≠ 34 ∧ hexd n ≠ 10 ∧ hexd n ≠ 13 ∧ hexd n ≠ 92 := by decide
theorem close_quoted (l r : List UInt8) : closeAt 34 (l.flatMap qc ++ 34 :: r) = some (l.flatMap qc).length := by
  induction l with
  | nil => exact close_here 34 r
  | cons c l ih =>
    rw [List.flatMap_cons, List.append_assoc, List.length_append]
    generalize hT : l.flatMap qc ++ 34 :: r = T at ih
    have hT0 : T ≠ [] := by rw [← hT]; simp
    generalize (l.flatMap qc).length = m at *
    have h256 : c.toNat < 256 := c.toNat_lt
    have e1 := hexd_pass ⟨c.toNat / 16, by omega⟩
    have e2 := hexd_pass ⟨c.toNat % 16, by omega⟩
    simp only at e1 e2
    have hx : closeAt 34 (92 :: 120 :: hexd (c.toNat / 16) :: hexd (c.toNat % 16) :: T) = some (4 + m) := by
      rw [close_esc (by decide) (by decide) (by decide), close_pass (by simp) e1.1 e1.2.1 e1.2.2.1 e1.2.2.2, close_pass hT0 e2.1 e2.2.1 e2.2.2.1 e2.2.2.2, ih]
      simp only [Option.map_some, Option.some.injEq]; omega
    rcases byte_kinds c with ⟨h, hq⟩ | ⟨h, hq⟩ | ⟨h, hq⟩ | ⟨h, hq⟩ | ⟨h, hq⟩ | ⟨h, hq⟩ | ⟨h, hq⟩ | ⟨h, hq⟩ <;> rw [hq]
    · show closeAt 34 (92 :: 34 :: T) = _
      rw [close_esc (by decide) (by decide) (by decide), ih]
      simp only [Option.map_some, Option.some.injEq, List.length_cons, List.length_nil]; omega
    · show closeAt 34 (92 :: 92 :: T) = _
      rw [close_esc (by decide) (by decide) (by decide), ih]
      simp only [Option.map_some, Option.some.injEq, List.length_cons, List.length_nil]; omega
    · show closeAt 34 (92 :: 110 :: T) = _
      rw [close_esc (by decide) (by decide) (by decide), ih]
      simp only [Option.map_some, Option.some.injEq, List.length_cons, List.length_nil]; omega
    · show closeAt 34 (92 :: 116 :: T) = _
      rw [close_esc (by decide) (by decide) (by decide), ih]
      simp only [Option.map_some, Option.some.injEq, List.length_cons, List.length_nil]; omega
    · show closeAt 34 (92 :: 114 :: T) = _
      rw [close_esc (by decide) (by decide) (by decide), ih]
      simp only [Option.map_some, Option.some.injEq, List.length_cons, List.length_nil]; omega
    · exact hx
    · exact hx
    · have n34 : c ≠ 34 := fun e => h.2.2.1 (by rw [e]; rfl)
      have n92 : c ≠ 92 := fun e => h.2.2.2 (by rw [e]; rfl)
      have n10 : c ≠ 10 := fun e => by have := h.1; rw [e] at this; exact absurd this (by decide)
      have n13 : c ≠ 13 := fun e => by have := h.1; rw [e] at this; exact absurd this (by decide)
      show closeAt 34 (c :: T) = _
      rw [close_pass hT0 n34 n10 n13 n92, ih]
      simp only [Option.map_some, Option.some.injEq, List.length_cons, List.length_nil]; omega

/-! ### signs -/

theorem among_no {row s : List UInt8} (h : (32 : UInt8) ∈ s) : amongB row s = false := by
  unfold amongB
  rw [contains_one, List.contains_iff_mem.2 h]; simp
theorem sign_first : (signsL.all fun b => b == 32 || (!isQu b && !isBl b)) = true := by decide +kernel
theorem sign_slash : ((List.range signsL.length).all fun i => [2, 3].all fun n => !signB ((signsL.drop (i + 1)).take n) || !((signsL.drop (i + 1)).take n).head? == some 47 || ((((signsL.drop (i + 1)).take n)[1]? != some 47) && (((signsL.drop (i + 1)).take n)[1]? != some 42))) = true := by decide +kernel
theorem sign_second {s : List UInt8} (h : signB s = true) (h1 : s.head? = some 47) (h2 : 2 ≤ s.length) : s[1]? ≠ some 47 ∧ s[1]? ≠ some 42 := by
  obtain ⟨h0, _, i, hi, h3⟩ := among_from h
  have h4 := sign_short h
  have hx := List.all_eq_true.1 (List.all_eq_true.1 sign_slash i (by simpa using hi)) s.length (by simp; omega)
  rw [h3, h, h1] at hx
  simpa using hx
theorem signOf_app {s r : List UInt8} (h : signB s = true) (hr : Gap r) : ∀ n : Nat, s.length ≤ n → signOf (s ++ r) n = ⟨true, 5, s, 0, s.length⟩ := by
  have h0 : 0 < s.length := by
    have := (among_from h).1
    cases s with
    | nil => exact absurd rfl this
    | cons a l => simp
  intro n
  induction n with
  | zero => intro hn; omega
  | succ n ih =>
    intro hn
    rw [signOf]
    by_cases hx : n + 1 = s.length
    · rw [hx, List.take_left, if_pos ⟨by simp, h⟩]
    · rw [if_neg, ih (by omega)]
      rintro ⟨h1, h2⟩
      cases r with
      | nil => simp at h1; omega
      | cons a r =>
        have ha := hr a rfl
        subst ha
        rw [show signB ((s ++ 32 :: r).take (n + 1)) = false from among_no (by
          rw [List.take_append, show n + 1 - s.length = (n - s.length) + 1 by omega, List.take_succ_cons]
          simp)] at h2
        cases h2

/-! ### a token written is read -/

/-- A token that was read is the one that was written. -/
def Like (t : TI) (k : Tk) : Prop := k.k = t.k ∧ k.text = t.text.data.toList ∧ ∀ c, Fl.Is c k.num → (FloatKind.f64.format.order c t.num == some .eq) = true

theorem headR_of {a : UInt8} {l : List UInt8} (h : isBl a = false) (h2 : a ≠ 47) : headR (a :: l) = .tok :=
  headR_tok (by simp) (by simpa using h) (slash_first (by simp) (by simpa using h2) 47) (slash_first (by simp) (by simpa using h2) 42)

theorem tok_back {t : TI} (hm : mayB t = true) {r : List UInt8} (hr : Gap r) : ∃ num : Int, 0 < (pieceR t).length ∧ headR (pieceR t ++ r) = .tok ∧ tokR (pieceR t ++ r) = ⟨true, t.k, t.text.data.toList, num, (pieceR t).length⟩ ∧ ∀ c, Fl.Is c num → (FloatKind.f64.format.order c t.num == some .eq) = true := by
  unfold mayB at hm
  by_cases h3 : t.k = 3
  · rw [if_pos h3] at hm
    simp only [Bool.and_eq_true] at hm
    obtain ⟨hE, hg, hy⟩ := hm
    obtain ⟨n, hn, hb, ht⟩ := num_write hg hy
    have hp : pieceR t = Lib.decDigits n := by unfold pieceR; rw [if_pos h3, ht]
    obtain ⟨d1, d2, d3⟩ := decDigits_all n
    have d4 := decDigits_first n
    have d5 := decDigits_len 15 n (by omega)
    rw [hp]
    generalize Lib.decDigits n = D at *
    have hall : D.all isNm = true := by
      rw [List.all_eq_true] at d1 ⊢
      intro x hx; unfold isNm; rw [d1 x hx, Bool.or_true]
    have hrun := run_app hall hr
    have hE2 : t.text.data.toList = [] := List.isEmpty_iff.1 hE
    cases D with
    | nil => exact absurd rfl d3
    | cons a D =>
      have ha : isDig a = true := by rw [List.all_cons, Bool.and_eq_true] at d1; exact d1.1
      have hl : isLet a = false := by
        cases hx : isLet a with
        | false => rfl
        | true =>
          exfalso
          have h1 := (isDig_iff a).1 ha
          unfold isLet at hx
          simp only [Bool.or_eq_true, Bool.and_eq_true, decide_eq_true_eq, beq_iff_eq, UInt8.le_iff_toNat_le, ← UInt8.toNat_inj] at hx
          have e : (97 : UInt8).toNat = 97 ∧ (122 : UInt8).toNat = 122 ∧ (65 : UInt8).toNat = 65 ∧ (90 : UInt8).toNat = 90 ∧ (95 : UInt8).toNat = 95 ∧ (36 : UInt8).toNat = 36 := by decide
          obtain ⟨x1, x2, x3, x4, x5, x6⟩ := e
          rw [x1, x2, x3, x4, x5, x6] at hx
          omega
      have hb47 := nm_not (b := a) (by unfold isNm; rw [ha, Bool.or_true])
      refine ⟨(n : Int), by simp, headR_of hb47.1 hb47.2, ?_, fun c hc => by rw [Fl.order_is hc hn]; rw [show compare (n : Int) (n : Int) = Ordering.eq from Int.compare_eq_eq.2 rfl]; rfl⟩
      have h0 : 0 < ((a :: D) ++ r).length := by simp
      rw [tokR_dig _ h0 (by simpa using hl) (by simpa using ha), hrun, List.take_left, d2, if_neg, hE2, h3]
      rintro (h | ⟨h, h'⟩ | h | h)
      · rw [d1] at h; cases h
      · have := d4 (by simpa using h)
        omega
      · omega
      · omega
  rw [if_neg h3] at hm
  by_cases h4 : t.k = 4
  · rw [if_pos h4] at hm
    simp only [Bool.and_eq_true, decide_eq_true_eq] at hm
    obtain ⟨hz, hl⟩ := hm
    rw [ba_size] at hl
    have hp : pieceR t = 34 :: (t.text.data.toList.flatMap qc ++ [34]) := by unfold pieceR; rw [if_neg h3, if_pos h4]; rfl
    refine ⟨0, by rw [hp]; simp, ?_, ?_, fun c hc => eq_zero hz hc⟩
    · rw [hp]; exact headR_of (by decide) (by decide)
    · rw [hp]
      show tokR (34 :: (t.text.data.toList.flatMap qc ++ [34] ++ r)) = _
      rw [tokR, if_neg (by decide), if_neg (by decide), if_pos (by decide), List.append_assoc, List.singleton_append, close_quoted]
      simp only
      rw [List.take_left, plain_quoted hl, if_neg (by simp), if_neg (by simp), h4]
      simp
  rw [if_neg h4] at hm
  have hp : pieceR t = t.text.data.toList := by unfold pieceR; rw [if_neg h3, if_neg h4]
  rw [hp]
  by_cases h5 : t.k = 5
  · rw [if_pos h5] at hm
    simp only [Bool.and_eq_true] at hm
    obtain ⟨hz, hs⟩ := hm
    generalize t.text.data.toList = s at *
    refine ⟨0, ?_, ?_, ?_, fun c hc => eq_zero hz hc⟩
    · have := (among_from hs).1
      cases s with
      | nil => exact absurd rfl this
      | cons a l => simp
    · cases s with
      | nil => exact absurd rfl (among_from hs).1
      | cons a l =>
        have hf := List.all_eq_true.1 sign_first a (among_mem hs List.mem_cons_self).1
        have hne := (among_mem hs (List.mem_cons_self (a := a) (l := l))).2
        have hb : isBl a = false := by
          rw [Bool.or_eq_true, beq_iff_eq] at hf
          rcases hf with hf | hf
          · exact absurd hf hne
          · exact (by simpa using hf : isQu a = false ∧ isBl a = false).2
        by_cases h47 : a = 47
        · subst h47
          have hsec : ∀ d : UInt8, d = 47 ∨ d = 42 → slash (47 :: l ++ r) d = false := by
            intro d hd
            rw [Bool.eq_false_iff, ne_eq]
            show ¬ slash (47 :: (l ++ r)) d = true
            rw [slash_eq]
            rintro ⟨_, h⟩
            cases l with
            | nil =>
              have := hr d (by simpa using h)
              subst this
              rcases hd with hd | hd <;> exact absurd hd (by decide)
            | cons b l =>
              have h7 := sign_second hs rfl (by simp)
              have hbd : b = d := by simpa using h
              rw [← hbd] at hd
              rcases hd with hd | hd
              · exact h7.1 (by simp [hd])
              · exact h7.2 (by simp [hd])
          exact headR_tok (by simp) (by simpa using hb) (hsec 47 (Or.inl rfl)) (hsec 42 (Or.inr rfl))
        · exact headR_of hb h47
    · cases s with
      | nil => exact absurd rfl (among_from hs).1
      | cons a l =>
        have hn := sign_not hs (List.mem_cons_self (a := a) (l := l))
        have hf := List.all_eq_true.1 sign_first a (among_mem hs List.mem_cons_self).1
        have hne := (among_mem hs (List.mem_cons_self (a := a) (l := l))).2
        have hq : isQu a = false := by
          rw [Bool.or_eq_true, beq_iff_eq] at hf
          rcases hf with hf | hf
          · exact absurd hf hne
          · exact (by simpa using hf : isQu a = false ∧ isBl a = false).1
        unfold isNm at hn
        rw [Bool.or_eq_false_iff] at hn
        rw [tokR_other _ (by simp) (by simpa using hn.1) (by simpa using hn.2) (by simpa using hq), signOf_app hs hr 3 (by have := sign_short hs; omega), h5]
  rw [if_neg h5] at hm
  by_cases h12 : t.k = 1 ∨ t.k = 2
  · rw [if_pos h12] at hm
    simp only [Bool.and_eq_true, decide_eq_true_eq, Bool.not_eq_true', beq_iff_eq] at hm
    obtain ⟨hz, hE, hl, hnb, hw⟩ := hm
    rw [ba_size] at hl
    generalize t.text.data.toList = s at *
    unfold nameB at hnb
    rw [Bool.and_eq_true, decide_eq_true_eq] at hnb
    cases s with
    | nil => cases hE
    | cons a l =>
      have ha : isLet a = true := by simpa using hnb.1
      have hall : (a :: l).all isNm = true := by
        have h6 := hnb.2
        unfold runN at h6
        have h7 : (a :: l).takeWhile isNm = a :: l := by
          have := (List.takeWhile_prefix isNm (l := a :: l)).eq_of_length h6
          exact this
        rw [List.all_eq_true]
        intro x hx
        rw [← h7] at hx
        exact mem_while hx
      have hb47 := nm_not (b := a) (by unfold isNm; rw [ha, Bool.true_or])
      refine ⟨0, by simp, headR_of hb47.1 hb47.2, ?_, fun c hc => eq_zero hz hc⟩
      rw [tokR_let _ (by simp) (by simpa using ha), run_app hall hr, List.take_left, if_neg (by omega), hw]
      rcases h12 with h | h <;> rw [h] <;> rfl
  · rw [if_neg h12] at hm; cases hm

end Go.Proofs.YtkomjmgmancinaaDoor
