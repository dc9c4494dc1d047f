/-
  The walks that look a name up: realm.place and Number, the reference's find, Native and Number.
-/
import Derived.Test.YtchpkopeblgifaaAllWalk
namespace Go.Proofs.Ytchpkopeblgifaa
open Go.RowKit

theorem toList_ne {a b : ByteArray} (h : ¬ a = b) : (a.toList == b.toList) = false := by
  rw [beq_eq_false_iff_ne, ByteArray.toList_eq, ByteArray.toList_eq]
  exact fun e => h (WideShapes.bytes_inj e)

/-- 'r' is the first of the names below 'n' that is 's', or -1. -/
def Found (n : Nat) (s : ByteArray) (r : Int) : Prop := (∃ k : Nat, k < n ∧ r = k ∧ nm k = s) ∨ (r = -1 ∧ ∀ j : Nat, j < n → nm j ≠ s)

def FindQ (n : Nat) (s : ByteArray) (w : World) (e : Ending) (w' : World) : Prop := ∃ r : Int, e = .returned (.int .i64 r) ∧ Found n s r ∧ w = w'
def PlaceQ (n : Nat) (s : ByteArray) (w : World) (e : Ending) (w' : World) : Prop := ∃ r : Int, e = .returned (.int .i64 r) ∧ Found n s r ∧ Below w.heap.size w w'

set_option maxRecDepth 100000 in
theorem find_any (g n cap : Nat) (hn : n ≤ 72) (s : ByteArray) (w : World) (hc : ∀ k, k < n → w.cell? ⟨g, k, none⟩ = some (.string (nm k))) :
    Calls Try.prog 27 #[.slice (some ⟨g, 0, none⟩) n cap, .string s] w (FindQ n s w) := by
  have Hc := hidN hc
  clear hc
  go_enter Try.func27, Try.ntmps27
  go_wp2
  go_loop [5] (fun i => ∃ k : Nat, k ≤ n ∧ i = .int .i64 k ∧ ∀ j : Nat, j < k → nm j ≠ s) (fun i => n - (intOf i).toNat)
  case atStart => exact ⟨0, by omega, rfl, fun j h => by omega⟩
  case round =>
    obtain ⟨k, h2, rfl, hj⟩ := hrel
    have Hj := hidN hj
    clear hj
    by_cases hk : k < n
    · have hcell := Hc.out k hk
      by_cases he : nm k = s
      · rw [he] at hcell
        go_wp2
        go_ret
        exact ⟨k, rfl, Or.inl ⟨k, hk, rfl, he⟩, rfl⟩
      · have hb := toList_ne he
        have He := hidN he
        clear he
        go_wp2
        refine ⟨⟨k + 1, by omega, by go_num, fun j b => ?_⟩, by simp [intOf]; omega⟩
        by_cases hjk : j = k
        · subst hjk; exact He.out
        · exact Hj.out j (by omega)
    · go_wp2
      go_ret
      exact ⟨-1, rfl, Or.inr ⟨rfl, fun j b => Hj.out j (by omega)⟩, rfl⟩

set_option maxRecDepth 100000 in
theorem place_any (s : ByteArray) (w : World) : Calls Try.prog 31 #[.string s] w (PlaceQ 24 s w) := by
  go_enter Try.func31, Try.ntmps31
  go_wp2_with fail
  refine (firsts_any _).mono ?_; rintro e w1 ⟨rfl, hb1⟩
  have Hb1 := hidN hb1
  clear hb1
  go_wp2_with (refine wpList_store_new rfl _ _ _ rfl firstsA _ _ rfl rfl (by kernel_rfl) (by rfl) (by kernel_rfl) ?_)
  go_loop [6] (fun i => ∃ k : Nat, k ≤ 24 ∧ i = .int .i64 k ∧ ∀ j : Nat, j < k → nm j ≠ s) (fun i => 24 - (intOf i).toNat)
  case atStart => exact ⟨0, by omega, rfl, fun j h => by omega⟩
  case round =>
    obtain ⟨k, h2, rfl, hj⟩ := hrel
    have Hj := hidN hj
    clear hj
    by_cases hk : k < 24
    · have hcell := firstsA_get k hk
      by_cases he : nm k = s
      · rw [he] at hcell
        go_wp2
        go_ret
        exact ⟨k, rfl, Or.inl ⟨k, hk, rfl, he⟩, Hb1.out.alloc Hb1.out.size _⟩
      · have hb := toList_ne he
        have He := hidN he
        clear he
        go_wp2
        refine ⟨⟨k + 1, by omega, by go_num, fun j b => ?_⟩, by simp [intOf]; omega⟩
        by_cases hjk : j = k
        · subst hjk; exact He.out
        · exact Hj.out j (by omega)
    · go_wp2
      go_ret
      exact ⟨-1, rfl, Or.inr ⟨rfl, fun j b => Hj.out j (by omega)⟩, Hb1.out.alloc Hb1.out.size _⟩

/-- 'k' is the native of the name 's', or there is none. -/
def NumR (s : ByteArray) (k : Int) (b : Bool) : Prop := (b = true ∧ ∃ j : Nat, j < 72 ∧ k = j ∧ isN j = true ∧ nm j = s) ∨ (b = false ∧ k = 0 ∧ ∀ j : Nat, j < 72 → isN j = true → nm j ≠ s)

theorem numR_one {s : ByteArray} {k k' : Int} {b b' : Bool} (h : NumR s k b) (h' : NumR s k' b') : k = k' ∧ b = b' := by
  rcases h with ⟨rfl, j, h1, rfl, h2, h3⟩ | ⟨rfl, rfl, h4⟩
  · rcases h' with ⟨rfl, i, g1, rfl, g2, g3⟩ | ⟨rfl, rfl, g4⟩
    · exact ⟨by rw [nm_inj h1 g1 (h3.trans g3.symm)], rfl⟩
    · exact absurd h3 (g4 j h1 h2)
  · rcases h' with ⟨rfl, i, g1, rfl, g2, g3⟩ | ⟨rfl, rfl, g4⟩
    · exact absurd g3 (h4 i g1 g2)
    · exact ⟨rfl, rfl⟩

def NumQ (s : ByteArray) (w : World) (e : Ending) (w' : World) : Prop := ∃ (k : Int) (b : Bool), e = .returned (.tuple #[.int .i64 k, .bool b]) ∧ NumR s k b ∧ Below w.heap.size w w'

set_option maxRecDepth 100000 in
theorem number_any (s : ByteArray) (w : World) : Calls Try.prog 9 #[.string s] w (NumQ s w) := by
  go_enter Try.func9, Try.ntmps9
  go_wp2_with fail
  refine (funcs_any _).mono ?_; rintro e w1 ⟨rfl, hb1⟩
  have Hb1 := hidN hb1
  clear hb1
  go_wp2_with (refine wpList_store_new rfl _ _ _ rfl funcsA _ _ rfl rfl (by kernel_rfl) (by rfl) (by kernel_rfl) ?_)
  go_loopw [9] (fun i wr => ∃ k : Nat, k ≤ 72 ∧ i = .int .i64 k ∧ Below w.heap.size w wr ∧ ∀ j : Nat, j < k → isN j = true → nm j ≠ s) (fun i _ => 72 - (intOf i).toNat)
  case atStart => exact ⟨0, by omega, rfl, Hb1.out.alloc Hb1.out.size _, fun j h => by omega⟩
  case round =>
    obtain ⟨k, h2, rfl, hbel, hj⟩ := hrel
    have Hj := hidN hj
    have Hb := hidN hbel
    clear hj hbel
    by_cases hk : k < 72
    · go_wp2_with fail
      refine (native_any k _).mono ?_; rintro e w2 ⟨rfl, hb2⟩
      have Hb2 := hidN hb2
      clear hb2
      cases hn : isN (k : Int)
      · have Hn := hidN hn
        clear hn
        go_wp2_with fail
        refine ⟨⟨k + 1, by omega, by go_num, Hb.out.trans (Hb2.out.mono Hb.out.size), fun j b c => ?_⟩, by simp [intOf]; omega⟩
        by_cases hjk : j = k
        · subst hjk; rw [Hn.out] at c; cases c
        · exact Hj.out j (by omega) c
      · have hv : nmN (k : Int) = nm k := by unfold nmN; rw [hn]; rfl
        rw [hv]
        have Hn := hidN hn
        clear hn hv
        by_cases he : nm k = s
        · rw [he]
          go_wp2_with fail
          go_ret2
          exact ⟨k, true, rfl, Or.inl ⟨rfl, k, hk, rfl, Hn.out, he⟩, Hb.out.trans (Hb2.out.mono Hb.out.size)⟩
        · have hb := toList_ne he
          have He := hidN he
          clear he
          go_wp2_with fail
          refine ⟨⟨k + 1, by omega, by go_num, Hb.out.trans (Hb2.out.mono Hb.out.size), fun j b c => ?_⟩, by simp [intOf]; omega⟩
          by_cases hjk : j = k
          · subst hjk; exact He.out
          · exact Hj.out j (by omega) c
    · go_wp2_with fail
      go_ret2
      exact ⟨0, false, rfl, Or.inr ⟨rfl, rfl, fun j b c => Hj.out j (by omega) c⟩, Hb.out⟩

theorem named_slice {B n : Nat} {w : World} {v : Value} (h : Named B w n v) (h0 : 0 < n) : ∃ g cap, v = .slice (some ⟨g, 0, none⟩) n cap ∧ B ≤ g ∧ ∀ k, k < n → w.cell? ⟨g, k, none⟩ = some (.string (nm k)) := by
  have h' := h
  obtain ⟨_, ⟨_, e⟩ | ⟨g, cap, cur, rfl, hg, _⟩⟩ := h
  · omega
  · refine ⟨g, cap, rfl, hg, fun k hk => ?_⟩
    rw [World.ownsRow.cellAt h' k (by omega), nms_get 0 n k hk, Nat.zero_add]

set_option maxRecDepth 100000 in
theorem refNative_any (n : Int) (w : World) : Calls Try.prog 8 #[.int .i64 n] w fun e w' => e = .returned (.tuple #[.string (nmN n), .bool (isN n)]) ∧ Below w.heap.size w w' := by
  have h : ∀ b : Bool, isN n = b → Calls Try.prog 8 #[.int .i64 n] w fun e w' => e = .returned (.tuple #[.string (if b then nm n.toNat else ⟨#[]⟩), .bool b]) ∧ Below w.heap.size w w' := by
    intro b hb
    cases b
    · have h1 : (n == 1) = false := by unfold isN at hb; simp at hb; rw [beq_eq_false_iff_ne]; omega
      have h2 : n < 14 ∨ 72 ≤ n := by unfold isN at hb; simp at hb; omega
      clear hb
      rcases h2 with h2 | h2
      all_goals
        go_enter Try.func8, Try.ntmps8
        go_wp2_with fail
        refine (all_any _).mono ?_; rintro e w1 ⟨⟨v, rfl, hv⟩, hb1⟩
        obtain ⟨g, cap, rfl, hg, hc⟩ := named_slice hv (by decide)
        have Hb1 := hidN hb1
        clear hb1 hv hc
        go_wp2_with fail
        go_ret2
        exact ⟨rfl, Hb1.out⟩
    · have h2 : n = 1 ∨ (14 ≤ n ∧ n < 72) := by unfold isN at hb; simp at hb; omega
      clear hb
      rcases h2 with rfl | ⟨h2, h3⟩
      · go_enter Try.func8, Try.ntmps8
        go_wp2_with fail
        refine (all_any _).mono ?_; rintro e w1 ⟨⟨v, rfl, hv⟩, hb1⟩
        obtain ⟨g, cap, rfl, hg, hc⟩ := named_slice hv (by decide)
        have Hb1 := hidN hb1
        have hcell := hc 1 (by decide)
        clear hb1 hv hc
        go_wp2_with fail
        go_ret2
        exact ⟨rfl, Hb1.out⟩
      · go_enter Try.func8, Try.ntmps8
        go_wp2_with fail
        refine (all_any _).mono ?_; rintro e w1 ⟨⟨v, rfl, hv⟩, hb1⟩
        obtain ⟨g, cap, rfl, hg, hc⟩ := named_slice hv (by decide)
        have Hb1 := hidN hb1
        have hcell := hc n.toNat (by omega)
        have h1 : (n == 1) = false := by rw [beq_eq_false_iff_ne]; omega
        clear hb1 hv hc
        go_wp2_with fail
        go_ret2
        exact ⟨rfl, Hb1.out⟩
  have := h _ rfl
  unfold nmN
  exact this

theorem found_num {s : ByteArray} {r : Int} (h : Found 72 s r) : if r = 1 ∨ 14 ≤ r then NumR s r true else NumR s 0 false := by
  rcases h with ⟨k, hk, rfl, hs⟩ | ⟨rfl, hs⟩
  · split
    · rename_i hr
      exact Or.inl ⟨rfl, k, hk, rfl, by unfold isN; simp; omega, hs⟩
    · rename_i hr
      refine Or.inr ⟨rfl, rfl, fun j hj hn e => ?_⟩
      have := nm_inj hj hk (e.trans hs.symm)
      subst this
      unfold isN at hn; simp at hn; omega
  · rw [if_neg (by omega)]
    exact Or.inr ⟨rfl, rfl, fun j hj _ => hs j hj⟩

set_option maxRecDepth 100000 in
theorem refNumber_any (s : ByteArray) (w : World) : Calls Try.prog 10 #[.string s] w (NumQ s w) := by
  go_enter Try.func10, Try.ntmps10
  go_wp2_with fail
  refine (all_any _).mono ?_; rintro e w1 ⟨⟨v, rfl, hv⟩, hb1⟩
  obtain ⟨g, cap, rfl, hg, hc⟩ := named_slice hv (by decide)
  have Hb1 := hidN hb1
  have Hc := hidN hc
  clear hb1 hv hc
  go_wp2_with fail
  refine (find_any g 72 cap (by decide) s _ Hc.out).mono ?_; rintro e w2 ⟨r, rfl, hf, rfl⟩
  have hq := found_num hf
  by_cases h1 : r = 1
  · subst h1
    rw [if_pos (by omega)] at hq
    have Hq := hidN hq
    clear hq hf
    go_wp2_with fail
    go_ret2
    exact ⟨1, true, rfl, Hq.out, Hb1.out⟩
  · have h1' : (r == 1) = false := by rw [beq_eq_false_iff_ne]; exact h1
    by_cases h2 : 14 ≤ r
    · rw [if_pos (by omega)] at hq
      have Hq := hidN hq
      clear hq hf h1
      go_wp2_with fail
      go_ret2
      exact ⟨r, true, rfl, Hq.out, Hb1.out⟩
    · rw [if_neg (by omega)] at hq
      have Hq := hidN hq
      clear hq hf h1
      go_wp2_with fail
      go_ret2
      exact ⟨0, false, rfl, Hq.out, Hb1.out⟩

end Go.Proofs.Ytchpkopeblgifaa
