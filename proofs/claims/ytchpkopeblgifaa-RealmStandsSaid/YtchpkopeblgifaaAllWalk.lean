/-
  The walk of the reference's list of all names.
-/
import Derived.Test.YtchpkopeblgifaaNativeWalk
import Derived.Test.YtchpkopeblgifaaWords
namespace Go.Proofs.Ytchpkopeblgifaa
open Go.RowKit

theorem refFirsts_any (w : World) : Calls Try.prog 34 #[] w fun e w' => e = .returned (.slice (some ⟨w.heap.size, 0, none⟩) 24 24) ∧ w.alloc (.cells firstsA 9) = w' := by
  go_enter Try.func34, Try.ntmps34
  go_wp2
  go_ret
  exact ⟨rfl, by as_aux_lemma => kernel_rfl⟩

theorem ofObject_any (w : World) : Calls Try.prog 46 #[] w fun e w' => e = .returned (.slice (some ⟨w.heap.size, 0, none⟩) 16 16) ∧ w.alloc (.cells cellsO 9) = w' := by
  go_enter Try.func46, Try.ntmps46
  go_wp2
  go_ret
  exact ⟨rfl, by as_aux_lemma => kernel_rfl⟩

theorem ofReflect_any (w : World) : Calls Try.prog 47 #[] w fun e w' => e = .returned (.slice (some ⟨w.heap.size, 0, none⟩) 13 13) ∧ w.alloc (.cells cellsR 9) = w' := by
  go_enter Try.func47, Try.ntmps47
  go_wp2
  go_ret
  exact ⟨rfl, by as_aux_lemma => kernel_rfl⟩

theorem others_any (w : World) : Calls Try.prog 48 #[] w fun e w' => e = .returned (.slice (some ⟨w.heap.size, 0, none⟩) 19 19) ∧ w.alloc (.cells cellsX 9) = w' := by
  go_enter Try.func48, Try.ntmps48
  go_wp2
  go_ret
  exact ⟨rfl, by as_aux_lemma => kernel_rfl⟩

/-- A value that is a slice of the first 'n' names in memory of the call's own. -/
def Named (B : Nat) (w : World) (n : Nat) (v : Value) : Prop := w.ownsRow B 9 1 v n (nms 0 n)

/-- A block that is shorter than what a slice holds is not the slice's. -/
theorem own_ne {w : World} {base : Nat} {e e' : TypeId} {v : Value} {n : Nat} {xs : List Value} (h : w.ownsRow base e 1 v n xs) {b : Nat} {cur : Array Value} {fr : Nat × Nat} (hb : w.heap[b]? = some (.cells cur e' fr)) (hn : cur.size < n) : v.ownBlock ≠ some b := by
  obtain ⟨_, ⟨_, h0⟩ | ⟨g, cap, c, rfl, _, hg, hc, _, hs, _⟩⟩ := h
  · omega
  · intro e
    simp only [Value.ownBlock, Option.some.injEq] at e
    subst e
    rw [hb] at hg
    simp only [Option.some.injEq, Obj.cells.injEq] at hg
    obtain ⟨rfl, _⟩ := hg
    omega

theorem info_parts {o : Option TypeInfo} {z : Value} {n b : Nat} (h : o.map (fun i => (i.zero, i.size, i.bytes)) = some (some z, n, b)) : ∃ i, o = some i ∧ i.zero = some z ∧ i.size = n ∧ i.bytes = b := by
  obtain ⟨i, rfl, h⟩ := Option.map_eq_some_iff.1 h
  exact ⟨i, rfl, by simpa using h⟩

theorem info_str : (Try.prog.info? 9).map (fun i => (i.zero, i.size, i.bytes)) = some (some (.string ⟨#[]⟩), 1, 16) := by kernel_rfl

theorem block_cell {w : World} {b : Nat} {cur : Array Value} {t : TypeId} {fr : Nat × Nat} (h : w.heap[b]? = some (.cells cur t fr)) (k : Nat) : w.cell? ⟨b, k, none⟩ = cur[k]? := by
  simp [World.cell?, h]

/-- What an append to the call's own slice leaves of another block, and of what was there. -/
theorem step_own {w wr w1 : World} {e e' : TypeId} {v : Value} {n : Nat} {xs : List Value} {b : Nat} {cur : Array Value} {fr : Nat × Nat} {o : Obj} (hown : wr.ownsRow w.heap.size e 1 v n xs)
    (hb : wr.heap[b]? = some (.cells cur e' fr)) (hn : cur.size < n) (hbel : Below w.heap.size w wr) (hg : (wr.alloc o).grownBy w1 v.ownBlock) : w1.heap[b]? = some (.cells cur e' fr) ∧ Below w.heap.size w w1 := by
  have hne := own_ne hown hb hn
  have hs := hbel.size
  have hlt : b < wr.heap.size := by
    rcases Nat.lt_or_ge b wr.heap.size with h | h
    · exact h
    · rw [Array.getElem?_eq_none h] at hb; cases hb
  refine ⟨?_, ?_⟩
  · rw [hg.block _ (by simp; omega) (fun e => hne e.symm), Below.heap_alloc _ _ _ hlt]
    exact hb
  · exact (hbel.alloc hs _).grown hg (by simp; omega) (fun j hj => (hown.lt j hj).1)

set_option maxHeartbeats 400000 in
set_option maxRecDepth 100000 in
theorem all_any (w : World) : Calls Try.prog 26 #[] w fun e w' => (∃ v, e = .returned v ∧ Named w.heap.size w' 72 v) ∧ Below w.heap.size w w' := by
  obtain ⟨i0, hi, hz0, hz1, hz2⟩ := info_parts info_str
  go_enter Try.func26, Try.ntmps26
  go_wp2_with fail
  refine (refFirsts_any _).mono ?_; rintro e w1 ⟨rfl, rfl⟩
  go_wp2_with fail
  refine (ofObject_any _).mono ?_; rintro e w1 ⟨rfl, rfl⟩
  go_wp2_with fail
  go_loopw [1, 3] (fun v i wr => ∃ k : Nat, k ≤ 16 ∧ i = .int .i64 k ∧ wr.ownsRow w.heap.size 9 1 v (24 + k) (nms 0 (24 + k)) ∧ wr.heap[w.heap.size + 1]? = some (.cells cellsO 9 (0, 0)) ∧ Below w.heap.size w wr) (fun _ i _ => 16 - (intOf i).toNat)
  case atStart =>
    refine ⟨0, by omega, rfl, ?_, ?_, ((Below.refl _ _).alloc (Nat.le_refl _) _).alloc (by simp) _⟩
    · exact (World.ownsRow_lit (base := w.heap.size) (size := 1) w firstsA 24 (Nat.le_refl _) (by unfold maxLen; omega) firstsA_size).alloc _
    · have e : w.heap.size + 1 = (w.alloc (.cells firstsA 9)).heap.size := by simp
      rw [e]; exact alloc_at _ _
  case round =>
    obtain ⟨k, hk, rfl, hown, hblk, hbel⟩ := hrel
    have Hown := hidN hown
    have Hblk := hidN hblk
    have Hbel := hidN hbel
    clear hown hblk hbel
    by_cases hlt : k < 16
    · have hcell : wr.cell? ⟨w.heap.size + 1, k, none⟩ = some (.string (wO k)) := by rw [block_cell Hblk.out, cellsO_get k hlt]
      have hsz := sizeO k hlt
      go_wp2_with (at_builtin; refine wpList_append_own _ rfl _ _ 26 rfl w.heap.size 9 i0 _ 1 16 Try.underlying26 hi hz0 hz1 hz2 rfl (by decide) _ _ _ rfl (Hown.out.alloc _) ⟨wr.heap.size, 0, none⟩ 1 1 [.string (preO ++ wO k)] rfl rfl ?c1 ?c2 ?c3 ?c4 ?c5 ?_)
      case c1 => exact cell_one_new _ _ _
      case c2 => intro u hu; simp at hu; subst hu; rfl
      case c3 => unfold maxLen; omega
      case c4 => omega
      case c5 => have := Hbel.out.size; simp; omega
      intro v' w1 hown' hgrow _
      rw [joinO k hlt, ← nms_snoc] at hown'
      obtain ⟨hblk', hbel'⟩ := step_own Hown.out Hblk.out (by simp [cellsO]; omega) Hbel.out hgrow
      clear hgrow
      have Hown' := hidN hown'
      have Hblk' := hidN hblk'
      have Hbel' := hidN hbel'
      clear hown' hblk' hbel'
      go_wp2_with fail
      go_roundw
      case rel => exact ⟨k + 1, by omega, by go_num, Hown'.out, Hblk'.out, Hbel'.out⟩
      case measure => simp [intOf]; omega
    · obtain rfl : k = 16 := by omega
      go_wp2_with fail
      refine (ofReflect_any _).mono ?_; rintro e w1 ⟨rfl, rfl⟩
      go_wp2_with fail
      obtain ⟨wo, rfl⟩ : ∃ wo : World, wo = wr := ⟨_, rfl⟩
      go_loopw [1, 5] (fun v i wr => ∃ k : Nat, k ≤ 13 ∧ i = .int .i64 k ∧ wr.ownsRow w.heap.size 9 1 v (40 + k) (nms 0 (40 + k)) ∧ wr.heap[wo.heap.size]? = some (.cells cellsR 9 (0, 0)) ∧ Below w.heap.size w wr) (fun _ i _ => 13 - (intOf i).toNat)
      case atStart => exact ⟨0, by omega, rfl, Hown.out.alloc _, alloc_at _ _, Hbel.out.alloc Hbel.out.size _⟩
      case round =>
        obtain ⟨k, hk, rfl, hown, hblk, hbel⟩ := hrel
        have Hown := hidN hown
        have Hblk := hidN hblk
        have Hbel := hidN hbel
        clear hown hblk hbel
        by_cases hlt : k < 13
        · have hcell : wr.cell? ⟨wo.heap.size, k, none⟩ = some (.string (wR k)) := by rw [block_cell Hblk.out, cellsR_get k hlt]
          have hsz := sizeR k hlt
          go_wp2_with (at_builtin; refine wpList_append_own _ rfl _ _ 26 rfl w.heap.size 9 i0 _ 1 16 Try.underlying26 hi hz0 hz1 hz2 rfl (by decide) _ _ _ rfl (Hown.out.alloc _) ⟨wr.heap.size, 0, none⟩ 1 1 [.string (preR ++ wR k)] rfl rfl ?c1 ?c2 ?c3 ?c4 ?c5 ?_)
          case c1 => exact cell_one_new _ _ _
          case c2 => intro u hu; simp at hu; subst hu; rfl
          case c3 => unfold maxLen; omega
          case c4 => omega
          case c5 => have := Hbel.out.size; simp; omega
          intro v' w1 hown' hgrow _
          rw [joinR k hlt, ← nms_snoc] at hown'
          obtain ⟨hblk', hbel'⟩ := step_own Hown.out Hblk.out (by simp [cellsR]; omega) Hbel.out hgrow
          clear hgrow
          have Hown' := hidN hown'
          have Hblk' := hidN hblk'
          have Hbel' := hidN hbel'
          clear hown' hblk' hbel'
          go_wp2_with fail
          go_roundw
          case rel => exact ⟨k + 1, by omega, by go_num, Hown'.out, Hblk'.out, Hbel'.out⟩
          case measure => simp [intOf]; omega
        · obtain rfl : k = 13 := by omega
          go_wp2_with fail
          refine (others_any _).mono ?_; rintro e w1 ⟨rfl, rfl⟩
          go_wp2_with (at_builtin; refine wpList_append_own _ rfl _ _ 26 rfl w.heap.size 9 i0 _ 1 16 Try.underlying26 hi hz0 hz1 hz2 rfl (by decide) _ _ _ rfl (Hown.out.alloc _) ⟨wr.heap.size, 0, none⟩ 19 19 cellsX.toList rfl (by simp [cellsX, nms_length]) ?d1 ?d2 ?d3 ?d4 ?d5 ?_)
          case d1 =>
            intro j u hj
            rw [show (⟨wr.heap.size, 0, none⟩ : Addr).add j = ⟨wr.heap.size, j, none⟩ by simp [Addr.add]; omega, block_cell (alloc_at _ _)]
            simpa using hj
          case d2 =>
            intro u hu
            simp [cellsX, nms] at hu
            obtain ⟨q, _, rfl⟩ := hu; rfl
          case d3 => unfold maxLen; omega
          case d4 => omega
          case d5 => have := Hbel.out.size; simp; omega
          intro v' w1 hown' hgrow _
          have hx : nms 0 (40 + 13) ++ cellsX.toList = nms 0 72 := (nms_append 53 19).symm
          rw [hx] at hown'
          obtain ⟨_, hbel'⟩ := step_own Hown.out Hblk.out (by simp [cellsR]) Hbel.out hgrow
          clear hgrow hx
          have Hown' := hidN hown'
          have Hbel' := hidN hbel'
          clear hown' hbel'
          go_wp2_with fail
          go_ret
          exact ⟨⟨v', rfl, Hown'.out⟩, Hbel'.out⟩

end Go.Proofs.Ytchpkopeblgifaa
