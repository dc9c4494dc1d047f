/-
  The walks of the two lists of the host's names and values.
-/
import Derived.Test.YtchpkopeblgifaaHostWalk
namespace Go.Proofs.Ytchpkopeblgifaa
open Go.RowKit

theorem found_host {i : Nat} (h2 : 2 ≤ i) (h : i < 15) {r : Int} (hf : Found 24 (hW i) r) : r = hp i := by
  obtain ⟨h3, h4⟩ := host_nm i h2 h
  rcases hf with ⟨k, hk, rfl, hs⟩ | ⟨_, hs⟩
  · rw [nm_inj (by omega) (by omega) (hs.trans h4)]
  · exact absurd h4.symm (hs _ h3)

theorem info_val : (Try.prog.info? 33).map (fun i => (i.zero, i.size, i.bytes)) = some (some (.agg #[.int .u8 0, .float .f64 0, .string ⟨#[]⟩, .int .i64 0]), 4, 40) := by kernel_rfl

/-- What the two lists are, in memory. -/
def Lists (w : World) (g gv : Nat) (r : Nat) : Prop := Fl.isNaN r = true ∧ (∀ i, i < 15 → w.cell? ⟨g, i, none⟩ = some (.string (hW i))) ∧ ∀ j, j < 60 → w.cell? ⟨gv, j, none⟩ = (vals r 15)[j]?

def NamesQ (w : World) (e : Ending) (w' : World) : Prop := ∃ g gv cap r : Nat, e = .returned (.tuple #[.slice (some ⟨g, 0, none⟩) 15 15, .slice (some ⟨gv, 0, none⟩) 15 cap]) ∧ Lists w' g gv r ∧ Below w.heap.size w w'

theorem lt_of_block {w : World} {b : Nat} {o : Obj} (h : w.heap[b]? = some o) : b < w.heap.size := by
  rcases Nat.lt_or_ge b w.heap.size with g | g
  · exact g
  · rw [Array.getElem?_eq_none g] at h; cases h

/-- What is owned stays owned where memory is only made. -/
theorem own_below {w w' : World} {base : Nat} {e : TypeId} {size : Nat} {v : Value} {n : Nat} {xs : List Value} (h : w.ownsRow base e size v n xs) (hb : Below w.heap.size w w') : w'.ownsRow base e size v n xs :=
  h.kept (row := none) ⟨hb.os, hb.tape, hb.output, hb.size, fun k hk _ => hb.block k hk⟩ (by cases v.ownBlock <;> simp)

/-- What an append to the call's own slice leaves of a block below its own. -/
theorem step_low {w wr w1 : World} {base : Nat} {e : TypeId} {sz : Nat} {v : Value} {n : Nat} {xs : List Value} {b : Nat} {o o2 : Obj} (hown : wr.ownsRow base e sz v n xs) (hB : w.heap.size ≤ base)
    (hb : wr.heap[b]? = some o) (hn : b < base) (hbel : Below w.heap.size w wr) (hg : (wr.alloc o2).grownBy w1 v.ownBlock) : w1.heap[b]? = some o ∧ Below w.heap.size w w1 := by
  have hs := hbel.size
  have hlt := lt_of_block hb
  refine ⟨?_, ?_⟩
  · rw [hg.block _ (by simp; omega) (fun e => by have := (hown.lt b e.symm).1; omega), Below.heap_alloc _ _ _ hlt]
    exact hb
  · exact (hbel.alloc hs _).grown hg (by simp; omega) (fun j hj => by have := (hown.lt j hj).1; omega)

/-- A block of another element type is not a slice's own. -/
theorem own_ne_type {w : World} {base : Nat} {e e' : TypeId} {sz : Nat} {v : Value} {n : Nat} {xs : List Value} (h : w.ownsRow base e sz v n xs) (hne : e ≠ e') {b : Nat} {cur : Array Value} {fr : Nat × Nat} (hb : w.heap[b]? = some (.cells cur e' fr)) : v.ownBlock ≠ some b := by
  obtain ⟨_, ⟨rfl, _⟩ | ⟨g, cap, c, rfl, _, hg, _⟩⟩ := h
  · simp [Value.ownBlock]
  · intro e
    simp only [Value.ownBlock, Option.some.injEq] at e
    subst e
    rw [hb] at hg
    simp only [Option.some.injEq, Obj.cells.injEq] at hg
    exact hne hg.2.1.symm

theorem step_type {wr w1 : World} {base : Nat} {e e' : TypeId} {sz : Nat} {v : Value} {n : Nat} {xs : List Value} {b : Nat} {cur : Array Value} {fr : Nat × Nat} {o2 : Obj} (hown : wr.ownsRow base e sz v n xs) (hne : e ≠ e')
    (hb : wr.heap[b]? = some (.cells cur e' fr)) (hg : (wr.alloc o2).grownBy w1 v.ownBlock) : w1.heap[b]? = some (.cells cur e' fr) := by
  have hlt := lt_of_block hb
  rw [hg.block _ (by simp; omega) (fun e => own_ne_type hown hne hb e.symm), Below.heap_alloc _ _ _ hlt]
  exact hb

theorem lists_of {w : World} {g gv cap r base : Nat} (hr : Fl.isNaN r = true) (hb : w.heap[g]? = some (.cells hostsA 9 (0, 0))) (ho : w.ownsRow base 33 4 (.slice (some ⟨gv, 0, none⟩) 15 cap) 15 (vals r 15)) : Lists w g gv r :=
  ⟨hr, fun i hi => by rw [block_cell hb, hostsA_get i hi], fun j hj => World.ownsRow.cellAt ho j (by omega)⟩

theorem cells4_new (w : World) (x0 x1 x2 x3 : Value) (t : TypeId) : ∀ (j : Nat) (u : Value), [x0, x1, x2, x3][j]? = some u → (w.alloc (.cells #[x0, x1, x2, x3] t)).cell? ((⟨w.heap.size, 0, none⟩ : Addr).add j) = some u := by
  intro j u h
  rw [show (⟨w.heap.size, 0, none⟩ : Addr).add j = ⟨w.heap.size, j, none⟩ by simp [Addr.add]; omega, block_cell (alloc_at _ _)]
  simpa using h

theorem vitem_two (r k : Nat) : vitem r (2 + k) = objC (kd (hp (2 + k))) (hp (2 + k)) 0 := by
  rw [Nat.add_comm]; rfl

theorem nan_lit : Fl.isNaN 9221120237041090561 = true := by decide

theorem vitem_one (r i : Nat) (u : Value) (h : u ∈ vitem r i) : u.oneCell' = true := by
  match i with
  | 0 => simp [vitem, objC] at h; rcases h with rfl | rfl | rfl | rfl <;> rfl
  | 1 => simp [vitem, objC] at h; rcases h with rfl | rfl | rfl | rfl <;> rfl
  | i + 2 => simp [vitem, objC] at h; rcases h with rfl | rfl | rfl | rfl <;> rfl

set_option maxHeartbeats 400000 in
set_option maxRecDepth 100000 in
theorem names_any (w : World) : Calls Try.prog 11 #[] w (NamesQ w) := by
  obtain ⟨i0, hi, hz0, hz1, hz2⟩ := info_parts info_val
  go_enter Try.func11, Try.ntmps11
  go_wp2_with fail
  refine (nan_any _).mono ?_; rintro e w1 ⟨rfl, rfl⟩
  have hA : (w.alloc (.cells hostsA 9)).heap[w.heap.size]? = some (.cells hostsA 9) := alloc_at _ _
  go_wp2_with fail
  refine (num_any _ _).mono ?_; rintro e w1 ⟨rfl, hb1⟩
  have hblk1 : w1.heap[w.heap.size]? = some (.cells hostsA 9 (0, 0)) := (hb1.block _ (by simp)).trans hA
  have hbel1 : Below w.heap.size w w1 := ((Below.refl _ _).alloc (Nat.le_refl _) _).trans (hb1.mono (by simp))
  have Hblk1 := hidN hblk1
  have Hbel1 := hidN hbel1
  clear hb1 hblk1 hbel1 hA
  go_wp2_with fail
  go_loopw [1, 12] (fun v i wr => ∃ k : Nat, k ≤ 13 ∧ i = .int .i64 k ∧ wr.ownsRow w1.heap.size 33 4 v (2 + k) (vals 9221120237041090561 (2 + k)) ∧ wr.heap[w.heap.size]? = some (.cells hostsA 9 (0, 0)) ∧ Below w.heap.size w wr ∧ w1.heap.size ≤ wr.heap.size) (fun _ i _ => 13 - (intOf i).toNat)
  case atStart =>
    refine ⟨0, by omega, rfl, ?_, ?_, Hbel1.out.alloc Hbel1.out.size _, by simp⟩
    · exact World.ownsRow_lit (base := w1.heap.size) (size := 4) w1 _ 2 (Nat.le_refl _) (by unfold maxLen; omega) rfl
    · rw [Below.heap_alloc _ _ _ (lt_of_block Hblk1.out)]; exact Hblk1.out
  case round =>
    obtain ⟨k, hk, rfl, hown, hblk, hbel, hsz⟩ := hrel
    have Hown := hidN hown
    have Hblk := hidN hblk
    have Hbel := hidN hbel
    clear hown hblk hbel
    by_cases hlt : k < 13
    · have hcell : wr.cell? ⟨w.heap.size, 2 + k, none⟩ = some (.string (hW (2 + k))) := by rw [block_cell Hblk.out, hostsA_get _ (by omega)]
      go_wp2_with fail
      refine (place_any _ _).mono ?_; rintro e w2 ⟨r, rfl, hf, hb2⟩
      obtain rfl := found_host (by omega) (by omega) hf
      have Hb2 := hidN hb2
      clear hb2 hf hcell
      go_wp2_with fail
      refine (object_any _ _).mono ?_; rintro e w3 ⟨rfl, hb3⟩
      have hb23 : Below wr.heap.size wr w3 := grow Hb2.out hb3
      have Hb23 := hidN hb23
      clear hb3 hb23
      have hown3 : w3.ownsRow w1.heap.size 33 4 (u1) (2 + k) (vals 9221120237041090561 (2 + k)) := own_below Hown.out Hb23.out
      have Hown3 := hidN hown3
      clear hown3
      go_wp2_with (at_builtin; refine wpList_append_own _ rfl _ _ 27 rfl w1.heap.size 33 i0 _ 4 40 Try.underlying27 hi hz0 hz1 hz2 rfl (by decide) _ _ _ rfl (Hown3.out.alloc _) ⟨w3.heap.size, 0, none⟩ 1 1 (objC (kd (hp (2 + k))) (hp (2 + k)) 0) rfl rfl ?c1 ?c2 ?c3 ?c4 ?c5 ?_)
      case c1 => exact cells4_new _ _ _ _ _ _
      case c2 => intro u hu; exact vitem_one 0 (2 + k) u (by rw [vitem_two]; exact hu)
      case c3 => unfold maxLen; omega
      case c4 => omega
      case c5 => have := Hb23.out.size; simp; omega
      intro v' w4 hown' hgrow _
      rw [← vitem_two 9221120237041090561 k] at hown'
      have hblk3 : w3.heap[w.heap.size]? = some (.cells hostsA 9 (0, 0)) := (Hb23.out.block _ (lt_of_block Hblk.out)).trans Hblk.out
      have hs := Hbel1.out.size
      have hs1 := lt_of_block Hblk1.out
      have hs3 := Hb23.out.size
      obtain ⟨hblk', hbel'⟩ := step_low (w := w) Hown3.out (by omega) hblk3 (by omega) (Hbel.out.trans (Hb23.out.mono Hbel.out.size)) hgrow
      have hs4 := hgrow.size
      have hsz4 : w1.heap.size ≤ w4.heap.size := by simp at hs4; omega
      clear hgrow hblk3 hs hs1 hs3 hs4
      have Hown' := hidN hown'
      have Hblk' := hidN hblk'
      have Hbel' := hidN hbel'
      clear hown' hblk' hbel'
      go_wp2_with fail
      go_roundw
      case rel => exact ⟨k + 1, by omega, by go_num, Hown'.out, Hblk'.out, Hbel'.out, hsz4⟩
      case measure => simp [intOf]; omega
    · obtain rfl : k = 13 := by omega
      obtain ⟨gv, cap, rfl⟩ : ∃ gv cap, u1 = .slice (some ⟨gv, 0, none⟩) 15 cap := by
        obtain ⟨_, ⟨_, e⟩ | ⟨g, cap, cur, h, _⟩⟩ := Hown.out
        · omega
        · exact ⟨g, cap, h⟩
      go_wp2_with fail
      go_ret2
      exact ⟨w.heap.size, gv, cap, 9221120237041090561, rfl, lists_of nan_lit Hblk.out Hown.out, Hbel.out⟩

set_option maxHeartbeats 400000 in
set_option maxRecDepth 100000 in
theorem refNames_any (w : World) : Calls Try.prog 12 #[] w (NamesQ w) := by
  obtain ⟨i0, hi, hz0, hz1, hz2⟩ := info_parts info_val
  go_enter Try.func12, Try.ntmps12
  go_wp2_with fail
  have hA : (w.alloc (.cells hostsA 9)).heap[w.heap.size]? = some (.cells hostsA 9) := alloc_at _ _
  refine (refNan_any _).mono ?_; rintro e w0 ⟨⟨R, rfl, hR⟩, hb0⟩
  have HR := hidN hR
  clear hR
  go_wp2_with fail
  refine (refNum_any _ _).mono ?_; rintro e w1 ⟨rfl, hb1⟩
  have hb01 := grow hb0 hb1
  have hblk1 : w1.heap[w.heap.size]? = some (.cells hostsA 9 (0, 0)) := (hb01.block _ (by simp)).trans hA
  have hbel1 : Below w.heap.size w w1 := ((Below.refl _ _).alloc (Nat.le_refl _) _).trans (hb01.mono (by simp))
  have Hblk1 := hidN hblk1
  have Hbel1 := hidN hbel1
  clear hb0 hb1 hb01 hblk1 hbel1 hA
  go_wp2_with fail
  refine (refFirsts_any _).mono ?_; rintro e w2 ⟨rfl, rfl⟩
  go_wp2_with fail
  go_loopw [3, 5] (fun v i wr => ∃ k : Nat, k ≤ 13 ∧ i = .int .i64 (2 + k : Nat) ∧ wr.ownsRow w1.heap.size 33 4 v (2 + k) (vals R (2 + k)) ∧ wr.heap[w.heap.size]? = some (.cells hostsA 9 (0, 0)) ∧ wr.heap[w1.heap.size + 1]? = some (.cells firstsA 9 (0, 0)) ∧ Below w.heap.size w wr ∧ w1.heap.size ≤ wr.heap.size) (fun _ i _ => 15 - (intOf i).toNat)
  case atStart =>
    refine ⟨0, by omega, rfl, ?_, ?_, ?_, (Hbel1.out.alloc Hbel1.out.size _).alloc (by have := Hbel1.out.size; simp; omega) _, by simp; omega⟩
    · exact (World.ownsRow_lit (base := w1.heap.size) (size := 4) w1 _ 2 (Nat.le_refl _) (by unfold maxLen; omega) rfl).alloc _
    · rw [Below.heap_alloc _ _ _ (by have := lt_of_block Hblk1.out; simp; omega), Below.heap_alloc _ _ _ (lt_of_block Hblk1.out)]; exact Hblk1.out
    · have e : w1.heap.size + 1 = (w1.alloc (.cells (vals R 2).toArray 33)).heap.size := by simp
      exact (congrArg (fun n => ((w1.alloc (.cells (vals R 2).toArray 33)).alloc (.cells firstsA 9)).heap[n]?) e).trans (alloc_at _ _)
  case round =>
    obtain ⟨k, hk, rfl, hown, hblk, hfst, hbel, hsz⟩ := hrel
    have Hown := hidN hown
    have Hblk := hidN hblk
    have Hfst := hidN hfst
    have Hbel := hidN hbel
    clear hown hblk hbel hfst
    by_cases hlt : k < 13
    · have hcell : wr.cell? ⟨w.heap.size, 2 + k, none⟩ = some (.string (hW (2 + k))) := by rw [block_cell Hblk.out, hostsA_get _ (by omega)]
      go_wp2_with fail
      refine (find_any (w1.heap.size + 1) 24 24 (by decide) (hW (2 + k)) _ (fun q hq => by rw [block_cell Hfst.out, firstsA_get q hq])).mono ?_; rintro e w2 ⟨r, rfl, hf, rfl⟩
      obtain rfl := found_host (by omega) (by omega) hf
      clear hf hcell
      go_wp2_with fail
      refine (refObject_any _ _).mono ?_; rintro e w3 ⟨rfl, hb3⟩
      have Hb23 := hidN hb3
      clear hb3
      have hown3 : w3.ownsRow w1.heap.size 33 4 (u3) (2 + k) (vals R (2 + k)) := own_below Hown.out Hb23.out
      have Hown3 := hidN hown3
      clear hown3
      go_wp2_with (at_builtin; refine wpList_append_own _ rfl _ _ 27 rfl w1.heap.size 33 i0 _ 4 40 Try.underlying27 hi hz0 hz1 hz2 rfl (by decide) _ _ _ rfl (Hown3.out.alloc _) ⟨w3.heap.size, 0, none⟩ 1 1 (objC (kd (hp (2 + k))) (hp (2 + k)) 0) rfl rfl ?c1 ?c2 ?c3 ?c4 ?c5 ?_)
      case c1 => exact cells4_new _ _ _ _ _ _
      case c2 => intro u hu; exact vitem_one 0 (2 + k) u (by rw [vitem_two]; exact hu)
      case c3 => unfold maxLen; omega
      case c4 => omega
      case c5 => have := Hb23.out.size; simp; omega
      intro v' w4 hown' hgrow _
      rw [← vitem_two R k] at hown'
      have hblk3 : w3.heap[w.heap.size]? = some (.cells hostsA 9 (0, 0)) := (Hb23.out.block _ (lt_of_block Hblk.out)).trans Hblk.out
      have hfst3 : w3.heap[w1.heap.size + 1]? = some (.cells firstsA 9 (0, 0)) := (Hb23.out.block _ (lt_of_block Hfst.out)).trans Hfst.out
      have hs := Hbel1.out.size
      have hs1 := lt_of_block Hblk1.out
      have hs3 := Hb23.out.size
      have hfst' := step_type Hown3.out (by decide) hfst3 hgrow
      obtain ⟨hblk', hbel'⟩ := step_low (w := w) Hown3.out (by omega) hblk3 (by omega) (Hbel.out.trans (Hb23.out.mono Hbel.out.size)) hgrow
      have hs4 := hgrow.size
      have hsz4 : w1.heap.size ≤ w4.heap.size := by simp at hs4; omega
      clear hgrow hblk3 hfst3 hs hs1 hs3 hs4
      have Hown' := hidN hown'
      have Hblk' := hidN hblk'
      have Hfst' := hidN hfst'
      have Hbel' := hidN hbel'
      clear hown' hblk' hbel' hfst'
      go_wp2_with fail
      go_roundw
      case rel => exact ⟨k + 1, by omega, by go_num, Hown'.out, Hblk'.out, Hfst'.out, Hbel'.out, hsz4⟩
      case measure => simp [intOf]; omega
    · obtain rfl : k = 13 := by omega
      obtain ⟨gv, cap, rfl⟩ : ∃ gv cap, u3 = .slice (some ⟨gv, 0, none⟩) 15 cap := by
        obtain ⟨_, ⟨_, e⟩ | ⟨g, cap, cur, h, _⟩⟩ := Hown.out
        · omega
        · exact ⟨g, cap, h⟩
      go_wp2_with fail
      go_ret2
      exact ⟨w.heap.size, gv, cap, R, rfl, lists_of HR.out Hblk.out Hown.out, Hbel.out⟩

end Go.Proofs.Ytchpkopeblgifaa
