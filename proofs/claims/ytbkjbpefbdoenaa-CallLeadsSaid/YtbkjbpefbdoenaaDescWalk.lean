/-
  Descriptors: the walks of desc.IsData, IsAccess, IsPlain, whole, called, Check, Complete.
-/
import Derived.Test.YtbkjbpefbdoenaaDescP
namespace Go.Proofs.Ytbkjbpefbdoenaa
open Go.RowKit

set_option maxRecDepth 100000 in
theorem isData_any (d : DI) (w : World) : Calls Try.prog 91 #[d.a] w fun e w' => e = .returned (.bool (bits .and .u8 d.has 3 != 0)) ∧ Below w.heap.size w w' := by
  go_enter Try.func91, Try.ntmps91
  go_wp2_with fail
  go_ret
  exact ⟨rfl, box_one _ _⟩

set_option maxRecDepth 100000 in
theorem isAccess_any (d : DI) (w : World) : Calls Try.prog 92 #[d.a] w fun e w' => e = .returned (.bool (bits .and .u8 d.has 12 != 0)) ∧ Below w.heap.size w w' := by
  go_enter Try.func92, Try.ntmps92
  go_wp2_with fail
  go_ret
  exact ⟨rfl, box_one _ _⟩

theorem Bk.facts16 {w : World} {g : Nat} {t : TypeId} {c0 c1 c2 c3 c4 c5 c6 c7 c8 c9 c10 c11 c12 c13 c14 c15 : Value} (h : Bk w g t #[c0, c1, c2, c3, c4, c5, c6, c7, c8, c9, c10, c11, c12, c13, c14, c15]) : w.cell? ⟨g, 0, none⟩ = some c0 ∧ w.cell? ⟨g, 1, none⟩ = some c1 ∧ w.cell? ⟨g, 2, none⟩ = some c2 ∧ w.cell? ⟨g, 3, none⟩ = some c3 ∧ w.cell? ⟨g, 4, none⟩ = some c4 ∧ w.cell? ⟨g, 5, none⟩ = some c5 ∧ w.cell? ⟨g, 6, none⟩ = some c6 ∧ w.cell? ⟨g, 7, none⟩ = some c7 ∧ w.cell? ⟨g, 8, none⟩ = some c8 ∧ w.cell? ⟨g, 9, none⟩ = some c9 ∧ w.cell? ⟨g, 10, none⟩ = some c10 ∧ w.cell? ⟨g, 11, none⟩ = some c11 ∧ w.cell? ⟨g, 12, none⟩ = some c12 ∧ w.cell? ⟨g, 13, none⟩ = some c13 ∧ w.cell? ⟨g, 14, none⟩ = some c14 ∧ w.cell? ⟨g, 15, none⟩ = some c15 ∧ (∀ o, w.frozen? ⟨g, o, none⟩ = false) :=
  ⟨h.cell 0, h.cell 1, h.cell 2, h.cell 3, h.cell 4, h.cell 5, h.cell 6, h.cell 7, h.cell 8, h.cell 9, h.cell 10, h.cell 11, h.cell 12, h.cell 13, h.cell 14, h.cell 15, h.free⟩

theorem Bk.eq {w : World} {g : Nat} {t : TypeId} {cs ds : Array Value} (h : Bk w g t cs) (e : cs = ds) : Bk w g t ds := e ▸ h
theorem ret_agg {a b : Array Value} (h : a = b) : Ending.returned (.agg a) = .returned (.agg b) := by rw [h]

theorem isCal_any (v : VI) (w : World) : Calls Try.prog 23 #[v.a] w fun e w' => e = .returned (.bool (isCal v.k)) ∧ Below w.heap.size w w' := by
  obtain ⟨k, x, s, r⟩ := v
  unfold isCal
  cases h7 : (k == 7) <;> cases h8 : (k == 8)
  all_goals
    go_enter Try.func23, Try.ntmps23
    go_wp2_with fail
    go_ret
    exact ⟨rfl, box_one _ _⟩

set_option maxHeartbeats 4000000 in
set_option maxRecDepth 100000 in
theorem called_any (v : VI) (h0 : 0 ≤ v.k) (w : World) : Calls Try.prog 93 #[v.a] w fun e w' => e = .returned (.bool v.called) ∧ Below w.heap.size w w' := by
  have MA := hidB (fun W => vmay_any v.k v.x v.s v.r h0 W)
  have CA := hidB (fun W => isCal_any v W)
  obtain ⟨k, x, s, r⟩ := v
  simp only at MA CA
  unfold VI.called VI.may
  simp only
  generalize mayV k x s r = m at *
  generalize isCal k = cc at *
  cases m <;> cases hk : (k == 0)
  all_goals
    go_enter Try.func93, Try.ntmps93
    go_wp2_with fail
    refine (MA.out _).mono ?_; rintro e w1 ⟨rfl, hb⟩
    have B1 := hidB ((box_one w _).trans (hb.mono (by simp)))
    obtain ⟨x0, x1, x2, x3, _⟩ := Bk.four ((Bk.new w 24 #[.int .u8 k, .float .f64 x, .string s, .int .i64 r]).on hb)
    clear hb
    go_wp2_with (go_at_call 23; refine (CA.out _).mono ?_; rintro e w2 ⟨rfl, hb⟩; replace B1 := hidB (B1.out.trans (hb.mono B1.out.size)); clear hb)
    go_ret
    exact ⟨rfl, B1.out⟩
    
theorem Bk.mid {w : World} {g : Nat} {t : TypeId} {cs : Array Value} (h : Bk w g t cs) (o : Nat) (l : List Value) (e : (cs.toList.drop o).take l.length = l) : w.rangeAt g o l := by
  intro j v hj
  rw [h.cell (o + j)]
  have hlt := (List.getElem?_eq_some_iff.1 hj).1
  rw [← e, List.getElem?_take_of_lt hlt, List.getElem?_drop] at hj
  simpa using hj


end Go.Proofs.Ytbkjbpefbdoenaa
