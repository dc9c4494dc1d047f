/-
  Descriptors: the walks of desc.IsData, IsAccess, IsPlain, whole, called, Check, Complete.
-/
import Derived.Test.YtbmaodlghglopaaGreatDoorMxD
namespace Go.Proofs.YtbmaodlghglopaaGreatDoor
open Go.RowKit

set_option maxRecDepth 100000 in
theorem isData_any (d : DI) (w : World) : Calls Tryz.prog 8 #[d.a] w fun e w' => e = .returned (.bool (bits .and .u8 d.has 3 != 0)) ∧ Below w.heap.size w w' := by
  go_enter Tryz.func8, Tryz.ntmps8
  go_wp2_with fail
  go_ret
  exact ⟨rfl, box_one _ _⟩

set_option maxRecDepth 100000 in
theorem isAccess_any (d : DI) (w : World) : Calls Tryz.prog 50 #[d.a] w fun e w' => e = .returned (.bool (bits .and .u8 d.has 12 != 0)) ∧ Below w.heap.size w w' := by
  go_enter Tryz.func50, Tryz.ntmps50
  go_wp2_with fail
  go_ret
  exact ⟨rfl, box_one _ _⟩

theorem Bk.facts16 {w : World} {g : Nat} {t : TypeId} {c0 c1 c2 c3 c4 c5 c6 c7 c8 c9 c10 c11 c12 c13 c14 c15 : Value} (h : Bk w g t #[c0, c1, c2, c3, c4, c5, c6, c7, c8, c9, c10, c11, c12, c13, c14, c15]) : w.cell? ⟨g, 0, none⟩ = some c0 ∧ w.cell? ⟨g, 1, none⟩ = some c1 ∧ w.cell? ⟨g, 2, none⟩ = some c2 ∧ w.cell? ⟨g, 3, none⟩ = some c3 ∧ w.cell? ⟨g, 4, none⟩ = some c4 ∧ w.cell? ⟨g, 5, none⟩ = some c5 ∧ w.cell? ⟨g, 6, none⟩ = some c6 ∧ w.cell? ⟨g, 7, none⟩ = some c7 ∧ w.cell? ⟨g, 8, none⟩ = some c8 ∧ w.cell? ⟨g, 9, none⟩ = some c9 ∧ w.cell? ⟨g, 10, none⟩ = some c10 ∧ w.cell? ⟨g, 11, none⟩ = some c11 ∧ w.cell? ⟨g, 12, none⟩ = some c12 ∧ w.cell? ⟨g, 13, none⟩ = some c13 ∧ w.cell? ⟨g, 14, none⟩ = some c14 ∧ w.cell? ⟨g, 15, none⟩ = some c15 ∧ (∀ o, w.frozen? ⟨g, o, none⟩ = false) :=
  ⟨h.cell 0, h.cell 1, h.cell 2, h.cell 3, h.cell 4, h.cell 5, h.cell 6, h.cell 7, h.cell 8, h.cell 9, h.cell 10, h.cell 11, h.cell 12, h.cell 13, h.cell 14, h.cell 15, h.free⟩

theorem Bk.eq {w : World} {g : Nat} {t : TypeId} {cs ds : Array Value} (h : Bk w g t cs) (e : cs = ds) : Bk w g t ds := e ▸ h
theorem isCal_any (v : VI) (w : World) : Calls Tryz.prog 72 #[v.a] w fun e w' => e = .returned (.bool (isCal v.k)) ∧ Below w.heap.size w w' := by
  obtain ⟨k, x, s, r⟩ := v
  unfold isCal
  cases h7 : (k == 7) <;> cases h8 : (k == 8)
  all_goals
    go_enter Tryz.func72, Tryz.ntmps72
    go_wp2_with fail
    go_ret
    exact ⟨rfl, box_one _ _⟩

set_option maxHeartbeats 4000000 in
set_option maxRecDepth 100000 in
theorem called_any (v : VI) (h0 : 0 ≤ v.k) (w : World) : Calls Tryz.prog 52 #[v.a] w fun e w' => e = .returned (.bool v.called) ∧ Below w.heap.size w w' := by
  have MA := hidB (fun W => vmay_any v.k v.x v.s v.r h0 W)
  have CA := hidB (fun W => isCal_any v W)
  obtain ⟨k, x, s, r⟩ := v
  simp only at MA CA
  unfold VI.called VI.may
  simp only
  generalize mayV k x s r = m at *
  generalize isCal k = cc at *
  cases m <;> cases hk : (k == 0)
  all_goals
    go_enter Tryz.func52, Tryz.ntmps52
    go_wp2_with fail
    refine (MA.out _).mono ?_; rintro e w1 ⟨rfl, hb⟩
    have B1 := hidB ((box_one w _).trans (hb.mono (by simp)))
    obtain ⟨x0, x1, x2, x3, _⟩ := Bk.four ((Bk.new w 29 #[.int .u8 k, .float .f64 x, .string s, .int .i64 r]).on hb)
    clear hb
    go_wp2_with (go_at_call 72; refine (CA.out _).mono ?_; rintro e w2 ⟨rfl, hb⟩; replace B1 := hidB (B1.out.trans (hb.mono B1.out.size)); clear hb)
    go_ret
    exact ⟨rfl, B1.out⟩
    
set_option maxHeartbeats 4000000 in
set_option maxRecDepth 100000 in
theorem wholeD_any (d : DI) (w : World) : Calls Tryz.prog 140 #[d.a] w fun e w' => e = .returned d.whole.a ∧ Below w.heap.size w w' := by
  have IA := hidB (fun W => isAccess_any d W)
  unfold DI.whole wholeH hasB
  obtain ⟨hs, v, g, t, wr, en, cf⟩ := d
  simp only at IA ⊢
  generalize hh : (bits .and .u8 hs 12 != 0) = hb12 at *
  clear hh
  go_enter Tryz.func140, Tryz.ntmps140
  go_wp2_with fail
  refine (IA.out _).mono ?_; rintro e w1 ⟨rfl, hb⟩
  have U1 := hidB (((Bk.new w 31 #[.int .u8 (hs), .int .u8 v.k, .float .f64 v.x, .string v.s, .int .i64 v.r, .int .u8 g.k, .float .f64 g.x, .string g.s, .int .i64 g.r, .int .u8 t.k, .float .f64 t.x, .string t.s, .int .i64 t.r, .bool wr, .bool en, .bool cf]).alloc (.cells #[.int .u8 0, .int .u8 0, .float .f64 0, .string ⟨#[]⟩, .int .i64 0, .int .u8 0, .float .f64 0, .string ⟨#[]⟩, .int .i64 0, .int .u8 0, .float .f64 0, .string ⟨#[]⟩, .int .i64 0, .bool false, .bool false, .bool false] 31)).on hb)
  have R1 := hidB ((Bk.new2 w (.cells #[.int .u8 (hs), .int .u8 v.k, .float .f64 v.x, .string v.s, .int .i64 v.r, .int .u8 g.k, .float .f64 g.x, .string g.s, .int .i64 g.r, .int .u8 t.k, .float .f64 t.x, .string t.s, .int .i64 t.r, .bool wr, .bool en, .bool cf] 31) 31 #[.int .u8 0, .int .u8 0, .float .f64 0, .string ⟨#[]⟩, .int .i64 0, .int .u8 0, .float .f64 0, .string ⟨#[]⟩, .int .i64 0, .int .u8 0, .float .f64 0, .string ⟨#[]⟩, .int .i64 0, .bool false, .bool false, .bool false]).on hb)
  have B1 := hidB (((box_one w _).alloc (by simp) _).trans (hb.mono (by simp; omega)))
  clear hb
  obtain ⟨x0, _, _, _, _, _, _, _, _, _, _, _, _, _, _, _, fr⟩ := Bk.facts16 U1.out
  cases hb12
  · go_wp2_with (first | ((with_reducible refine ldId 31 (.tmp 1) ?_); refine wpList_load_row (by rfl) 31 (.tmp 1) (by rfl) w.heap.size (by rfl) 31 #[.int .u8 (bits .or .u8 hs 51), .int .u8 v.k, .float .f64 v.x, .string v.s, .int .i64 v.r, .int .u8 g.k, .float .f64 g.x, .string g.s, .int .i64 g.r, .int .u8 t.k, .float .f64 t.x, .string t.s, .int .i64 t.r, .bool wr, .bool en, .bool cf] (0, 0) _ ?hU Tryz.underlying31 (by rfl) (by kernel_rfl) ?_) | ((with_reducible refine wpId ?_); refine wpList_store_row (by rfl) 31 (.tmp 2) (.tmp 13) (by rfl) (w.heap.size + 1) #[.int .u8 (bits .or .u8 hs 51), .int .u8 v.k, .float .f64 v.x, .string v.s, .int .i64 v.r, .int .u8 g.k, .float .f64 g.x, .string g.s, .int .i64 g.r, .int .u8 t.k, .float .f64 t.x, .string t.s, .int .i64 t.r, .bool wr, .bool en, .bool cf] (by rfl) (by rfl) 31 #[.int .u8 0, .int .u8 0, .float .f64 0, .string ⟨#[]⟩, .int .i64 0, .int .u8 0, .float .f64 0, .string ⟨#[]⟩, .int .i64 0, .int .u8 0, .float .f64 0, .string ⟨#[]⟩, .int .i64 0, .bool false, .bool false, .bool false] ?hg (by kernel_rfl) (by rfl) (by kernel_rfl) ?_))
    case hU => exact Bk.eq (U1.out.set 0 _) rfl
    case hg => exact R1.out.far (p := ⟨w.heap.size, 0, none⟩) (by simp) _
    go_wp2_with fail
    refine bodyPost_ret (v := .agg #[.int .u8 (bits .or .u8 hs 51), .int .u8 v.k, .float .f64 v.x, .string v.s, .int .i64 v.r, .int .u8 g.k, .float .f64 g.x, .string g.s, .int .i64 g.r, .int .u8 t.k, .float .f64 t.x, .string t.s, .int .i64 t.r, .bool wr, .bool en, .bool cf]) (results_cell_row Tryz.results140 _ _ (w.heap.size + 1) 31 #[.int .u8 (bits .or .u8 hs 51), .int .u8 v.k, .float .f64 v.x, .string v.s, .int .i64 v.r, .int .u8 g.k, .float .f64 g.x, .string g.s, .int .i64 g.r, .int .u8 t.k, .float .f64 t.x, .string t.s, .int .i64 t.r, .bool wr, .bool en, .bool cf] (0, 0) _ rfl (Bk.setRow (t := 31) (cs := #[.int .u8 0, .int .u8 0, .float .f64 0, .string ⟨#[]⟩, .int .i64 0, .int .u8 0, .float .f64 0, .string ⟨#[]⟩, .int .i64 0, .int .u8 0, .float .f64 0, .string ⟨#[]⟩, .int .i64 0, .bool false, .bool false, .bool false]) ?hg2 _) Tryz.underlying31 rfl (by kernel_rfl)) rfl ⟨rfl, below_setRow (B1.out.setCell (p := ⟨w.heap.size, 0, none⟩) (Nat.le_refl _) _) (by omega) _⟩
    case hg2 => exact R1.out.far (p := ⟨w.heap.size, 0, none⟩) (by simp) _
  · go_wp2_with (first | ((with_reducible refine ldId 31 (.tmp 1) ?_); refine wpList_load_row (by rfl) 31 (.tmp 1) (by rfl) w.heap.size (by rfl) 31 #[.int .u8 (bits .or .u8 hs 60), .int .u8 v.k, .float .f64 v.x, .string v.s, .int .i64 v.r, .int .u8 g.k, .float .f64 g.x, .string g.s, .int .i64 g.r, .int .u8 t.k, .float .f64 t.x, .string t.s, .int .i64 t.r, .bool wr, .bool en, .bool cf] (0, 0) _ ?hU Tryz.underlying31 (by rfl) (by kernel_rfl) ?_) | ((with_reducible refine wpId ?_); refine wpList_store_row (by rfl) 31 (.tmp 2) (.tmp 13) (by rfl) (w.heap.size + 1) #[.int .u8 (bits .or .u8 hs 60), .int .u8 v.k, .float .f64 v.x, .string v.s, .int .i64 v.r, .int .u8 g.k, .float .f64 g.x, .string g.s, .int .i64 g.r, .int .u8 t.k, .float .f64 t.x, .string t.s, .int .i64 t.r, .bool wr, .bool en, .bool cf] (by rfl) (by rfl) 31 #[.int .u8 0, .int .u8 0, .float .f64 0, .string ⟨#[]⟩, .int .i64 0, .int .u8 0, .float .f64 0, .string ⟨#[]⟩, .int .i64 0, .int .u8 0, .float .f64 0, .string ⟨#[]⟩, .int .i64 0, .bool false, .bool false, .bool false] ?hg (by kernel_rfl) (by rfl) (by kernel_rfl) ?_))
    case hU => exact Bk.eq (U1.out.set 0 _) rfl
    case hg => exact R1.out.far (p := ⟨w.heap.size, 0, none⟩) (by simp) _
    go_wp2_with fail
    refine bodyPost_ret (v := .agg #[.int .u8 (bits .or .u8 hs 60), .int .u8 v.k, .float .f64 v.x, .string v.s, .int .i64 v.r, .int .u8 g.k, .float .f64 g.x, .string g.s, .int .i64 g.r, .int .u8 t.k, .float .f64 t.x, .string t.s, .int .i64 t.r, .bool wr, .bool en, .bool cf]) (results_cell_row Tryz.results140 _ _ (w.heap.size + 1) 31 #[.int .u8 (bits .or .u8 hs 60), .int .u8 v.k, .float .f64 v.x, .string v.s, .int .i64 v.r, .int .u8 g.k, .float .f64 g.x, .string g.s, .int .i64 g.r, .int .u8 t.k, .float .f64 t.x, .string t.s, .int .i64 t.r, .bool wr, .bool en, .bool cf] (0, 0) _ rfl (Bk.setRow (t := 31) (cs := #[.int .u8 0, .int .u8 0, .float .f64 0, .string ⟨#[]⟩, .int .i64 0, .int .u8 0, .float .f64 0, .string ⟨#[]⟩, .int .i64 0, .int .u8 0, .float .f64 0, .string ⟨#[]⟩, .int .i64 0, .bool false, .bool false, .bool false]) ?hg2 _) Tryz.underlying31 rfl (by kernel_rfl)) rfl ⟨rfl, below_setRow (B1.out.setCell (p := ⟨w.heap.size, 0, none⟩) (Nat.le_refl _) _) (by omega) _⟩
    case hg2 => exact R1.out.far (p := ⟨w.heap.size, 0, none⟩) (by simp) _

theorem Bk.mid {w : World} {g : Nat} {t : TypeId} {cs : Array Value} (h : Bk w g t cs) (o : Nat) (l : List Value) (e : (cs.toList.drop o).take l.length = l) : w.rangeAt g o l := by
  intro j v hj
  rw [h.cell (o + j)]
  have hlt := (List.getElem?_eq_some_iff.1 hj).1
  rw [← e, List.getElem?_take_of_lt hlt, List.getElem?_drop] at hj
  simpa using hj


end Go.Proofs.YtbmaodlghglopaaGreatDoor
