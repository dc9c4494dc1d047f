/-
  A first object, without its properties.
-/
import Derived.Test.YtchpkopeblgifaaPropsWalk
namespace Go.Proofs.Ytchpkopeblgifaa
open Go.RowKit

/-- The parts of a first object: its kind; its prototype's kind and number. -/
def oK (n : Int) : Int := if n = 1 ∨ 14 ≤ n then 5 else 1
def pK (n : Int) : Int := if n = 0 then 1 else if 8 ≤ n ∧ n ≤ 10 then 6 else if 14 ≤ n then 7 else 6
def pR (n : Int) : Int := if n = 0 then 0 else if 8 ≤ n ∧ n ≤ 10 then 7 else if 14 ≤ n then 1 else 0
/-- Its cells. -/
def obC (n : Int) (v : Value) : List Value := [.int .u8 (oK n), .int .u8 (pK n), .float .f64 0, .string ⟨#[]⟩, .int .i64 (pR n), .bool true, v, .int .u8 0, .float .f64 0, .string ⟨#[]⟩, .int .i64 0, .int .u8 0, .float .f64 0, .string ⟨#[]⟩, .int .i64 0, .string ⟨#[]⟩, .bool (kd n != 6), .bool (kd n == 8)]
theorem obC_length (n : Int) (v : Value) : (obC n v).length = 18 := rfl
def zeroObj : Array Value := #[.int .u8 0, .int .u8 0, .float .f64 0, .string ⟨#[]⟩, .int .i64 0, .bool false, .slice none 0 0, .int .u8 0, .float .f64 0, .string ⟨#[]⟩, .int .i64 0, .int .u8 0, .float .f64 0, .string ⟨#[]⟩, .int .i64 0, .string ⟨#[]⟩, .bool false, .bool false]
theorem obC_one {n : Int} {v : Value} (hv : v.oneCell' = true) (u : Value) (h : u ∈ obC n v) : u.oneCell' = true := by
  simp only [obC, List.mem_cons, List.not_mem_nil, or_false] at h
  rcases h with rfl | rfl | rfl | rfl | rfl | rfl | rfl | rfl | rfl | rfl | rfl | rfl | rfl | rfl | rfl | rfl | rfl | rfl <;> first | rfl | exact hv
theorem obC_arr {n : Int} {v : Value} (hv : v.oneCell' = true) : (obC n v).toArray.all (·.oneCell') = true := Array.all_eq_true_iff_forall_mem.2 (fun u hu => obC_one hv u (by simpa using hu))

theorem info_obj : (Try.prog.info? 43).map (fun i => (i.zero, i.size, i.bytes)) = some (some (.agg zeroObj), 18, 184) := by kernel_rfl

theorem obj0_any (w : World) : Calls Try.prog 30 #[.int .i64 0] w fun e w' => e = .returned (val 6 0 ⟨#[]⟩ 0) ∧ Below w.heap.size w w' := object_any 0 w
theorem obj1_any (w : World) : Calls Try.prog 30 #[.int .i64 1] w fun e w' => e = .returned (val 7 0 ⟨#[]⟩ 1) ∧ Below w.heap.size w w' := object_any 1 w
theorem obj7_any (w : World) : Calls Try.prog 30 #[.int .i64 7] w fun e w' => e = .returned (val 6 0 ⟨#[]⟩ 7) ∧ Below w.heap.size w w' := object_any 7 w

theorem Bk.eq {w : World} {g : Nat} {t : TypeId} {cs ds : Array Value} (h : Bk w g t cs) (e : cs = ds) : Bk w g t ds := e ▸ h

theorem box1 (w : World) (o : Obj) : Below w.heap.size w (w.alloc o) := (Below.refl _ _).alloc (Nat.le_refl _) _
theorem Bk.facts18 {w : World} {g : Nat} {t : TypeId} {c0 c1 c2 c3 c4 c5 c6 c7 c8 c9 c10 c11 c12 c13 c14 c15 c16 c17 : Value} (h : Bk w g t #[c0, c1, c2, c3, c4, c5, c6, c7, c8, c9, c10, c11, c12, c13, c14, c15, c16, c17]) : w.cell? ⟨g, 0, none⟩ = some c0 ∧ w.cell? ⟨g, 1, none⟩ = some c1 ∧ w.cell? ⟨g, 2, none⟩ = some c2 ∧ w.cell? ⟨g, 3, none⟩ = some c3 ∧ w.cell? ⟨g, 4, none⟩ = some c4 ∧ w.cell? ⟨g, 5, none⟩ = some c5 ∧ w.cell? ⟨g, 6, none⟩ = some c6 ∧ w.cell? ⟨g, 7, none⟩ = some c7 ∧ w.cell? ⟨g, 8, none⟩ = some c8 ∧ w.cell? ⟨g, 9, none⟩ = some c9 ∧ w.cell? ⟨g, 10, none⟩ = some c10 ∧ w.cell? ⟨g, 11, none⟩ = some c11 ∧ w.cell? ⟨g, 12, none⟩ = some c12 ∧ w.cell? ⟨g, 13, none⟩ = some c13 ∧ w.cell? ⟨g, 14, none⟩ = some c14 ∧ w.cell? ⟨g, 15, none⟩ = some c15 ∧ w.cell? ⟨g, 16, none⟩ = some c16 ∧ w.cell? ⟨g, 17, none⟩ = some c17 ∧ (∀ o, w.frozen? ⟨g, o, none⟩ = false) :=
  ⟨h.cell 0, h.cell 1, h.cell 2, h.cell 3, h.cell 4, h.cell 5, h.cell 6, h.cell 7, h.cell 8, h.cell 9, h.cell 10, h.cell 11, h.cell 12, h.cell 13, h.cell 14, h.cell 15, h.cell 16, h.cell 17, h.free⟩

def MadeQ (n : Int) (w : World) (e : Ending) (w' : World) : Prop := e = .returned (.agg (obC n (.slice none 0 0)).toArray) ∧ Below w.heap.size w w'

set_option maxHeartbeats 4000000 in
set_option maxRecDepth 100000 in
theorem made_A (n : Int) (h : n = 0) (w : World) : Calls Try.prog 37 #[.int .i64 n] w (MadeQ n w) := by
  have k1 : kd n = 6 := by unfold kd; split <;> (try split) <;> omega
  have e1 : obC n (.slice none 0 0) = [.int .u8 1, .int .u8 1, .float .f64 0, .string ⟨#[]⟩, .int .i64 0, .bool true, .slice none 0 0, .int .u8 0, .float .f64 0, .string ⟨#[]⟩, .int .i64 0, .int .u8 0, .float .f64 0, .string ⟨#[]⟩, .int .i64 0, .string ⟨#[]⟩, .bool false, .bool false] := by unfold obC oK pK pR; rw [k1]; (repeat (first | rw [if_pos (by omega)] | rw [if_neg (by omega)])); rfl
  have K : Hid (∀ W, Calls Try.prog 50 #[.int .i64 n] W fun e w' => e = .returned (.int .u8 6) ∧ W = w') := hid fun W => by have h := kind_any n W; rw [k1] at h; exact h
  have E1 := hid e1
  clear k1 e1
  obtain rfl := h
  go_enter Try.func37, Try.ntmps37
  go_upto_region 1 with fail
  go_cut [3] from 4 to 900 (fun s3 wx => ∃ G : Nat, s3 = .pointer (some ⟨G, 0, none⟩) ∧ Bk wx G 43 #[.int .u8 1, .int .u8 6, .float .f64 0, .string ⟨#[]⟩, .int .i64 0, .bool true, .slice none 0 0, .int .u8 0, .float .f64 0, .string ⟨#[]⟩, .int .i64 0, .int .u8 0, .float .f64 0, .string ⟨#[]⟩, .int .i64 0, .string ⟨#[]⟩, .bool false, .bool false] ∧ w.heap.size < G ∧ Bk wx w.heap.size 43 zeroObj ∧ Below w.heap.size w wx)
  case first =>
    go_wp2_with fail
    refine (obj0_any _).mono ?_; rintro e w1 ⟨rfl, hb⟩
    have hz : w.heap.size < w1.heap.size := by have := hb.size; simp at this; omega
    have RR := hid ((Bk.new w 43 zeroObj).on hb)
    have Bt := hid (grow (box1 w (.cells zeroObj 43)) hb)
    clear hb
    go_wp2_with (first | (refine wpList_build_to (by rfl) 43 _ (by rfl) #[.int .u8 1, .int .u8 6, .float .f64 0, .string ⟨#[]⟩, .int .i64 0, .bool true, .slice none 0 0, .int .u8 0, .float .f64 0, .string ⟨#[]⟩, .int .i64 0, .int .u8 0, .float .f64 0, .string ⟨#[]⟩, .int .i64 0, .string ⟨#[]⟩, .bool false, .bool false] (by kernel_rfl) ?_) | (refine wpList_store_new (by rfl) 43 (.tmp 3) (.tmp 5) (by rfl) #[.int .u8 1, .int .u8 6, .float .f64 0, .string ⟨#[]⟩, .int .i64 0, .bool true, .slice none 0 0, .int .u8 0, .float .f64 0, .string ⟨#[]⟩, .int .i64 0, .int .u8 0, .float .f64 0, .string ⟨#[]⟩, .int .i64 0, .string ⟨#[]⟩, .bool false, .bool false] 43 zeroObj (by rfl) (by rfl) (by kernel_rfl) (by rfl) (by kernel_rfl) ?_))
    go_meet
    case rel => exact ⟨w1.heap.size, rfl, Bk.new _ _ _, hz, RR.out.alloc _, Bt.out.alloc Bt.out.size _⟩
  case rest =>
  obtain ⟨G, rfl, hu, hz, hr, hb⟩ := hcut
  have UU := hid hu
  have RR := hid hr
  have Bt := hid hb
  clear hu hr hb
  obtain ⟨u0, u1, u2, u3, u4, u5, u6, u7, u8, u9, u10, u11, u12, u13, u14, u15, u16, u17, fu⟩ := UU.out.facts18
  go_wp2_with (first | (go_at_call 50; refine (K.out _).mono ?_; rintro e w' ⟨rfl, rfl⟩) | (refine wpList_load_row (by rfl) 43 (.tmp 3) (by rfl) G (by rfl) 43 (obC 0 (.slice none 0 0)).toArray (0, 0) _ ?hU Try.underlying43 (by rfl) (by kernel_rfl) ?_) | (refine wpList_store_row (by rfl) 43 (.tmp 2) (.tmp 38) (by rfl) w.heap.size (obC 0 (.slice none 0 0)).toArray (by rfl) (by rfl) 43 zeroObj ?hg (by kernel_rfl) (by rfl) (obC_arr rfl) ?_))
  case hU => exact Bk.eq ((((((UU.out.set 1 _).set 2 _).set 3 _).set 4 _).set 16 _).set 17 _) (by rw [E1.out]; rfl)
  case hg => exact ((((((RR.out.far (p := ⟨G, 1, none⟩) (Nat.ne_of_lt hz) _).far (p := ⟨G, 2, none⟩) (Nat.ne_of_lt hz) _).far (p := ⟨G, 3, none⟩) (Nat.ne_of_lt hz) _).far (p := ⟨G, 4, none⟩) (Nat.ne_of_lt hz) _).far (p := ⟨G, 16, none⟩) (Nat.ne_of_lt hz) _).far (p := ⟨G, 17, none⟩) (Nat.ne_of_lt hz) _)
  go_wp2_with fail
  refine bodyPost_ret (v := .agg (obC 0 (.slice none 0 0)).toArray) (results_cell_row Try.results37 _ _ w.heap.size 43 (obC 0 (.slice none 0 0)).toArray (0, 0) _ rfl (Bk.setRow (t := 43) (cs := zeroObj) ?hg2 _) Try.underlying43 rfl (by kernel_rfl)) rfl ⟨rfl, below_setRow ?hb2 (Nat.le_refl _) _⟩
  case hg2 => exact ((((((RR.out.far (p := ⟨G, 1, none⟩) (Nat.ne_of_lt hz) _).far (p := ⟨G, 2, none⟩) (Nat.ne_of_lt hz) _).far (p := ⟨G, 3, none⟩) (Nat.ne_of_lt hz) _).far (p := ⟨G, 4, none⟩) (Nat.ne_of_lt hz) _).far (p := ⟨G, 16, none⟩) (Nat.ne_of_lt hz) _).far (p := ⟨G, 17, none⟩) (Nat.ne_of_lt hz) _)
  case hb2 => exact ((((((Bt.out.setCell (p := ⟨G, 1, none⟩) (Nat.le_of_lt hz) _).setCell (p := ⟨G, 2, none⟩) (Nat.le_of_lt hz) _).setCell (p := ⟨G, 3, none⟩) (Nat.le_of_lt hz) _).setCell (p := ⟨G, 4, none⟩) (Nat.le_of_lt hz) _).setCell (p := ⟨G, 16, none⟩) (Nat.le_of_lt hz) _).setCell (p := ⟨G, 17, none⟩) (Nat.le_of_lt hz) _)

set_option maxHeartbeats 4000000 in
set_option maxRecDepth 100000 in
theorem made_B (n : Int) (h : n = 1) (w : World) : Calls Try.prog 37 #[.int .i64 n] w (MadeQ n w) := by
  have k1 : kd n = 7 := by unfold kd; split <;> (try split) <;> omega
  have e1 : obC n (.slice none 0 0) = [.int .u8 5, .int .u8 6, .float .f64 0, .string ⟨#[]⟩, .int .i64 0, .bool true, .slice none 0 0, .int .u8 0, .float .f64 0, .string ⟨#[]⟩, .int .i64 0, .int .u8 0, .float .f64 0, .string ⟨#[]⟩, .int .i64 0, .string ⟨#[]⟩, .bool true, .bool false] := by unfold obC oK pK pR; rw [k1]; (repeat (first | rw [if_pos (by omega)] | rw [if_neg (by omega)])); rfl
  have K : Hid (∀ W, Calls Try.prog 50 #[.int .i64 n] W fun e w' => e = .returned (.int .u8 7) ∧ W = w') := hid fun W => by have h := kind_any n W; rw [k1] at h; exact h
  have E1 := hid e1
  clear k1 e1
  obtain rfl := h
  go_enter Try.func37, Try.ntmps37
  go_upto_region 1 with fail
  go_cut [3] from 4 to 900 (fun s3 wx => ∃ G : Nat, s3 = .pointer (some ⟨G, 0, none⟩) ∧ Bk wx G 43 #[.int .u8 1, .int .u8 6, .float .f64 0, .string ⟨#[]⟩, .int .i64 0, .bool true, .slice none 0 0, .int .u8 0, .float .f64 0, .string ⟨#[]⟩, .int .i64 0, .int .u8 0, .float .f64 0, .string ⟨#[]⟩, .int .i64 0, .string ⟨#[]⟩, .bool false, .bool false] ∧ w.heap.size < G ∧ Bk wx w.heap.size 43 zeroObj ∧ Below w.heap.size w wx)
  case first =>
    go_wp2_with fail
    refine (obj0_any _).mono ?_; rintro e w1 ⟨rfl, hb⟩
    have hz : w.heap.size < w1.heap.size := by have := hb.size; simp at this; omega
    have RR := hid ((Bk.new w 43 zeroObj).on hb)
    have Bt := hid (grow (box1 w (.cells zeroObj 43)) hb)
    clear hb
    go_wp2_with (first | (refine wpList_build_to (by rfl) 43 _ (by rfl) #[.int .u8 1, .int .u8 6, .float .f64 0, .string ⟨#[]⟩, .int .i64 0, .bool true, .slice none 0 0, .int .u8 0, .float .f64 0, .string ⟨#[]⟩, .int .i64 0, .int .u8 0, .float .f64 0, .string ⟨#[]⟩, .int .i64 0, .string ⟨#[]⟩, .bool false, .bool false] (by kernel_rfl) ?_) | (refine wpList_store_new (by rfl) 43 (.tmp 3) (.tmp 5) (by rfl) #[.int .u8 1, .int .u8 6, .float .f64 0, .string ⟨#[]⟩, .int .i64 0, .bool true, .slice none 0 0, .int .u8 0, .float .f64 0, .string ⟨#[]⟩, .int .i64 0, .int .u8 0, .float .f64 0, .string ⟨#[]⟩, .int .i64 0, .string ⟨#[]⟩, .bool false, .bool false] 43 zeroObj (by rfl) (by rfl) (by kernel_rfl) (by rfl) (by kernel_rfl) ?_))
    go_meet
    case rel => exact ⟨w1.heap.size, rfl, Bk.new _ _ _, hz, RR.out.alloc _, Bt.out.alloc Bt.out.size _⟩
  case rest =>
  obtain ⟨G, rfl, hu, hz, hr, hb⟩ := hcut
  have UU := hid hu
  have RR := hid hr
  have Bt := hid hb
  clear hu hr hb
  obtain ⟨u0, u1, u2, u3, u4, u5, u6, u7, u8, u9, u10, u11, u12, u13, u14, u15, u16, u17, fu⟩ := UU.out.facts18
  go_wp2_with (first | (go_at_call 50; refine (K.out _).mono ?_; rintro e w' ⟨rfl, rfl⟩) | (refine wpList_load_row (by rfl) 43 (.tmp 3) (by rfl) G (by rfl) 43 (obC 1 (.slice none 0 0)).toArray (0, 0) _ ?hU Try.underlying43 (by rfl) (by kernel_rfl) ?_) | (refine wpList_store_row (by rfl) 43 (.tmp 2) (.tmp 38) (by rfl) w.heap.size (obC 1 (.slice none 0 0)).toArray (by rfl) (by rfl) 43 zeroObj ?hg (by kernel_rfl) (by rfl) (obC_arr rfl) ?_))
  case hU => exact Bk.eq (((UU.out.set 0 _).set 16 _).set 17 _) (by rw [E1.out]; rfl)
  case hg => exact (((RR.out.far (p := ⟨G, 0, none⟩) (Nat.ne_of_lt hz) _).far (p := ⟨G, 16, none⟩) (Nat.ne_of_lt hz) _).far (p := ⟨G, 17, none⟩) (Nat.ne_of_lt hz) _)
  go_wp2_with fail
  refine bodyPost_ret (v := .agg (obC 1 (.slice none 0 0)).toArray) (results_cell_row Try.results37 _ _ w.heap.size 43 (obC 1 (.slice none 0 0)).toArray (0, 0) _ rfl (Bk.setRow (t := 43) (cs := zeroObj) ?hg2 _) Try.underlying43 rfl (by kernel_rfl)) rfl ⟨rfl, below_setRow ?hb2 (Nat.le_refl _) _⟩
  case hg2 => exact (((RR.out.far (p := ⟨G, 0, none⟩) (Nat.ne_of_lt hz) _).far (p := ⟨G, 16, none⟩) (Nat.ne_of_lt hz) _).far (p := ⟨G, 17, none⟩) (Nat.ne_of_lt hz) _)
  case hb2 => exact (((Bt.out.setCell (p := ⟨G, 0, none⟩) (Nat.le_of_lt hz) _).setCell (p := ⟨G, 16, none⟩) (Nat.le_of_lt hz) _).setCell (p := ⟨G, 17, none⟩) (Nat.le_of_lt hz) _)

set_option maxHeartbeats 4000000 in
set_option maxRecDepth 100000 in
theorem made_C (n : Int) (h : 8 ≤ n ∧ n ≤ 10) (w : World) : Calls Try.prog 37 #[.int .i64 n] w (MadeQ n w) := by
  have k1 : kd n = 6 := by unfold kd; split <;> (try split) <;> omega
  have e1 : obC n (.slice none 0 0) = [.int .u8 1, .int .u8 6, .float .f64 0, .string ⟨#[]⟩, .int .i64 7, .bool true, .slice none 0 0, .int .u8 0, .float .f64 0, .string ⟨#[]⟩, .int .i64 0, .int .u8 0, .float .f64 0, .string ⟨#[]⟩, .int .i64 0, .string ⟨#[]⟩, .bool false, .bool false] := by unfold obC oK pK pR; rw [k1]; (repeat (first | rw [if_pos (by omega)] | rw [if_neg (by omega)])); rfl
  have K : Hid (∀ W, Calls Try.prog 50 #[.int .i64 n] W fun e w' => e = .returned (.int .u8 6) ∧ W = w') := hid fun W => by have h := kind_any n W; rw [k1] at h; exact h
  have E1 := hid e1
  clear k1 e1
  obtain ⟨h1, h2⟩ := h
  have q0 : (n == 0) = false := by rw [beq_eq_false_iff_ne]; omega
  have q1 : (n == 1) = false := by rw [beq_eq_false_iff_ne]; omega
  go_enter Try.func37, Try.ntmps37
  go_upto_region 1 with fail
  go_cut [3] from 4 to 900 (fun s3 wx => ∃ G : Nat, s3 = .pointer (some ⟨G, 0, none⟩) ∧ Bk wx G 43 #[.int .u8 1, .int .u8 6, .float .f64 0, .string ⟨#[]⟩, .int .i64 0, .bool true, .slice none 0 0, .int .u8 0, .float .f64 0, .string ⟨#[]⟩, .int .i64 0, .int .u8 0, .float .f64 0, .string ⟨#[]⟩, .int .i64 0, .string ⟨#[]⟩, .bool false, .bool false] ∧ w.heap.size < G ∧ Bk wx w.heap.size 43 zeroObj ∧ Below w.heap.size w wx)
  case first =>
    go_wp2_with fail
    refine (obj0_any _).mono ?_; rintro e w1 ⟨rfl, hb⟩
    have hz : w.heap.size < w1.heap.size := by have := hb.size; simp at this; omega
    have RR := hid ((Bk.new w 43 zeroObj).on hb)
    have Bt := hid (grow (box1 w (.cells zeroObj 43)) hb)
    clear hb
    go_wp2_with (first | (refine wpList_build_to (by rfl) 43 _ (by rfl) #[.int .u8 1, .int .u8 6, .float .f64 0, .string ⟨#[]⟩, .int .i64 0, .bool true, .slice none 0 0, .int .u8 0, .float .f64 0, .string ⟨#[]⟩, .int .i64 0, .int .u8 0, .float .f64 0, .string ⟨#[]⟩, .int .i64 0, .string ⟨#[]⟩, .bool false, .bool false] (by kernel_rfl) ?_) | (refine wpList_store_new (by rfl) 43 (.tmp 3) (.tmp 5) (by rfl) #[.int .u8 1, .int .u8 6, .float .f64 0, .string ⟨#[]⟩, .int .i64 0, .bool true, .slice none 0 0, .int .u8 0, .float .f64 0, .string ⟨#[]⟩, .int .i64 0, .int .u8 0, .float .f64 0, .string ⟨#[]⟩, .int .i64 0, .string ⟨#[]⟩, .bool false, .bool false] 43 zeroObj (by rfl) (by rfl) (by kernel_rfl) (by rfl) (by kernel_rfl) ?_))
    go_meet
    case rel => exact ⟨w1.heap.size, rfl, Bk.new _ _ _, hz, RR.out.alloc _, Bt.out.alloc Bt.out.size _⟩
  case rest =>
  obtain ⟨G, rfl, hu, hz, hr, hb⟩ := hcut
  have UU := hid hu
  have RR := hid hr
  have Bt := hid hb
  clear hu hr hb
  obtain ⟨u0, u1, u2, u3, u4, u5, u6, u7, u8, u9, u10, u11, u12, u13, u14, u15, u16, u17, fu⟩ := UU.out.facts18
  go_wp2_with fail
  refine (obj7_any _).mono ?_; rintro e w2 ⟨rfl, hb⟩
  have UU : Hid (Bk w2 G 43 #[.int .u8 1, .int .u8 6, .float .f64 0, .string ⟨#[]⟩, .int .i64 0, .bool true, .slice none 0 0, .int .u8 0, .float .f64 0, .string ⟨#[]⟩, .int .i64 0, .int .u8 0, .float .f64 0, .string ⟨#[]⟩, .int .i64 0, .string ⟨#[]⟩, .bool false, .bool false]) := hid (Bk.eq (Bk.on UU.out hb) rfl)
  have RR : Hid (Bk w2 w.heap.size 43 zeroObj) := hid (Bk.on RR.out hb)
  have Bt : Hid (Below w.heap.size w w2) := hid (grow Bt.out hb)
  clear hb
  obtain ⟨u0, u1, u2, u3, u4, u5, u6, u7, u8, u9, u10, u11, u12, u13, u14, u15, u16, u17, fu⟩ := UU.out.facts18
  go_wp2_with (first | (go_at_call 50; refine (K.out _).mono ?_; rintro e w' ⟨rfl, rfl⟩) | (refine wpList_load_row (by rfl) 43 (.tmp 3) (by rfl) G (by rfl) 43 (obC n (.slice none 0 0)).toArray (0, 0) _ ?hU Try.underlying43 (by rfl) (by kernel_rfl) ?_) | (refine wpList_store_row (by rfl) 43 (.tmp 2) (.tmp 38) (by rfl) w.heap.size (obC n (.slice none 0 0)).toArray (by rfl) (by rfl) 43 zeroObj ?hg (by kernel_rfl) (by rfl) (obC_arr rfl) ?_))
  case hU => exact Bk.eq ((((((UU.out.set 1 _).set 2 _).set 3 _).set 4 _).set 16 _).set 17 _) (by rw [E1.out]; rfl)
  case hg => exact ((((((RR.out.far (p := ⟨G, 1, none⟩) (Nat.ne_of_lt hz) _).far (p := ⟨G, 2, none⟩) (Nat.ne_of_lt hz) _).far (p := ⟨G, 3, none⟩) (Nat.ne_of_lt hz) _).far (p := ⟨G, 4, none⟩) (Nat.ne_of_lt hz) _).far (p := ⟨G, 16, none⟩) (Nat.ne_of_lt hz) _).far (p := ⟨G, 17, none⟩) (Nat.ne_of_lt hz) _)
  go_wp2_with fail
  refine bodyPost_ret (v := .agg (obC n (.slice none 0 0)).toArray) (results_cell_row Try.results37 _ _ w.heap.size 43 (obC n (.slice none 0 0)).toArray (0, 0) _ rfl (Bk.setRow (t := 43) (cs := zeroObj) ?hg2 _) Try.underlying43 rfl (by kernel_rfl)) rfl ⟨rfl, below_setRow ?hb2 (Nat.le_refl _) _⟩
  case hg2 => exact ((((((RR.out.far (p := ⟨G, 1, none⟩) (Nat.ne_of_lt hz) _).far (p := ⟨G, 2, none⟩) (Nat.ne_of_lt hz) _).far (p := ⟨G, 3, none⟩) (Nat.ne_of_lt hz) _).far (p := ⟨G, 4, none⟩) (Nat.ne_of_lt hz) _).far (p := ⟨G, 16, none⟩) (Nat.ne_of_lt hz) _).far (p := ⟨G, 17, none⟩) (Nat.ne_of_lt hz) _)
  case hb2 => exact ((((((Bt.out.setCell (p := ⟨G, 1, none⟩) (Nat.le_of_lt hz) _).setCell (p := ⟨G, 2, none⟩) (Nat.le_of_lt hz) _).setCell (p := ⟨G, 3, none⟩) (Nat.le_of_lt hz) _).setCell (p := ⟨G, 4, none⟩) (Nat.le_of_lt hz) _).setCell (p := ⟨G, 16, none⟩) (Nat.le_of_lt hz) _).setCell (p := ⟨G, 17, none⟩) (Nat.le_of_lt hz) _)

set_option maxHeartbeats 4000000 in
set_option maxRecDepth 100000 in
theorem made_D (n : Int) (h : 14 ≤ n ∧ n < 20) (w : World) : Calls Try.prog 37 #[.int .i64 n] w (MadeQ n w) := by
  have k1 : kd n = 8 := by unfold kd; split <;> (try split) <;> omega
  have e1 : obC n (.slice none 0 0) = [.int .u8 5, .int .u8 7, .float .f64 0, .string ⟨#[]⟩, .int .i64 1, .bool true, .slice none 0 0, .int .u8 0, .float .f64 0, .string ⟨#[]⟩, .int .i64 0, .int .u8 0, .float .f64 0, .string ⟨#[]⟩, .int .i64 0, .string ⟨#[]⟩, .bool true, .bool true] := by unfold obC oK pK pR; rw [k1]; (repeat (first | rw [if_pos (by omega)] | rw [if_neg (by omega)])); rfl
  have K : Hid (∀ W, Calls Try.prog 50 #[.int .i64 n] W fun e w' => e = .returned (.int .u8 8) ∧ W = w') := hid fun W => by have h := kind_any n W; rw [k1] at h; exact h
  have E1 := hid e1
  clear k1 e1
  obtain ⟨h1, h2⟩ := h
  have q2 : 14 ≤ n := by omega
  have q0 : (n == 0) = false := by rw [beq_eq_false_iff_ne]; omega
  have q1 : (n == 1) = false := by rw [beq_eq_false_iff_ne]; omega
  have q3 : ¬ n ≤ 10 := by omega
  have q4 : 8 ≤ n := by omega
  go_enter Try.func37, Try.ntmps37
  go_upto_region 1 with fail
  go_cut [3] from 4 to 900 (fun s3 wx => ∃ G : Nat, s3 = .pointer (some ⟨G, 0, none⟩) ∧ Bk wx G 43 #[.int .u8 1, .int .u8 6, .float .f64 0, .string ⟨#[]⟩, .int .i64 0, .bool true, .slice none 0 0, .int .u8 0, .float .f64 0, .string ⟨#[]⟩, .int .i64 0, .int .u8 0, .float .f64 0, .string ⟨#[]⟩, .int .i64 0, .string ⟨#[]⟩, .bool false, .bool false] ∧ w.heap.size < G ∧ Bk wx w.heap.size 43 zeroObj ∧ Below w.heap.size w wx)
  case first =>
    go_wp2_with fail
    refine (obj0_any _).mono ?_; rintro e w1 ⟨rfl, hb⟩
    have hz : w.heap.size < w1.heap.size := by have := hb.size; simp at this; omega
    have RR := hid ((Bk.new w 43 zeroObj).on hb)
    have Bt := hid (grow (box1 w (.cells zeroObj 43)) hb)
    clear hb
    go_wp2_with (first | (refine wpList_build_to (by rfl) 43 _ (by rfl) #[.int .u8 1, .int .u8 6, .float .f64 0, .string ⟨#[]⟩, .int .i64 0, .bool true, .slice none 0 0, .int .u8 0, .float .f64 0, .string ⟨#[]⟩, .int .i64 0, .int .u8 0, .float .f64 0, .string ⟨#[]⟩, .int .i64 0, .string ⟨#[]⟩, .bool false, .bool false] (by kernel_rfl) ?_) | (refine wpList_store_new (by rfl) 43 (.tmp 3) (.tmp 5) (by rfl) #[.int .u8 1, .int .u8 6, .float .f64 0, .string ⟨#[]⟩, .int .i64 0, .bool true, .slice none 0 0, .int .u8 0, .float .f64 0, .string ⟨#[]⟩, .int .i64 0, .int .u8 0, .float .f64 0, .string ⟨#[]⟩, .int .i64 0, .string ⟨#[]⟩, .bool false, .bool false] 43 zeroObj (by rfl) (by rfl) (by kernel_rfl) (by rfl) (by kernel_rfl) ?_))
    go_meet
    case rel => exact ⟨w1.heap.size, rfl, Bk.new _ _ _, hz, RR.out.alloc _, Bt.out.alloc Bt.out.size _⟩
  case rest =>
  obtain ⟨G, rfl, hu, hz, hr, hb⟩ := hcut
  have UU := hid hu
  have RR := hid hr
  have Bt := hid hb
  clear hu hr hb
  obtain ⟨u0, u1, u2, u3, u4, u5, u6, u7, u8, u9, u10, u11, u12, u13, u14, u15, u16, u17, fu⟩ := UU.out.facts18
  go_wp2_with fail
  refine (obj1_any _).mono ?_; rintro e w2 ⟨rfl, hb⟩
  have UU : Hid (Bk w2 G 43 #[.int .u8 5, .int .u8 6, .float .f64 0, .string ⟨#[]⟩, .int .i64 0, .bool true, .slice none 0 0, .int .u8 0, .float .f64 0, .string ⟨#[]⟩, .int .i64 0, .int .u8 0, .float .f64 0, .string ⟨#[]⟩, .int .i64 0, .string ⟨#[]⟩, .bool false, .bool false]) := hid (Bk.eq (Bk.on (UU.out.set 0 _) hb) rfl)
  have RR : Hid (Bk w2 w.heap.size 43 zeroObj) := hid (Bk.on (RR.out.far (p := ⟨G, 0, none⟩) (Nat.ne_of_lt hz) _) hb)
  have Bt : Hid (Below w.heap.size w w2) := hid (grow (Bt.out.setCell (p := ⟨G, 0, none⟩) (Nat.le_of_lt hz) _) hb)
  clear hb
  obtain ⟨u0, u1, u2, u3, u4, u5, u6, u7, u8, u9, u10, u11, u12, u13, u14, u15, u16, u17, fu⟩ := UU.out.facts18
  go_wp2_with (first | (go_at_call 50; refine (K.out _).mono ?_; rintro e w' ⟨rfl, rfl⟩) | (refine wpList_load_row (by rfl) 43 (.tmp 3) (by rfl) G (by rfl) 43 (obC n (.slice none 0 0)).toArray (0, 0) _ ?hU Try.underlying43 (by rfl) (by kernel_rfl) ?_) | (refine wpList_store_row (by rfl) 43 (.tmp 2) (.tmp 38) (by rfl) w.heap.size (obC n (.slice none 0 0)).toArray (by rfl) (by rfl) 43 zeroObj ?hg (by kernel_rfl) (by rfl) (obC_arr rfl) ?_))
  case hU => exact Bk.eq ((((((UU.out.set 1 _).set 2 _).set 3 _).set 4 _).set 16 _).set 17 _) (by rw [E1.out]; rfl)
  case hg => exact ((((((RR.out.far (p := ⟨G, 1, none⟩) (Nat.ne_of_lt hz) _).far (p := ⟨G, 2, none⟩) (Nat.ne_of_lt hz) _).far (p := ⟨G, 3, none⟩) (Nat.ne_of_lt hz) _).far (p := ⟨G, 4, none⟩) (Nat.ne_of_lt hz) _).far (p := ⟨G, 16, none⟩) (Nat.ne_of_lt hz) _).far (p := ⟨G, 17, none⟩) (Nat.ne_of_lt hz) _)
  go_wp2_with fail
  refine bodyPost_ret (v := .agg (obC n (.slice none 0 0)).toArray) (results_cell_row Try.results37 _ _ w.heap.size 43 (obC n (.slice none 0 0)).toArray (0, 0) _ rfl (Bk.setRow (t := 43) (cs := zeroObj) ?hg2 _) Try.underlying43 rfl (by kernel_rfl)) rfl ⟨rfl, below_setRow ?hb2 (Nat.le_refl _) _⟩
  case hg2 => exact ((((((RR.out.far (p := ⟨G, 1, none⟩) (Nat.ne_of_lt hz) _).far (p := ⟨G, 2, none⟩) (Nat.ne_of_lt hz) _).far (p := ⟨G, 3, none⟩) (Nat.ne_of_lt hz) _).far (p := ⟨G, 4, none⟩) (Nat.ne_of_lt hz) _).far (p := ⟨G, 16, none⟩) (Nat.ne_of_lt hz) _).far (p := ⟨G, 17, none⟩) (Nat.ne_of_lt hz) _)
  case hb2 => exact ((((((Bt.out.setCell (p := ⟨G, 1, none⟩) (Nat.le_of_lt hz) _).setCell (p := ⟨G, 2, none⟩) (Nat.le_of_lt hz) _).setCell (p := ⟨G, 3, none⟩) (Nat.le_of_lt hz) _).setCell (p := ⟨G, 4, none⟩) (Nat.le_of_lt hz) _).setCell (p := ⟨G, 16, none⟩) (Nat.le_of_lt hz) _).setCell (p := ⟨G, 17, none⟩) (Nat.le_of_lt hz) _)

set_option maxHeartbeats 4000000 in
set_option maxRecDepth 100000 in
theorem made_E (n : Int) (h : 20 ≤ n) (w : World) : Calls Try.prog 37 #[.int .i64 n] w (MadeQ n w) := by
  have k1 : kd n = 7 := by unfold kd; split <;> (try split) <;> omega
  have e1 : obC n (.slice none 0 0) = [.int .u8 5, .int .u8 7, .float .f64 0, .string ⟨#[]⟩, .int .i64 1, .bool true, .slice none 0 0, .int .u8 0, .float .f64 0, .string ⟨#[]⟩, .int .i64 0, .int .u8 0, .float .f64 0, .string ⟨#[]⟩, .int .i64 0, .string ⟨#[]⟩, .bool true, .bool false] := by unfold obC oK pK pR; rw [k1]; (repeat (first | rw [if_pos (by omega)] | rw [if_neg (by omega)])); rfl
  have K : Hid (∀ W, Calls Try.prog 50 #[.int .i64 n] W fun e w' => e = .returned (.int .u8 7) ∧ W = w') := hid fun W => by have h := kind_any n W; rw [k1] at h; exact h
  have E1 := hid e1
  clear k1 e1
  have q2 : 14 ≤ n := by omega
  have q0 : (n == 0) = false := by rw [beq_eq_false_iff_ne]; omega
  have q1 : (n == 1) = false := by rw [beq_eq_false_iff_ne]; omega
  have q3 : ¬ n ≤ 10 := by omega
  have q4 : 8 ≤ n := by omega
  go_enter Try.func37, Try.ntmps37
  go_upto_region 1 with fail
  go_cut [3] from 4 to 900 (fun s3 wx => ∃ G : Nat, s3 = .pointer (some ⟨G, 0, none⟩) ∧ Bk wx G 43 #[.int .u8 1, .int .u8 6, .float .f64 0, .string ⟨#[]⟩, .int .i64 0, .bool true, .slice none 0 0, .int .u8 0, .float .f64 0, .string ⟨#[]⟩, .int .i64 0, .int .u8 0, .float .f64 0, .string ⟨#[]⟩, .int .i64 0, .string ⟨#[]⟩, .bool false, .bool false] ∧ w.heap.size < G ∧ Bk wx w.heap.size 43 zeroObj ∧ Below w.heap.size w wx)
  case first =>
    go_wp2_with fail
    refine (obj0_any _).mono ?_; rintro e w1 ⟨rfl, hb⟩
    have hz : w.heap.size < w1.heap.size := by have := hb.size; simp at this; omega
    have RR := hid ((Bk.new w 43 zeroObj).on hb)
    have Bt := hid (grow (box1 w (.cells zeroObj 43)) hb)
    clear hb
    go_wp2_with (first | (refine wpList_build_to (by rfl) 43 _ (by rfl) #[.int .u8 1, .int .u8 6, .float .f64 0, .string ⟨#[]⟩, .int .i64 0, .bool true, .slice none 0 0, .int .u8 0, .float .f64 0, .string ⟨#[]⟩, .int .i64 0, .int .u8 0, .float .f64 0, .string ⟨#[]⟩, .int .i64 0, .string ⟨#[]⟩, .bool false, .bool false] (by kernel_rfl) ?_) | (refine wpList_store_new (by rfl) 43 (.tmp 3) (.tmp 5) (by rfl) #[.int .u8 1, .int .u8 6, .float .f64 0, .string ⟨#[]⟩, .int .i64 0, .bool true, .slice none 0 0, .int .u8 0, .float .f64 0, .string ⟨#[]⟩, .int .i64 0, .int .u8 0, .float .f64 0, .string ⟨#[]⟩, .int .i64 0, .string ⟨#[]⟩, .bool false, .bool false] 43 zeroObj (by rfl) (by rfl) (by kernel_rfl) (by rfl) (by kernel_rfl) ?_))
    go_meet
    case rel => exact ⟨w1.heap.size, rfl, Bk.new _ _ _, hz, RR.out.alloc _, Bt.out.alloc Bt.out.size _⟩
  case rest =>
  obtain ⟨G, rfl, hu, hz, hr, hb⟩ := hcut
  have UU := hid hu
  have RR := hid hr
  have Bt := hid hb
  clear hu hr hb
  obtain ⟨u0, u1, u2, u3, u4, u5, u6, u7, u8, u9, u10, u11, u12, u13, u14, u15, u16, u17, fu⟩ := UU.out.facts18
  go_wp2_with fail
  refine (obj1_any _).mono ?_; rintro e w2 ⟨rfl, hb⟩
  have UU : Hid (Bk w2 G 43 #[.int .u8 5, .int .u8 6, .float .f64 0, .string ⟨#[]⟩, .int .i64 0, .bool true, .slice none 0 0, .int .u8 0, .float .f64 0, .string ⟨#[]⟩, .int .i64 0, .int .u8 0, .float .f64 0, .string ⟨#[]⟩, .int .i64 0, .string ⟨#[]⟩, .bool false, .bool false]) := hid (Bk.eq (Bk.on (UU.out.set 0 _) hb) rfl)
  have RR : Hid (Bk w2 w.heap.size 43 zeroObj) := hid (Bk.on (RR.out.far (p := ⟨G, 0, none⟩) (Nat.ne_of_lt hz) _) hb)
  have Bt : Hid (Below w.heap.size w w2) := hid (grow (Bt.out.setCell (p := ⟨G, 0, none⟩) (Nat.le_of_lt hz) _) hb)
  clear hb
  obtain ⟨u0, u1, u2, u3, u4, u5, u6, u7, u8, u9, u10, u11, u12, u13, u14, u15, u16, u17, fu⟩ := UU.out.facts18
  go_wp2_with (first | (go_at_call 50; refine (K.out _).mono ?_; rintro e w' ⟨rfl, rfl⟩) | (refine wpList_load_row (by rfl) 43 (.tmp 3) (by rfl) G (by rfl) 43 (obC n (.slice none 0 0)).toArray (0, 0) _ ?hU Try.underlying43 (by rfl) (by kernel_rfl) ?_) | (refine wpList_store_row (by rfl) 43 (.tmp 2) (.tmp 38) (by rfl) w.heap.size (obC n (.slice none 0 0)).toArray (by rfl) (by rfl) 43 zeroObj ?hg (by kernel_rfl) (by rfl) (obC_arr rfl) ?_))
  case hU => exact Bk.eq ((((((UU.out.set 1 _).set 2 _).set 3 _).set 4 _).set 16 _).set 17 _) (by rw [E1.out]; rfl)
  case hg => exact ((((((RR.out.far (p := ⟨G, 1, none⟩) (Nat.ne_of_lt hz) _).far (p := ⟨G, 2, none⟩) (Nat.ne_of_lt hz) _).far (p := ⟨G, 3, none⟩) (Nat.ne_of_lt hz) _).far (p := ⟨G, 4, none⟩) (Nat.ne_of_lt hz) _).far (p := ⟨G, 16, none⟩) (Nat.ne_of_lt hz) _).far (p := ⟨G, 17, none⟩) (Nat.ne_of_lt hz) _)
  go_wp2_with fail
  refine bodyPost_ret (v := .agg (obC n (.slice none 0 0)).toArray) (results_cell_row Try.results37 _ _ w.heap.size 43 (obC n (.slice none 0 0)).toArray (0, 0) _ rfl (Bk.setRow (t := 43) (cs := zeroObj) ?hg2 _) Try.underlying43 rfl (by kernel_rfl)) rfl ⟨rfl, below_setRow ?hb2 (Nat.le_refl _) _⟩
  case hg2 => exact ((((((RR.out.far (p := ⟨G, 1, none⟩) (Nat.ne_of_lt hz) _).far (p := ⟨G, 2, none⟩) (Nat.ne_of_lt hz) _).far (p := ⟨G, 3, none⟩) (Nat.ne_of_lt hz) _).far (p := ⟨G, 4, none⟩) (Nat.ne_of_lt hz) _).far (p := ⟨G, 16, none⟩) (Nat.ne_of_lt hz) _).far (p := ⟨G, 17, none⟩) (Nat.ne_of_lt hz) _)
  case hb2 => exact ((((((Bt.out.setCell (p := ⟨G, 1, none⟩) (Nat.le_of_lt hz) _).setCell (p := ⟨G, 2, none⟩) (Nat.le_of_lt hz) _).setCell (p := ⟨G, 3, none⟩) (Nat.le_of_lt hz) _).setCell (p := ⟨G, 4, none⟩) (Nat.le_of_lt hz) _).setCell (p := ⟨G, 16, none⟩) (Nat.le_of_lt hz) _).setCell (p := ⟨G, 17, none⟩) (Nat.le_of_lt hz) _)

set_option maxHeartbeats 4000000 in
set_option maxRecDepth 100000 in
theorem made_F (n : Int) (h : 2 ≤ n ∧ n ≤ 7) (w : World) : Calls Try.prog 37 #[.int .i64 n] w (MadeQ n w) := by
  have k1 : kd n = 6 := by unfold kd; split <;> (try split) <;> omega
  have e1 : obC n (.slice none 0 0) = [.int .u8 1, .int .u8 6, .float .f64 0, .string ⟨#[]⟩, .int .i64 0, .bool true, .slice none 0 0, .int .u8 0, .float .f64 0, .string ⟨#[]⟩, .int .i64 0, .int .u8 0, .float .f64 0, .string ⟨#[]⟩, .int .i64 0, .string ⟨#[]⟩, .bool false, .bool false] := by unfold obC oK pK pR; rw [k1]; (repeat (first | rw [if_pos (by omega)] | rw [if_neg (by omega)])); rfl
  have K : Hid (∀ W, Calls Try.prog 50 #[.int .i64 n] W fun e w' => e = .returned (.int .u8 6) ∧ W = w') := hid fun W => by have h := kind_any n W; rw [k1] at h; exact h
  have E1 := hid e1
  clear k1 e1
  obtain ⟨h1, h2⟩ := h
  have q0 : (n == 0) = false := by rw [beq_eq_false_iff_ne]; omega
  have q1 : (n == 1) = false := by rw [beq_eq_false_iff_ne]; omega
  have q2 : ¬ 14 ≤ n := by omega
  have q3 : ¬ 8 ≤ n := by omega
  go_enter Try.func37, Try.ntmps37
  go_upto_region 1 with fail
  go_cut [3] from 4 to 900 (fun s3 wx => ∃ G : Nat, s3 = .pointer (some ⟨G, 0, none⟩) ∧ Bk wx G 43 #[.int .u8 1, .int .u8 6, .float .f64 0, .string ⟨#[]⟩, .int .i64 0, .bool true, .slice none 0 0, .int .u8 0, .float .f64 0, .string ⟨#[]⟩, .int .i64 0, .int .u8 0, .float .f64 0, .string ⟨#[]⟩, .int .i64 0, .string ⟨#[]⟩, .bool false, .bool false] ∧ w.heap.size < G ∧ Bk wx w.heap.size 43 zeroObj ∧ Below w.heap.size w wx)
  case first =>
    go_wp2_with fail
    refine (obj0_any _).mono ?_; rintro e w1 ⟨rfl, hb⟩
    have hz : w.heap.size < w1.heap.size := by have := hb.size; simp at this; omega
    have RR := hid ((Bk.new w 43 zeroObj).on hb)
    have Bt := hid (grow (box1 w (.cells zeroObj 43)) hb)
    clear hb
    go_wp2_with (first | (refine wpList_build_to (by rfl) 43 _ (by rfl) #[.int .u8 1, .int .u8 6, .float .f64 0, .string ⟨#[]⟩, .int .i64 0, .bool true, .slice none 0 0, .int .u8 0, .float .f64 0, .string ⟨#[]⟩, .int .i64 0, .int .u8 0, .float .f64 0, .string ⟨#[]⟩, .int .i64 0, .string ⟨#[]⟩, .bool false, .bool false] (by kernel_rfl) ?_) | (refine wpList_store_new (by rfl) 43 (.tmp 3) (.tmp 5) (by rfl) #[.int .u8 1, .int .u8 6, .float .f64 0, .string ⟨#[]⟩, .int .i64 0, .bool true, .slice none 0 0, .int .u8 0, .float .f64 0, .string ⟨#[]⟩, .int .i64 0, .int .u8 0, .float .f64 0, .string ⟨#[]⟩, .int .i64 0, .string ⟨#[]⟩, .bool false, .bool false] 43 zeroObj (by rfl) (by rfl) (by kernel_rfl) (by rfl) (by kernel_rfl) ?_))
    go_meet
    case rel => exact ⟨w1.heap.size, rfl, Bk.new _ _ _, hz, RR.out.alloc _, Bt.out.alloc Bt.out.size _⟩
  case rest =>
  obtain ⟨G, rfl, hu, hz, hr, hb⟩ := hcut
  have UU := hid hu
  have RR := hid hr
  have Bt := hid hb
  clear hu hr hb
  obtain ⟨u0, u1, u2, u3, u4, u5, u6, u7, u8, u9, u10, u11, u12, u13, u14, u15, u16, u17, fu⟩ := UU.out.facts18
  go_wp2_with (first | (go_at_call 50; refine (K.out _).mono ?_; rintro e w' ⟨rfl, rfl⟩) | (refine wpList_load_row (by rfl) 43 (.tmp 3) (by rfl) G (by rfl) 43 (obC n (.slice none 0 0)).toArray (0, 0) _ ?hU Try.underlying43 (by rfl) (by kernel_rfl) ?_) | (refine wpList_store_row (by rfl) 43 (.tmp 2) (.tmp 38) (by rfl) w.heap.size (obC n (.slice none 0 0)).toArray (by rfl) (by rfl) 43 zeroObj ?hg (by kernel_rfl) (by rfl) (obC_arr rfl) ?_))
  case hU => exact Bk.eq ((UU.out.set 16 _).set 17 _) (by rw [E1.out]; rfl)
  case hg => exact ((RR.out.far (p := ⟨G, 16, none⟩) (Nat.ne_of_lt hz) _).far (p := ⟨G, 17, none⟩) (Nat.ne_of_lt hz) _)
  go_wp2_with fail
  refine bodyPost_ret (v := .agg (obC n (.slice none 0 0)).toArray) (results_cell_row Try.results37 _ _ w.heap.size 43 (obC n (.slice none 0 0)).toArray (0, 0) _ rfl (Bk.setRow (t := 43) (cs := zeroObj) ?hg2 _) Try.underlying43 rfl (by kernel_rfl)) rfl ⟨rfl, below_setRow ?hb2 (Nat.le_refl _) _⟩
  case hg2 => exact ((RR.out.far (p := ⟨G, 16, none⟩) (Nat.ne_of_lt hz) _).far (p := ⟨G, 17, none⟩) (Nat.ne_of_lt hz) _)
  case hb2 => exact ((Bt.out.setCell (p := ⟨G, 16, none⟩) (Nat.le_of_lt hz) _).setCell (p := ⟨G, 17, none⟩) (Nat.le_of_lt hz) _)

set_option maxHeartbeats 4000000 in
set_option maxRecDepth 100000 in
theorem made_G (n : Int) (h : 11 ≤ n ∧ n ≤ 13) (w : World) : Calls Try.prog 37 #[.int .i64 n] w (MadeQ n w) := by
  have k1 : kd n = 6 := by unfold kd; split <;> (try split) <;> omega
  have e1 : obC n (.slice none 0 0) = [.int .u8 1, .int .u8 6, .float .f64 0, .string ⟨#[]⟩, .int .i64 0, .bool true, .slice none 0 0, .int .u8 0, .float .f64 0, .string ⟨#[]⟩, .int .i64 0, .int .u8 0, .float .f64 0, .string ⟨#[]⟩, .int .i64 0, .string ⟨#[]⟩, .bool false, .bool false] := by unfold obC oK pK pR; rw [k1]; (repeat (first | rw [if_pos (by omega)] | rw [if_neg (by omega)])); rfl
  have K : Hid (∀ W, Calls Try.prog 50 #[.int .i64 n] W fun e w' => e = .returned (.int .u8 6) ∧ W = w') := hid fun W => by have h := kind_any n W; rw [k1] at h; exact h
  have E1 := hid e1
  clear k1 e1
  obtain ⟨h1, h2⟩ := h
  have q0 : (n == 0) = false := by rw [beq_eq_false_iff_ne]; omega
  have q1 : (n == 1) = false := by rw [beq_eq_false_iff_ne]; omega
  have q2 : ¬ 14 ≤ n := by omega
  have q3 : 8 ≤ n := by omega
  have q4 : ¬ n ≤ 10 := by omega
  go_enter Try.func37, Try.ntmps37
  go_upto_region 1 with fail
  go_cut [3] from 4 to 900 (fun s3 wx => ∃ G : Nat, s3 = .pointer (some ⟨G, 0, none⟩) ∧ Bk wx G 43 #[.int .u8 1, .int .u8 6, .float .f64 0, .string ⟨#[]⟩, .int .i64 0, .bool true, .slice none 0 0, .int .u8 0, .float .f64 0, .string ⟨#[]⟩, .int .i64 0, .int .u8 0, .float .f64 0, .string ⟨#[]⟩, .int .i64 0, .string ⟨#[]⟩, .bool false, .bool false] ∧ w.heap.size < G ∧ Bk wx w.heap.size 43 zeroObj ∧ Below w.heap.size w wx)
  case first =>
    go_wp2_with fail
    refine (obj0_any _).mono ?_; rintro e w1 ⟨rfl, hb⟩
    have hz : w.heap.size < w1.heap.size := by have := hb.size; simp at this; omega
    have RR := hid ((Bk.new w 43 zeroObj).on hb)
    have Bt := hid (grow (box1 w (.cells zeroObj 43)) hb)
    clear hb
    go_wp2_with (first | (refine wpList_build_to (by rfl) 43 _ (by rfl) #[.int .u8 1, .int .u8 6, .float .f64 0, .string ⟨#[]⟩, .int .i64 0, .bool true, .slice none 0 0, .int .u8 0, .float .f64 0, .string ⟨#[]⟩, .int .i64 0, .int .u8 0, .float .f64 0, .string ⟨#[]⟩, .int .i64 0, .string ⟨#[]⟩, .bool false, .bool false] (by kernel_rfl) ?_) | (refine wpList_store_new (by rfl) 43 (.tmp 3) (.tmp 5) (by rfl) #[.int .u8 1, .int .u8 6, .float .f64 0, .string ⟨#[]⟩, .int .i64 0, .bool true, .slice none 0 0, .int .u8 0, .float .f64 0, .string ⟨#[]⟩, .int .i64 0, .int .u8 0, .float .f64 0, .string ⟨#[]⟩, .int .i64 0, .string ⟨#[]⟩, .bool false, .bool false] 43 zeroObj (by rfl) (by rfl) (by kernel_rfl) (by rfl) (by kernel_rfl) ?_))
    go_meet
    case rel => exact ⟨w1.heap.size, rfl, Bk.new _ _ _, hz, RR.out.alloc _, Bt.out.alloc Bt.out.size _⟩
  case rest =>
  obtain ⟨G, rfl, hu, hz, hr, hb⟩ := hcut
  have UU := hid hu
  have RR := hid hr
  have Bt := hid hb
  clear hu hr hb
  obtain ⟨u0, u1, u2, u3, u4, u5, u6, u7, u8, u9, u10, u11, u12, u13, u14, u15, u16, u17, fu⟩ := UU.out.facts18
  go_wp2_with (first | (go_at_call 50; refine (K.out _).mono ?_; rintro e w' ⟨rfl, rfl⟩) | (refine wpList_load_row (by rfl) 43 (.tmp 3) (by rfl) G (by rfl) 43 (obC n (.slice none 0 0)).toArray (0, 0) _ ?hU Try.underlying43 (by rfl) (by kernel_rfl) ?_) | (refine wpList_store_row (by rfl) 43 (.tmp 2) (.tmp 38) (by rfl) w.heap.size (obC n (.slice none 0 0)).toArray (by rfl) (by rfl) 43 zeroObj ?hg (by kernel_rfl) (by rfl) (obC_arr rfl) ?_))
  case hU => exact Bk.eq ((UU.out.set 16 _).set 17 _) (by rw [E1.out]; rfl)
  case hg => exact ((RR.out.far (p := ⟨G, 16, none⟩) (Nat.ne_of_lt hz) _).far (p := ⟨G, 17, none⟩) (Nat.ne_of_lt hz) _)
  go_wp2_with fail
  refine bodyPost_ret (v := .agg (obC n (.slice none 0 0)).toArray) (results_cell_row Try.results37 _ _ w.heap.size 43 (obC n (.slice none 0 0)).toArray (0, 0) _ rfl (Bk.setRow (t := 43) (cs := zeroObj) ?hg2 _) Try.underlying43 rfl (by kernel_rfl)) rfl ⟨rfl, below_setRow ?hb2 (Nat.le_refl _) _⟩
  case hg2 => exact ((RR.out.far (p := ⟨G, 16, none⟩) (Nat.ne_of_lt hz) _).far (p := ⟨G, 17, none⟩) (Nat.ne_of_lt hz) _)
  case hb2 => exact ((Bt.out.setCell (p := ⟨G, 16, none⟩) (Nat.le_of_lt hz) _).setCell (p := ⟨G, 17, none⟩) (Nat.le_of_lt hz) _)

theorem made_any (n : Int) (h0 : 0 ≤ n) (w : World) : Calls Try.prog 37 #[.int .i64 n] w (MadeQ n w) := by
  rcases (show n = 0 ∨ n = 1 ∨ (2 ≤ n ∧ n ≤ 7) ∨ (8 ≤ n ∧ n ≤ 10) ∨ (11 ≤ n ∧ n ≤ 13) ∨ (14 ≤ n ∧ n < 20) ∨ 20 ≤ n by omega) with h | h | h | h | h | h | h
  · exact made_A n h w
  · exact made_B n h w
  · exact made_F n h w
  · exact made_C n h w
  · exact made_G n h w
  · exact made_D n h w
  · exact made_E n h w

end Go.Proofs.Ytchpkopeblgifaa
