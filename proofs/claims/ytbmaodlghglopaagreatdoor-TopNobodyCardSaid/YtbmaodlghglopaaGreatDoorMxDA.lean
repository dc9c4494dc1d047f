/-
  The walks of post.Name and Method and of the reference's own: a trap's name by its number, the first number of a name; and of the law.
  The trap of isExtensible, begun.
-/
import Derived.Test.YtbmaodlghglopaaGreatDoorRows
import Derived.Test.YtbmaodlghglopaaGreatDoorMxC
import Derived.WalkKit
import Derived.WalkSpells
import Derived.WalkLawsBesides
import Derived.Deep.QuietTactic
import Derived.BigQuiet
import Derived.Deep.LoopGhost
import Derived.Test.YtbmaodlghglopaaGreatDoorTp3
namespace Go.Proofs.YtbmaodlghglopaaGreatDoor
open Go.RowKit

/-- The traps' names, by their numbers. -/
def names : List ByteArray := [⟨#[]⟩, ⟨#[103, 101, 116, 80, 114, 111, 116, 111, 116, 121, 112, 101, 79, 102]⟩, ⟨#[115, 101, 116, 80, 114, 111, 116, 111, 116, 121, 112, 101, 79, 102]⟩, ⟨#[105, 115, 69, 120, 116, 101, 110, 115, 105, 98, 108, 101]⟩,
  ⟨#[112, 114, 101, 118, 101, 110, 116, 69, 120, 116, 101, 110, 115, 105, 111, 110, 115]⟩, ⟨#[103, 101, 116, 79, 119, 110, 80, 114, 111, 112, 101, 114, 116, 121, 68, 101, 115, 99, 114, 105, 112, 116, 111, 114]⟩,
  ⟨#[100, 101, 102, 105, 110, 101, 80, 114, 111, 112, 101, 114, 116, 121]⟩, ⟨#[104, 97, 115]⟩, ⟨#[103, 101, 116]⟩, ⟨#[115, 101, 116]⟩, ⟨#[100, 101, 108, 101, 116, 101, 80, 114, 111, 112, 101, 114, 116, 121]⟩, ⟨#[111, 119, 110, 75, 101, 121, 115]⟩, ⟨#[97, 112, 112, 108, 121]⟩, ⟨#[99, 111, 110, 115, 116, 114, 117, 99, 116]⟩]
def nameOf (m : Int) : ByteArray := names.getD m.toNat ⟨#[]⟩

theorem cases14 (m : Int) (h0 : 0 ≤ m) : m = 1 ∨ m = 2 ∨ m = 3 ∨ m = 4 ∨ m = 5 ∨ m = 6 ∨ m = 7 ∨ m = 8 ∨ m = 9 ∨ m = 10 ∨ m = 11 ∨ m = 12 ∨ m = 13 ∨ ((m = 0 ∨ 13 < m) ∧ nameOf m = ⟨#[]⟩) := by
  by_cases h : 1 ≤ m ∧ m ≤ 13
  · omega
  · have h' : m = 0 ∨ 13 < m := by omega
    have e : nameOf m = ⟨#[]⟩ := by
      rcases h' with h' | h'
      · subst h'; rfl
      · unfold nameOf; rw [List.getD_eq_getElem?_getD, List.getElem?_eq_none (by show (14 : Nat) ≤ _; omega)]; rfl
    exact Or.inr (Or.inr (Or.inr (Or.inr (Or.inr (Or.inr (Or.inr (Or.inr (Or.inr (Or.inr (Or.inr (Or.inr (Or.inr ⟨h', e⟩))))))))))))

set_option maxHeartbeats 1000000 in
theorem name_any (m : Int) (h0 : 0 ≤ m) (w : World) :
    Calls Tryz.prog 111 #[.int .u8 m] w fun e w' => e = .returned (.string (nameOf m)) ∧ w = w' := by
  rcases cases14 m h0 with rfl | rfl | rfl | rfl | rfl | rfl | rfl | rfl | rfl | rfl | rfl | rfl | rfl | ⟨h, hn⟩
  case inr.inr.inr.inr.inr.inr.inr.inr.inr.inr.inr.inr.inr =>
    rw [hn]
    clear hn
    rcases h with rfl | h
    all_goals
      go_enter Tryz.func111, Tryz.ntmps111
      go_wp2
      go_ret
      exact ⟨rfl, rfl⟩
  all_goals
    go_enter Tryz.func111, Tryz.ntmps111
    go_wp2
    go_ret
    exact ⟨rfl, rfl⟩

end Go.Proofs.YtbmaodlghglopaaGreatDoor

namespace Go.Proofs.YtbmaodlghglopaaGreatDoor
open Go.RowKit

/-- The ask whether an object is extensible. -/
def extA (n : Int) : AI := { AI.zero with m := 3, ob := n }
/-- A proxy's ask: the handler's trap, and without it the target. -/
def trapS (a : AI) (tg hd : VI) (nm : ByteArray) : List (OI × List KI) → Res
  | [] => .want (fun _ => methW (getA hd ⟨nm, 0⟩)) []
  | e :: [] => if e.1.kd = 1 then (if e.1.v.k = 0 then .want (fun av => methW { a with ob := tg.r, args := av }) [] else .out OI.zero []) else .out e.1 e.2
  | e :: e2 :: _ => if e.1.kd = 1 then (if e.1.v.k = 0 then .out e2.1 e2.2 else .out OI.zero []) else .out e.1 e.2
abbrev runC (p : Nat) (a : AI) (t : VI) : Array Value := #[.pointer (some ⟨p, 0, none⟩), .int .u8 a.m, .int .i64 a.ob, .string a.k.s, .int .i64 a.k.n, .int .u8 a.d.has, .int .u8 a.d.v.k, .float .f64 a.d.v.x, .string a.d.v.s, .int .i64 a.d.v.r, .int .u8 a.d.g.k, .float .f64 a.d.g.x, .string a.d.g.s, .int .i64 a.d.g.r, .int .u8 a.d.t.k, .float .f64 a.d.t.x, .string a.d.t.s, .int .i64 a.d.t.r, .bool a.d.wr, .bool a.d.en, .bool a.d.cf, .int .u8 a.v.k, .float .f64 a.v.x, .string a.v.s, .int .i64 a.v.r, .int .u8 a.r.k, .float .f64 a.r.x, .string a.r.s, .int .i64 a.r.r, a.args, .int .u8 t.k, .float .f64 t.x, .string t.s, .int .i64 t.r, .bool false, .int .u8 0, .float .f64 0, .string ⟨#[]⟩, .int .i64 0, .bool false, .int .u8 0, .int .u8 0, .float .f64 0, .string ⟨#[]⟩, .int .i64 0, .int .u8 0, .float .f64 0, .string ⟨#[]⟩, .int .i64 0, .int .u8 0, .float .f64 0, .string ⟨#[]⟩, .int .i64 0, .bool false, .bool false, .bool false, .slice none 0 0, .slice none 0 0]
set_option maxHeartbeats 8000000 in
set_option maxRecDepth 100000 in
theorem objectT_any (v : VI) (h0 : 0 ≤ v.k) (hm : v.may = true) (ho : isObj v.k = true) (o : Int) (w : World) : Calls Tryz.prog 107 #[v.a, .int .u8 o] w fun e w' => e = .returned (.bool true) ∧ Below w.heap.size w w' := by
  have MA := hidB (fun W => vmay_any v.k v.x v.s v.r h0 W)
  have HM := hidB (show mayV v.k v.x v.s v.r = true from hm)
  have HO := hidB ho
  clear h0 hm ho
  have X := hidB (show Bk (w.alloc (.cells (v.cells.toArray) 29)) (w.heap.size) 29 (v.cells.toArray) from Bk.new w _ _)
  have B := hidB (show Below w.heap.size w (w.alloc (.cells (v.cells.toArray) 29)) from box_one w _)
  go_enter Tryz.func107, Tryz.ntmps107
  go_upto_region 1 with fail
  generalize hW : (w.alloc (.cells (v.cells.toArray) 29)) = w1 at *
  clear hW
  go_wp2_with (first | ((with_reducible refine ldId 29 (.tmp 2) ?_); refine wpList_load_row (by rfl) 29 (.tmp 2) (by rfl) (w.heap.size) (by rfl) 29 (v.cells.toArray) (0, 0) _ (by exact X.out) Tryz.underlying29 (by rfl) (by kernel_rfl) ?_))
  refine (MA.out _).mono ?_; rintro e w2 ⟨rfl, hb⟩
  rw [HM.out]
  replace X := hidB (X.out.on hb)
  replace B := hidB (B.out.trans (hb.mono B.out.size))
  clear hb
  go_wp2_with (first | ((with_reducible refine ldId 29 (.tmp 2) ?_); refine wpList_wload_mid 29 (.tmp 2) (by rfl) (by rfl) (w.heap.size) 0 (by rfl) (v.cells) _ (by exact Bk.mid X.out 0 _ rfl) Tryz.underlying29 (by rfl) (by kernel_rfl) ?_))
  refine (isObjB_any v _).mono ?_; rintro e w3 ⟨rfl, hb⟩
  rw [HO.out]
  replace B := hidB (B.out.trans (hb.mono B.out.size))
  clear hb
  go_wp2_with fail
  go_ret
  exact ⟨rfl, B.out⟩
set_option maxHeartbeats 8000000 in
set_option maxRecDepth 100000 in
theorem indexV_nil (pa : Option Addr) (c : Nat) (fv : Value) (w : World) : Calls Tryz.prog 141 #[.slice pa 0 c, fv] w fun e w' => e = .returned (.int .i64 (-1)) ∧ w' = w := by
  go_enter Tryz.func141, Tryz.ntmps141
  go_wp2_with fail
  go_loopw [8] (fun i wr => i = .int .i64 0 ∧ wr = w) (fun _ _ => 0)
  case atStart => exact ⟨rfl, rfl⟩
  case round =>
    obtain ⟨rfl, rfl⟩ := hrel
    go_wp2_with fail
    go_ret
    exact ⟨rfl, rfl⟩
set_option maxHeartbeats 8000000 in
set_option maxRecDepth 100000 in
theorem containsV_nil (pa : Option Addr) (c : Nat) (fv : Value) (w : World) : Calls Tryz.prog 108 #[.slice pa 0 c, fv] w fun e w' => e = .returned (.bool false) ∧ w' = w := by
  go_enter Tryz.func108, Tryz.ntmps108
  go_wp2_with fail
  refine (indexV_nil pa c fv w).mono ?_; rintro e w2 ⟨rfl, rfl⟩
  go_wp2_with fail
  go_ret
  exact ⟨rfl, rfl⟩
set_option maxHeartbeats 8000000 in
set_option maxRecDepth 100000 in
theorem wrongT_ext (n : Int) (tg hd : VI) (t0 : 0 ≤ tg.k) (t1 : tg.may = true) (t2 : isObj tg.k = true) (h0 : 0 ≤ hd.k) (h1 : hd.may = true) (h2 : isObj hd.k = true) (w : World) : Calls Tryz.prog 74 #[(extA n).a, tg.a, hd.a] w fun e w' => e = .returned (.int .i64 0) ∧ Below w.heap.size w w' := by
  have OA := hidB (objectT_any tg t0 t1 t2 0)
  have OB := hidB (objectT_any hd h0 h1 h2 1)
  clear t0 t1 t2 h0 h1 h2
  have Y := hidB (show Bk (((w.alloc (.cells ((extA n).cs) 34)).alloc (.cells (tg.cells.toArray) 29)).alloc (.cells (hd.cells.toArray) 29)) (w.heap.size) 34 ((extA n).cs) from ((Bk.new w _ _).alloc _).alloc _)
  have X0 := hidB (show Bk (((w.alloc (.cells ((extA n).cs) 34)).alloc (.cells (tg.cells.toArray) 29)).alloc (.cells (hd.cells.toArray) 29)) (w.heap.size + 1) 29 (tg.cells.toArray) from (Bk.new2 w _ _ _).alloc _)
  have X1 := hidB (show Bk (((w.alloc (.cells ((extA n).cs) 34)).alloc (.cells (tg.cells.toArray) 29)).alloc (.cells (hd.cells.toArray) 29)) (w.heap.size + 1 + 1) 29 (hd.cells.toArray) from Bk.new3 w _ _ _ _)
  have B := hidB (show Below w.heap.size w (((w.alloc (.cells ((extA n).cs) 34)).alloc (.cells (tg.cells.toArray) 29)).alloc (.cells (hd.cells.toArray) 29)) from ((box_one w _).alloc (by simp) _).alloc (by simp <;> omega) _)
  go_enter Tryz.func74, Tryz.ntmps74
  go_upto_region 1 with fail
  generalize hW : (((w.alloc (.cells ((extA n).cs) 34)).alloc (.cells (tg.cells.toArray) 29)).alloc (.cells (hd.cells.toArray) 29)) = w1 at *
  clear hW
  have y0 : w1.cell? ⟨w.heap.size, 0, none⟩ = some (.int .u8 3) := Y.out.cell 0
  go_wp2_with fail
  refine (keyedT_any 3 _).mono ?_; rintro e w2 ⟨rfl, rfl⟩
  rw [show (decide ((5 : Int) ≤ 3) && decide ((3 : Int) ≤ 10)) = false from rfl]
  go_wp2_with (first | ((with_reducible refine ldId 29 (.tmp 33) ?_); refine wpList_load_mid (by rfl) 29 (.tmp 33) (by rfl) (w.heap.size) (20) (by rfl) (VI.zero.cells) _ (by exact (show w2.rangeAt (w.heap.size) 20 VI.zero.cells from Bk.mid Y.out 20 _ rfl)) Tryz.underlying29 (by rfl) (by kernel_rfl) ?_))
  refine (vmay_any 0 0 ⟨#[]⟩ 0 (by decide) _).mono ?_; rintro e w3 ⟨rfl, hb⟩
  rw [show mayV 0 0 ⟨#[]⟩ 0 = true by kernel_rfl]
  replace Y := hidB (Y.out.on hb)
  replace X0 := hidB (X0.out.on hb)
  replace X1 := hidB (X1.out.on hb)
  replace B := hidB (B.out.trans (hb.mono B.out.size))
  clear hb
  go_wp2_with (first | ((with_reducible refine ldId 29 (.tmp 38) ?_); refine wpList_wload_mid 29 (.tmp 38) (by rfl) (by rfl) (w.heap.size) (24) (by rfl) (VI.zero.cells) _ (by exact (show w3.rangeAt (w.heap.size) 24 VI.zero.cells from Bk.mid Y.out 24 _ rfl)) Tryz.underlying29 (by rfl) (by kernel_rfl) ?_))
  refine (vmay_any 0 0 ⟨#[]⟩ 0 (by decide) _).mono ?_; rintro e w4 ⟨rfl, hb⟩
  rw [show mayV 0 0 ⟨#[]⟩ 0 = true by kernel_rfl]
  replace Y := hidB (Y.out.on hb)
  replace X0 := hidB (X0.out.on hb)
  replace X1 := hidB (X1.out.on hb)
  replace B := hidB (B.out.trans (hb.mono B.out.size))
  clear hb
  have y0 : w4.cell? ⟨w.heap.size, 0, none⟩ = some (.int .u8 3) := Y.out.cell 0
  have y28 : w4.cell? ⟨w.heap.size, 28, none⟩ = some (.slice none 0 0) := Y.out.cell 28
  go_wp2_with fail
  refine (containsV_nil none 0 _ _).mono ?_; rintro e w5 ⟨rfl, rfl⟩
  go_wp2_with (first | ((with_reducible refine ldId 29 (.tmp 4) ?_); refine wpList_wload_mid 29 (.tmp 4) (by rfl) (by rfl) (w.heap.size + 1) 0 (by rfl) (tg.cells) _ (by exact Bk.mid X0.out 0 _ rfl) Tryz.underlying29 (by rfl) (by kernel_rfl) ?_))
  refine (OA.out _).mono ?_; rintro e w6 ⟨rfl, hb⟩
  replace Y := hidB (Y.out.on hb)
  replace X1 := hidB (X1.out.on hb)
  replace B := hidB (B.out.trans (hb.mono B.out.size))
  clear hb
  go_wp2_with (first | ((with_reducible refine ldId 29 (.tmp 5) ?_); refine wpList_wload_mid 29 (.tmp 5) (by rfl) (by rfl) (w.heap.size + 1 + 1) 0 (by rfl) (hd.cells) _ (by exact Bk.mid X1.out 0 _ rfl) Tryz.underlying29 (by rfl) (by kernel_rfl) ?_))
  refine (OB.out _).mono ?_; rintro e w7 ⟨rfl, hb⟩
  replace Y := hidB (Y.out.on hb)
  replace B := hidB (B.out.trans (hb.mono B.out.size))
  clear hb
  have y0 : w7.cell? ⟨w.heap.size, 0, none⟩ = some (.int .u8 3) := Y.out.cell 0
  go_wp2_with fail
  go_ret
  exact ⟨rfl, B.out⟩
/-- What a trap has captured. -/
structure trapC (a : AI) (tg hd : VI) (ga gt gh : Nat) (w : World) : Prop where
  ca : Bk w ga 34 a.cs
  ct : Bk w gt 29 tg.cells.toArray
  ch : Bk w gh 29 hd.cells.toArray
def trapE (ga gt gh : Nat) (k : Nat) : Prop := k = ga ∨ k = gt ∨ k = gh
set_option maxHeartbeats 8000000 in
set_option maxRecDepth 100000 in
theorem startT_ext (n : Int) (tg hd : VI) (t0 : 0 ≤ tg.k) (t1 : tg.may = true) (t2 : isObj tg.k = true) (h0 : 0 ≤ hd.k) (h1 : hd.may = true) (h2 : isObj hd.k = true) (w : World) : Calls Tryz.prog 57 #[(extA n).a, tg.a, hd.a] w fun e w' => ∃ (T g : Nat) (av : Value), e = .returned (.tuple #[ptr T, .int .i64 0]) ∧ Below w.heap.size w w' ∧ Bk w' T 140 #[ptr g] ∧ Bk w' g 172 (machC 76 #[ptr (w.heap.size), ptr (w.heap.size + 1), ptr (w.heap.size + 1 + 1)] vNil 0 0 false false) ∧ trapC { extA n with args := av } tg hd (w.heap.size) (w.heap.size + 1) (w.heap.size + 1 + 1) w' ∧ (∃ pa c, av = .slice pa 0 c ∧ c ≤ maxLen) ∧ w.heap.size + 3 ≤ g ∧ g < T := by
  have WA := hidB (wrongT_ext n tg hd t0 t1 t2 h0 h1 h2)
  clear t0 t1 t2 h0 h1 h2
  have Y := hidB (show Bk (((w.alloc (.cells ((extA n).cs) 34)).alloc (.cells (tg.cells.toArray) 29)).alloc (.cells (hd.cells.toArray) 29)) (w.heap.size) 34 ((extA n).cs) from ((Bk.new w _ _).alloc _).alloc _)
  have X0 := hidB (show Bk (((w.alloc (.cells ((extA n).cs) 34)).alloc (.cells (tg.cells.toArray) 29)).alloc (.cells (hd.cells.toArray) 29)) (w.heap.size + 1) 29 (tg.cells.toArray) from (Bk.new2 w _ _ _).alloc _)
  have X1 := hidB (show Bk (((w.alloc (.cells ((extA n).cs) 34)).alloc (.cells (tg.cells.toArray) 29)).alloc (.cells (hd.cells.toArray) 29)) (w.heap.size + 1 + 1) 29 (hd.cells.toArray) from Bk.new3 w _ _ _ _)
  have B := hidB (show Below w.heap.size w (((w.alloc (.cells ((extA n).cs) 34)).alloc (.cells (tg.cells.toArray) 29)).alloc (.cells (hd.cells.toArray) 29)) from ((box_one w _).alloc (by simp) _).alloc (by simp <;> omega) _)
  go_enter Tryz.func57, Tryz.ntmps57
  go_upto_region 1 with fail
  generalize hW : (((w.alloc (.cells ((extA n).cs) 34)).alloc (.cells (tg.cells.toArray) 29)).alloc (.cells (hd.cells.toArray) 29)) = w1 at *
  clear hW
  go_wp2_with (first | ((with_reducible refine ldId 34 (.tmp 3) ?_); refine wpList_load_row (by rfl) 34 (.tmp 3) (by rfl) (w.heap.size) (by rfl) 34 ((extA n).cs) (0, 0) _ (by exact Y.out) Tryz.underlying34 (by rfl) (by kernel_rfl) ?_) | ((with_reducible refine ldId 29 (.tmp 4) ?_); refine wpList_load_row (by rfl) 29 (.tmp 4) (by rfl) (w.heap.size + 1) (by rfl) 29 (tg.cells.toArray) (0, 0) _ (by exact X0.out) Tryz.underlying29 (by rfl) (by kernel_rfl) ?_) | ((with_reducible refine ldId 29 (.tmp 5) ?_); refine wpList_load_row (by rfl) 29 (.tmp 5) (by rfl) (w.heap.size + 1 + 1) (by rfl) 29 (hd.cells.toArray) (0, 0) _ (by exact X1.out) Tryz.underlying29 (by rfl) (by kernel_rfl) ?_))
  refine (WA.out _).mono ?_; rintro e w2 ⟨rfl, hb⟩
  replace Y := hidB (Y.out.on hb)
  replace X0 := hidB (X0.out.on hb)
  replace X1 := hidB (X1.out.on hb)
  replace B := hidB (B.out.trans (hb.mono B.out.size))
  clear hb
  have y28 : w2.cell? ⟨w.heap.size, 28, none⟩ = some (.slice none 0 0) := Y.out.cell 28
  go_wp2_with fail
  refine (cloneV_any [] (.slice none 0 0) w2 (RdL.nil _ _ _) (by decide)).mono ?_; rintro e w3 ⟨av, rfl, hown, hb⟩
  have HL := hidB X1.out.lt
  obtain ⟨pq, cq, rfl⟩ := own_slice hown
  have HCQ := hidB (show cq ≤ maxLen from hown.2.elim (fun h => by cases h.1; exact Nat.zero_le _) (fun ⟨g, cap, cur, h1, _, _, _, hm, _⟩ => by cases h1; exact hm))
  replace Y := hidB (Y.out.on hb)
  replace X0 := hidB (X0.out.on hb)
  replace X1 := hidB (X1.out.on hb)
  replace B := hidB (B.out.trans (hb.mono B.out.size))
  clear hb
  clear hown y28
  have y28 : w3.cell? ⟨w.heap.size, 28, none⟩ = some (.slice none 0 0) := Y.out.cell 28
  have yf : w3.frozen? ⟨w.heap.size, 28, none⟩ = false := Y.out.free 28
  go_upto_region 5 with fail
  have Y2 := hidB (show Bk (w3.setCell ⟨w.heap.size, 28, none⟩ (.slice pq 0 cq)) (w.heap.size) 34 ({ extA n with args := .slice pq 0 cq } : AI).cs from Y.out.set 28 _)
  have X02 := hidB (show Bk (w3.setCell ⟨w.heap.size, 28, none⟩ (.slice pq 0 cq)) (w.heap.size + 1) 29 tg.cells.toArray from X0.out.far (p := ⟨w.heap.size, 28, none⟩) (by show w.heap.size + 1 ≠ w.heap.size; omega) _)
  have X12 := hidB (show Bk (w3.setCell ⟨w.heap.size, 28, none⟩ (.slice pq 0 cq)) (w.heap.size + 1 + 1) 29 hd.cells.toArray from X1.out.far (p := ⟨w.heap.size, 28, none⟩) (by show w.heap.size + 1 + 1 ≠ w.heap.size; omega) _)
  have B2 := hidB (show Below w.heap.size w (w3.setCell ⟨w.heap.size, 28, none⟩ (.slice pq 0 cq)) from B.out.setCell (p := ⟨w.heap.size, 28, none⟩) (Nat.le_refl _) _)
  clear Y X0 X1 B y28 yf
  generalize hW : (w3.setCell ⟨w.heap.size, 28, none⟩ (.slice pq 0 cq)) = w4 at *
  clear hW
  go_wp2_with fail
  refine (newM_any 76 #[ptr (w.heap.size), ptr (w.heap.size + 1), ptr (w.heap.size + 1 + 1)] w4).mono ?_; rintro e w5 ⟨rfl, hw5⟩
  have MG := hidB (show Bk w5 w4.heap.size 172 (machC 76 #[ptr (w.heap.size), ptr (w.heap.size + 1), ptr (w.heap.size + 1 + 1)] vNil 0 0 false false) from hw5 ▸ Bk.new w4 _ _)
  have hb : Below w4.heap.size w4 w5 := hw5 ▸ box_one w4 _
  have HL4 := hidB (show w.heap.size + 1 + 1 < w4.heap.size from X12.out.lt)
  replace Y2 := hidB (Y2.out.on hb)
  replace X02 := hidB (X02.out.on hb)
  replace X12 := hidB (X12.out.on hb)
  replace B2 := hidB (B2.out.trans (hb.mono B2.out.size))
  have HS5 := hidB hb.size
  clear hb hw5
  go_wp2_with (first | ((with_reducible refine wpId ?_); refine wpList_build_to (by rfl) 140 _ (by rfl) (#[ptr w4.heap.size]) (by kernel_rfl) ?_))
  go_ret2
  exact ⟨w5.heap.size, w4.heap.size, .slice pq 0 cq, rfl, B2.out.alloc B2.out.size _, Bk.new w5 _ _, MG.out.alloc _, ⟨Y2.out.alloc _, X02.out.alloc _, X12.out.alloc _⟩, ⟨pq, cq, rfl, HCQ.out⟩, by have := HL4.out; omega, MG.out.lt⟩

end Go.Proofs.YtbmaodlghglopaaGreatDoor
