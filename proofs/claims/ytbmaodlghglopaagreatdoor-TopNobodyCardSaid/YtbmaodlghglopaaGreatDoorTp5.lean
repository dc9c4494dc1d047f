/-
  The trap of isExtensible: its steps, where the handler has no such function.
-/
import Derived.Test.YtbmaodlghglopaaGreatDoorMxA
import Derived.Test.YtbmaodlghglopaaGreatDoorMxDA
namespace Go.Proofs.YtbmaodlghglopaaGreatDoor
open Go.RowKit

def nmX : ByteArray := ⟨#[105, 115, 69, 120, 116, 101, 110, 115, 105, 98, 108, 101]⟩
theorem nmX_eq : nameOf 3 = nmX := by rfl
/-- The ask that a trap of isExtensible holds. -/
def extV (n : Int) (av : Value) : AI := { extA n with args := av }
theorem Kept.two {p g : Nat} {a b c : World} (h : Kept (fun q => q = p) a b) (k : Kept (fun q => q = p ∨ q = g) b c) (hg : a.heap.size ≤ g) : Kept (fun q => q = p) a c :=
  ⟨k.os.trans h.os, k.tape.trans h.tape, k.output.trans h.output, Nat.le_trans h.size k.size, fun j hj hn => (k.block j (Nat.lt_of_lt_of_le hj h.size) (fun e => e.elim hn (fun e => by omega))).trans (h.block j hj hn)⟩
theorem WantRes.setRowG {t : WI} {p : Nat} {ans : Value} {k : Nat} {wt : WI} {L : List (OI × List KI)} {B : Nat} {O : OI} {w' : World} (h : WantRes t p ans k wt L B O w') {g : Nat} {ty : TypeId} {cs : Array Value} (hg : Bk w' g ty cs) (hp : g ≠ p) (ds : Array Value) (ht : 26 ≠ ty := by decide) : WantRes t p ans k wt L B O (w'.setRow g ds) := by
  rcases h with ⟨hl, kv, e, h, h'⟩ | ⟨h1, h2, h3⟩
  · exact .inl ⟨hl, kv, e, own_eq h fun k hk => heap_setRow _ (own_neB h hg ht hk) _, h'.setRow_far hp ds⟩
  · exact .inr ⟨h1, h2, h3.setRow_far hp ds⟩
theorem trap_strip (a : AI) (tg hd : VI) (nm : ByteArray) (L : List (OI × List KI)) : trapS a tg hd nm (L.map stripE) = (trapS a tg hd nm L).strip := by
  match L with
  | [] => rfl
  | [e] =>
    show (if (stripE e).1.kd = 1 then (if (stripE e).1.v.k = 0 then _ else _) else _) = (if e.1.kd = 1 then (if e.1.v.k = 0 then _ else _) else _ : Res).strip
    by_cases h1 : e.1.kd = 1
    · rw [if_pos h1, if_pos (show (stripE e).1.kd = 1 from h1)]
      by_cases h2 : e.1.v.k = 0
      · first | (rw [if_pos h2]; rfl) | (rw [if_pos h2, if_pos h2]; rfl)
      · first | (rw [if_neg h2]; rfl) | (rw [if_neg h2, if_neg h2]; rfl)
    · rw [if_neg h1, if_neg (show ¬ (stripE e).1.kd = 1 from h1)]; rfl
  | e :: e2 :: r =>
    show (if (stripE e).1.kd = 1 then (if (stripE e).1.v.k = 0 then _ else _) else _) = (if e.1.kd = 1 then (if e.1.v.k = 0 then _ else _) else _ : Res).strip
    by_cases h1 : e.1.kd = 1
    · rw [if_pos h1, if_pos (show (stripE e).1.kd = 1 from h1)]
      by_cases h2 : e.1.v.k = 0
      · first | (rw [if_pos h2]; rfl) | (rw [if_pos h2, if_pos h2]; rfl)
      · first | (rw [if_neg h2]; rfl) | (rw [if_neg h2, if_neg h2]; rfl)
    · rw [if_neg h1, if_neg (show ¬ (stripE e).1.kd = 1 from h1)]; rfl
theorem trap_ends {a : AI} {tg hd : VI} {nm : ByteArray} {e : OI × List KI} (L : List (OI × List KI)) (h1 : ¬ e.1.kd = 1) : trapS a tg hd nm (e :: L) = .out e.1 e.2 := by
  cases L with
  | nil => exact if_neg h1
  | cons e2 L => exact if_neg h1
theorem trap_zero {a : AI} {tg hd : VI} {nm : ByteArray} {e : OI × List KI} {L : List (OI × List KI)} (hg : (trapS a tg hd nm (e :: L)).good) (h1 : e.1.kd = 1) : e.1.v.k = 0 := by
  by_cases h2 : e.1.v.k = 0
  · exact h2
  · exfalso
    cases L with
    | nil =>
      rw [show trapS a tg hd nm [e] = .out OI.zero [] from (if_pos h1).trans (if_neg h2)] at hg
      exact hg rfl
    | cons e2 L =>
      rw [show trapS a tg hd nm (e :: e2 :: L) = .out OI.zero [] from (if_pos h1).trans (if_neg h2)] at hg
      exact hg rfl
theorem trap_two {a : AI} {tg hd : VI} {nm : ByteArray} {e : OI × List KI} (h1 : e.1.kd = 1) (h2 : e.1.v.k = 0) : trapS a tg hd nm [e] = .want (fun av => methW { a with ob := tg.r, args := av }) [] := (if_pos h1).trans (if_pos h2)
theorem trap_three {a : AI} {tg hd : VI} {nm : ByteArray} {e e2 : OI × List KI} {L : List (OI × List KI)} (h1 : e.1.kd = 1) (h2 : e.1.v.k = 0) : trapS a tg hd nm (e :: e2 :: L) = .out e2.1 e2.2 := (if_pos h1).trans (if_pos h2)

set_option maxHeartbeats 8000000 in
set_option maxRecDepth 100000 in
theorem steps3_any (n : Int) (tg hd : VI) (hk : hd.k ≠ 1) (pq : Option Addr) (cq : Nat) (hcq : cq ≤ maxLen) (p : Nat) (ans : Value) (wt : WI) (L : List (OI × List KI)) (w : World) (hP : Bk w p 218 (playC ans 0 wt)) (hA : AnsR p L ans w) (hg : (trapS (extV n (.slice pq 0 cq)) tg hd nmX L).good) : Calls Tryz.prog 77 #[ptr p, (extV n (.slice pq 0 cq)).a, tg.a, hd.a] w fun e w' => ∃ O : OI, e = .returned O.a ∧ O.keys.oneCell' = true ∧ Kept (fun q => q = p) w w' ∧ RunR (trapS (extV n (.slice pq 0 cq)) tg hd nmX L) p w.heap.size O w' := by
  have HPL := hidB hP.lt
  have HG := hidB hg
  have HCQ := hidB hcq
  have Y := hidB (show Bk ((((w.alloc (.cells ((extV n (.slice pq 0 cq)).cs) 34)).alloc (.cells (tg.cells.toArray) 29)).alloc (.cells (hd.cells.toArray) 29)).alloc (.cells (#[.int .u8 0, .int .u8 0, .float .f64 0, .string ⟨#[]⟩, .int .i64 0, .bool false, .bool false, .int .u8 0, .int .u8 0, .float .f64 0, .string ⟨#[]⟩, .int .i64 0, .int .u8 0, .float .f64 0, .string ⟨#[]⟩, .int .i64 0, .int .u8 0, .float .f64 0, .string ⟨#[]⟩, .int .i64 0, .bool false, .bool false, .bool false, .slice none 0 0, .int .u8 0, .string ⟨#[]⟩]) 49)) (w.heap.size) 34 ((extV n (.slice pq 0 cq)).cs) from (((Bk.new w _ _).alloc _).alloc _).alloc _)
  have X0 := hidB (show Bk ((((w.alloc (.cells ((extV n (.slice pq 0 cq)).cs) 34)).alloc (.cells (tg.cells.toArray) 29)).alloc (.cells (hd.cells.toArray) 29)).alloc (.cells (#[.int .u8 0, .int .u8 0, .float .f64 0, .string ⟨#[]⟩, .int .i64 0, .bool false, .bool false, .int .u8 0, .int .u8 0, .float .f64 0, .string ⟨#[]⟩, .int .i64 0, .int .u8 0, .float .f64 0, .string ⟨#[]⟩, .int .i64 0, .int .u8 0, .float .f64 0, .string ⟨#[]⟩, .int .i64 0, .bool false, .bool false, .bool false, .slice none 0 0, .int .u8 0, .string ⟨#[]⟩]) 49)) (w.heap.size + 1) 29 (tg.cells.toArray) from ((Bk.new2 w _ _ _).alloc _).alloc _)
  have X1 := hidB (show Bk ((((w.alloc (.cells ((extV n (.slice pq 0 cq)).cs) 34)).alloc (.cells (tg.cells.toArray) 29)).alloc (.cells (hd.cells.toArray) 29)).alloc (.cells (#[.int .u8 0, .int .u8 0, .float .f64 0, .string ⟨#[]⟩, .int .i64 0, .bool false, .bool false, .int .u8 0, .int .u8 0, .float .f64 0, .string ⟨#[]⟩, .int .i64 0, .int .u8 0, .float .f64 0, .string ⟨#[]⟩, .int .i64 0, .int .u8 0, .float .f64 0, .string ⟨#[]⟩, .int .i64 0, .bool false, .bool false, .bool false, .slice none 0 0, .int .u8 0, .string ⟨#[]⟩]) 49)) (w.heap.size + 1 + 1) 29 (hd.cells.toArray) from (Bk.new3 w _ _ _ _).alloc _)
  have R := hidB (show Bk ((((w.alloc (.cells ((extV n (.slice pq 0 cq)).cs) 34)).alloc (.cells (tg.cells.toArray) 29)).alloc (.cells (hd.cells.toArray) 29)).alloc (.cells (#[.int .u8 0, .int .u8 0, .float .f64 0, .string ⟨#[]⟩, .int .i64 0, .bool false, .bool false, .int .u8 0, .int .u8 0, .float .f64 0, .string ⟨#[]⟩, .int .i64 0, .int .u8 0, .float .f64 0, .string ⟨#[]⟩, .int .i64 0, .int .u8 0, .float .f64 0, .string ⟨#[]⟩, .int .i64 0, .bool false, .bool false, .bool false, .slice none 0 0, .int .u8 0, .string ⟨#[]⟩]) 49)) (w.heap.size + 1 + 1 + 1) 49 (OI.zero.cs) from Bk.new4 w _ _ _ _ _)
  have B := hidB (show Below w.heap.size w ((((w.alloc (.cells ((extV n (.slice pq 0 cq)).cs) 34)).alloc (.cells (tg.cells.toArray) 29)).alloc (.cells (hd.cells.toArray) 29)).alloc (.cells (#[.int .u8 0, .int .u8 0, .float .f64 0, .string ⟨#[]⟩, .int .i64 0, .bool false, .bool false, .int .u8 0, .int .u8 0, .float .f64 0, .string ⟨#[]⟩, .int .i64 0, .int .u8 0, .float .f64 0, .string ⟨#[]⟩, .int .i64 0, .int .u8 0, .float .f64 0, .string ⟨#[]⟩, .int .i64 0, .bool false, .bool false, .bool false, .slice none 0 0, .int .u8 0, .string ⟨#[]⟩]) 49)) from (((box_one w _).alloc (by simp) _).alloc (by simp <;> omega) _).alloc (by simp <;> omega) _)
  have PF := hidB (show Bk ((((w.alloc (.cells ((extV n (.slice pq 0 cq)).cs) 34)).alloc (.cells (tg.cells.toArray) 29)).alloc (.cells (hd.cells.toArray) 29)).alloc (.cells (#[.int .u8 0, .int .u8 0, .float .f64 0, .string ⟨#[]⟩, .int .i64 0, .bool false, .bool false, .int .u8 0, .int .u8 0, .float .f64 0, .string ⟨#[]⟩, .int .i64 0, .int .u8 0, .float .f64 0, .string ⟨#[]⟩, .int .i64 0, .int .u8 0, .float .f64 0, .string ⟨#[]⟩, .int .i64 0, .bool false, .bool false, .bool false, .slice none 0 0, .int .u8 0, .string ⟨#[]⟩]) 49)) p 218 (playC ans 0 wt) from (((hP.alloc _).alloc _).alloc _).alloc _)
  have KW := hidB (show Kept (fun q => q = p) w ((((w.alloc (.cells ((extV n (.slice pq 0 cq)).cs) 34)).alloc (.cells (tg.cells.toArray) 29)).alloc (.cells (hd.cells.toArray) 29)).alloc (.cells (#[.int .u8 0, .int .u8 0, .float .f64 0, .string ⟨#[]⟩, .int .i64 0, .bool false, .bool false, .int .u8 0, .int .u8 0, .float .f64 0, .string ⟨#[]⟩, .int .i64 0, .int .u8 0, .float .f64 0, .string ⟨#[]⟩, .int .i64 0, .int .u8 0, .float .f64 0, .string ⟨#[]⟩, .int .i64 0, .bool false, .bool false, .bool false, .slice none 0 0, .int .u8 0, .string ⟨#[]⟩]) 49)) from ((((Kept.refl _ w).alloc _).alloc _).alloc _).alloc _)
  have AF := hidB (fun W (h : Kept (fun q => q = p) w W) => hA.kept h)
  have AK := hidB hA.keys
  have hkn : (hd.k == 1) = false := by rw [beq_eq_false_iff_ne]; exact hk
  clear hP hA hg hcq hk
  go_enter Tryz.func77, Tryz.ntmps77
  go_upto_region 1 with fail
  go_step3
  generalize hW : ((((w.alloc (.cells ((extV n (.slice pq 0 cq)).cs) 34)).alloc (.cells (tg.cells.toArray) 29)).alloc (.cells (hd.cells.toArray) 29)).alloc (.cells (#[.int .u8 0, .int .u8 0, .float .f64 0, .string ⟨#[]⟩, .int .i64 0, .bool false, .bool false, .int .u8 0, .int .u8 0, .float .f64 0, .string ⟨#[]⟩, .int .i64 0, .int .u8 0, .float .f64 0, .string ⟨#[]⟩, .int .i64 0, .int .u8 0, .float .f64 0, .string ⟨#[]⟩, .int .i64 0, .bool false, .bool false, .bool false, .slice none 0 0, .int .u8 0, .string ⟨#[]⟩]) 49)) = w1 at *
  clear hW
  have Yo := hidB Y.out
  have X0o := hidB X0.out
  have RN := hidB (show Bk (w1.alloc (.cells (runC p (extV n (.slice pq 0 cq)) tg) 178)) w1.heap.size 178 (runC p (extV n (.slice pq 0 cq)) tg) from Bk.new w1 _ _)
  have HGRN := hidB (show w.heap.size + 1 + 1 + 1 < w1.heap.size from R.out.lt)
  replace Y := hidB (Y.out.alloc (.cells (runC p (extV n (.slice pq 0 cq)) tg) 178))
  replace X0 := hidB (X0.out.alloc (.cells (runC p (extV n (.slice pq 0 cq)) tg) 178))
  replace X1 := hidB (X1.out.alloc (.cells (runC p (extV n (.slice pq 0 cq)) tg) 178))
  replace R := hidB (R.out.alloc (.cells (runC p (extV n (.slice pq 0 cq)) tg) 178))
  replace PF := hidB (PF.out.alloc (.cells (runC p (extV n (.slice pq 0 cq)) tg) 178))
  replace KW := hidB (KW.out.alloc (.cells (runC p (extV n (.slice pq 0 cq)) tg) 178))
  replace B := hidB (show Below w.heap.size w (w1.alloc (.cells (runC p (extV n (.slice pq 0 cq)) tg) 178)) from B.out.alloc B.out.size _)
  go_upto_region 2 with (first | ((with_reducible refine ldId 34 (.tmp 5) ?_); refine wpList_load_row (by rfl) 34 (.tmp 5) (by rfl) (w.heap.size) (by rfl) 34 ((extV n (.slice pq 0 cq)).cs) (0, 0) _ (by exact Yo.out) Tryz.underlying34 (by rfl) (by kernel_rfl) ?_) | ((with_reducible refine ldId 29 (.tmp 6) ?_); refine wpList_load_row (by rfl) 29 (.tmp 6) (by rfl) (w.heap.size + 1) (by rfl) 29 (tg.cells.toArray) (0, 0) _ (by exact X0o.out) Tryz.underlying29 (by rfl) (by kernel_rfl) ?_) | ((with_reducible refine wpId ?_); refine wpList_build_to (by rfl) 178 _ (by rfl) (runC p (extV n (.slice pq 0 cq)) tg) (by kernel_rfl) ?_))
  generalize hW : (w1.alloc (.cells (runC p (extV n (.slice pq 0 cq)) tg) 178)) = w2 at *
  generalize hG : w1.heap.size = gr at *
  clear hW hG Yo X0o
  have y28 : w2.cell? ⟨w.heap.size, 28, none⟩ = some (.slice pq 0 cq) := Y.out.cell 28
  go_wp2_with fail
  refine (cloneV_any [] (.slice pq 0 cq) w2 ⟨pq, cq, rfl, Nat.zero_le _, HCQ.out, fun h => absurd h (by decide)⟩ (by decide)).mono ?_; rintro e w3 ⟨av, rfl, hown, hb⟩
  obtain ⟨qa, ca, rfl⟩ := own_slice hown
  have HAV := hidB (own_base hown (fun k hk => Nat.le_trans B.out.size (hown.lt k hk).1))
  have HAV1 := hidB (own_one hown)
  replace Y := hidB (Y.out.on hb)
  replace X0 := hidB (X0.out.on hb)
  replace X1 := hidB (X1.out.on hb)
  replace R := hidB (R.out.on hb)
  replace PF := hidB (PF.out.on hb)
  replace RN := hidB (RN.out.on hb)
  replace KW := hidB (KW.out.trans (Kept.below hb))
  replace B := hidB (B.out.trans (hb.mono B.out.size))
  clear hown hb y28
  have r29 : w3.cell? ⟨gr, 29, none⟩ = some (.slice pq 0 cq) := RN.out.cell 29
  have rf : w3.frozen? ⟨gr, 29, none⟩ = false := RN.out.free 29
  go_upto_region 3 with fail
  have hfar : ∀ k, k ≠ gr → (w3.setCell ⟨gr, 29, none⟩ (.slice qa 0 ca)).heap[k]? = w3.heap[k]? := fun k hk => Below.heap_setCell w3 _ _ k hk
  replace Y := hidB (show Bk (w3.setCell ⟨gr, 29, none⟩ (.slice qa 0 ca)) (w.heap.size) 34 ((extV n (.slice pq 0 cq)).cs) from (hfar _ (by have h1 := HGRN.out; have h2 := HPL.out; omega)).trans Y.out)
  replace X0 := hidB (show Bk (w3.setCell ⟨gr, 29, none⟩ (.slice qa 0 ca)) (w.heap.size + 1) 29 (tg.cells.toArray) from (hfar _ (by have h1 := HGRN.out; have h2 := HPL.out; omega)).trans X0.out)
  replace X1 := hidB (show Bk (w3.setCell ⟨gr, 29, none⟩ (.slice qa 0 ca)) (w.heap.size + 1 + 1) 29 (hd.cells.toArray) from (hfar _ (by have h1 := HGRN.out; have h2 := HPL.out; omega)).trans X1.out)
  replace R := hidB (show Bk (w3.setCell ⟨gr, 29, none⟩ (.slice qa 0 ca)) (w.heap.size + 1 + 1 + 1) 49 (OI.zero.cs) from (hfar _ (by have h1 := HGRN.out; have h2 := HPL.out; omega)).trans R.out)
  replace PF := hidB (show Bk (w3.setCell ⟨gr, 29, none⟩ (.slice qa 0 ca)) (p) 218 (playC ans 0 wt) from (hfar _ (by have h1 := HGRN.out; have h2 := HPL.out; omega)).trans PF.out)
  replace HAV := hidB (show (w3.setCell ⟨gr, 29, none⟩ (.slice qa 0 ca)).ownsRow w.heap.size 29 4 (.slice qa 0 ca) 0 [] from own_eq HAV.out (fun k hk => hfar k (own_neB HAV.out RN.out (by decide) hk)))
  replace RN := hidB (show Bk (w3.setCell ⟨gr, 29, none⟩ (.slice qa 0 ca)) gr 178 (runC p (extV n (.slice qa 0 ca)) tg) from RN.out.set 29 _)
  replace KW := hidB (show Kept (fun q => q = p) w (w3.setCell ⟨gr, 29, none⟩ (.slice qa 0 ca)) from KW.out.setCell (p := ⟨gr, 29, none⟩) (.inr (by show w.heap.size ≤ gr; have := HGRN.out; omega)) _)
  replace B := hidB (show Below w.heap.size w (w3.setCell ⟨gr, 29, none⟩ (.slice qa 0 ca)) from B.out.setCell (p := ⟨gr, 29, none⟩) (by show w.heap.size ≤ gr; have := HGRN.out; omega) _)
  clear r29 rf hfar
  generalize hW : (w3.setCell ⟨gr, 29, none⟩ (.slice qa 0 ca)) = w4 at *
  clear hW
  have HGL := hidB (show gr < w4.heap.size from RN.out.lt)
  have HAVL := hidB (fun k hk => (HAV.out.lt k hk).2)
  have Z11 := hidB (show Bk (w4.alloc (.cells (#[.int .u8 0, .float .f64 0, .string ⟨#[]⟩, .int .i64 0]) 29)) w4.heap.size 29 (#[.int .u8 0, .float .f64 0, .string ⟨#[]⟩, .int .i64 0]) from Bk.new w4 _ _)
  have HGZ11 := hidB (show w.heap.size + 1 + 1 + 1 < w4.heap.size from R.out.lt)
  replace Y := hidB (Y.out.alloc (.cells (#[.int .u8 0, .float .f64 0, .string ⟨#[]⟩, .int .i64 0]) 29))
  replace X0 := hidB (X0.out.alloc (.cells (#[.int .u8 0, .float .f64 0, .string ⟨#[]⟩, .int .i64 0]) 29))
  replace X1 := hidB (X1.out.alloc (.cells (#[.int .u8 0, .float .f64 0, .string ⟨#[]⟩, .int .i64 0]) 29))
  replace R := hidB (R.out.alloc (.cells (#[.int .u8 0, .float .f64 0, .string ⟨#[]⟩, .int .i64 0]) 29))
  replace PF := hidB (PF.out.alloc (.cells (#[.int .u8 0, .float .f64 0, .string ⟨#[]⟩, .int .i64 0]) 29))
  replace RN := hidB (RN.out.alloc (.cells (#[.int .u8 0, .float .f64 0, .string ⟨#[]⟩, .int .i64 0]) 29))
  replace KW := hidB (KW.out.alloc (.cells (#[.int .u8 0, .float .f64 0, .string ⟨#[]⟩, .int .i64 0]) 29))
  replace B := hidB (show Below w.heap.size w (w4.alloc (.cells (#[.int .u8 0, .float .f64 0, .string ⟨#[]⟩, .int .i64 0]) 29)) from B.out.alloc B.out.size _)
  replace HAV := hidB (own_on HAV.out (box_one w4 (.cells (#[.int .u8 0, .float .f64 0, .string ⟨#[]⟩, .int .i64 0]) 29)))
  skip
  replace Y := hidB (Y.out.alloc (.cells (#[.int .u8 0, .float .f64 0, .string ⟨#[]⟩, .int .i64 0]) 29))
  replace X0 := hidB (X0.out.alloc (.cells (#[.int .u8 0, .float .f64 0, .string ⟨#[]⟩, .int .i64 0]) 29))
  replace X1 := hidB (X1.out.alloc (.cells (#[.int .u8 0, .float .f64 0, .string ⟨#[]⟩, .int .i64 0]) 29))
  replace R := hidB (R.out.alloc (.cells (#[.int .u8 0, .float .f64 0, .string ⟨#[]⟩, .int .i64 0]) 29))
  replace PF := hidB (PF.out.alloc (.cells (#[.int .u8 0, .float .f64 0, .string ⟨#[]⟩, .int .i64 0]) 29))
  replace RN := hidB (RN.out.alloc (.cells (#[.int .u8 0, .float .f64 0, .string ⟨#[]⟩, .int .i64 0]) 29))
  replace Z11 := hidB (Z11.out.alloc (.cells (#[.int .u8 0, .float .f64 0, .string ⟨#[]⟩, .int .i64 0]) 29))
  replace HAV := hidB (own_on HAV.out (box_one _ (.cells (#[.int .u8 0, .float .f64 0, .string ⟨#[]⟩, .int .i64 0]) 29)))
  replace KW := hidB (KW.out.alloc (.cells (#[.int .u8 0, .float .f64 0, .string ⟨#[]⟩, .int .i64 0]) 29))
  replace B := hidB (show Below w.heap.size w ((w4.alloc (.cells (#[.int .u8 0, .float .f64 0, .string ⟨#[]⟩, .int .i64 0]) 29)).alloc (.cells (#[.int .u8 0, .float .f64 0, .string ⟨#[]⟩, .int .i64 0]) 29)) from B.out.alloc B.out.size _)
  go_upto_region 5 with fail
  generalize hW : ((w4.alloc (.cells (#[.int .u8 0, .float .f64 0, .string ⟨#[]⟩, .int .i64 0]) 29)).alloc (.cells (#[.int .u8 0, .float .f64 0, .string ⟨#[]⟩, .int .i64 0]) 29)) = w5 at *
  generalize hG : w4.heap.size = g11 at *
  clear hW hG
  have x10 : w5.cell? ⟨w.heap.size + 1 + 1, 0, none⟩ = some (.int .u8 hd.k) := X1.out.cell 0
  go_wp2_with fail
  go_step3
  go_upto_region 9 with fail
  have X1R := hidB (show w5.rangeAt (w.heap.size + 1 + 1) 0 hd.cells from Bk.mid X1.out 0 _ rfl)
  have HX1L := hidB X1.out.lt
  have HL5 := hidB (show w.heap.size ≤ w5.heap.size from B.out.size)
  have HRL5 := hidB R.out.lt
  clear x10
  refine wp_region_noPanic ?_
  refine wp_region_held_drew (S := fun W => Kept (fun q => q = p ∨ q = w.heap.size + 1 + 1 + 1) w5 W) (by kernel_rfl) ?_ (fun hHeld => ?_)
  · exact (Kept.refl _ _).drew
  have PFd := hidB (show Bk w5.drew p 218 (playC ans 0 wt) from PF.out.drew)
  have Rd := hidB (show Bk w5.drew (w.heap.size + 1 + 1 + 1) 49 OI.zero.cs from R.out.drew)
  generalize hWd : w5.drew = wd at *
  clear hWd
  first | (refine wpAnyH_take (i := 0) (v := undef) (by exact gE rfl) (by kernel_rfl) (by kernel_rfl) (by kernel_rfl) (fun _ _ _ h => h) (Or.inr ⟨?_, rfl⟩) (by assumption) ?_; (rfl); try simp only [Act.put, List.setIfInBounds_toArray, List.set_cons_zero, List.set_cons_succ]) | (refine wpAnyH_take (i := 0) (v := ?_) (by exact gE rfl) (by kernel_rfl) (by kernel_rfl) (by kernel_rfl) (fun _ _ _ h => h) (Or.inl ⟨?_, ?_⟩) (by assumption) ?_; rotate_left; (rfl); (focus (intro w hSw; (try dsimp only at hSw); go_simp; try with_reducible rfl)); try simp only [Act.put, List.setIfInBounds_toArray, List.set_cons_zero, List.set_cons_succ])
  (refine wpAnyH_take (i := 1) (v := hd.a) (by exact gE rfl) (by kernel_rfl) (by kernel_rfl) (by kernel_rfl) (fun _ _ _ h => h) (yieldsIf_load_mid (by rfl) 29 (.tmp 7) (by rfl) (w.heap.size + 1 + 1) (0) (by rfl) (hd.cells) _ (fun W hS => rangeKept hS HX1L.out (show ¬ (w.heap.size + 1 + 1 = p ∨ w.heap.size + 1 + 1 = w.heap.size + 1 + 1 + 1) by have := HPL.out; omega) X1R.out) Tryz.underlying29 (by rfl) (by kernel_rfl)) (by assumption) ?_; try simp only [Act.put, List.setIfInBounds_toArray, List.set_cons_zero, List.set_cons_succ])
  first | (refine wpAnyH_take (i := 2) (v := undef) (by exact gE rfl) (by kernel_rfl) (by kernel_rfl) (by kernel_rfl) (fun _ _ _ h => h) (Or.inr ⟨?_, rfl⟩) (by assumption) ?_; (rfl); try simp only [Act.put, List.setIfInBounds_toArray, List.set_cons_zero, List.set_cons_succ]) | (refine wpAnyH_take (i := 2) (v := ?_) (by exact gE rfl) (by kernel_rfl) (by kernel_rfl) (by kernel_rfl) (fun _ _ _ h => h) (Or.inl ⟨?_, ?_⟩) (by assumption) ?_; rotate_left; (rfl); (focus (intro w hSw; (try dsimp only at hSw); go_simp; try with_reducible rfl)); try simp only [Act.put, List.setIfInBounds_toArray, List.set_cons_zero, List.set_cons_succ])
  first | (refine wpAnyH_take (i := 3) (v := undef) (by exact gE rfl) (by kernel_rfl) (by kernel_rfl) (by kernel_rfl) (fun _ _ _ h => h) (Or.inr ⟨?_, rfl⟩) (by assumption) ?_; (rfl); try simp only [Act.put, List.setIfInBounds_toArray, List.set_cons_zero, List.set_cons_succ]) | (refine wpAnyH_take (i := 3) (v := ?_) (by exact gE rfl) (by kernel_rfl) (by kernel_rfl) (by kernel_rfl) (fun _ _ _ h => h) (Or.inl ⟨?_, ?_⟩) (by assumption) ?_; rotate_left; (rfl); (focus (intro W hSw; have hc0 := (show W.cell? ⟨w.heap.size, 0, none⟩ = some (.int .u8 3) from (Y.out.kept hSw (show ¬ (w.heap.size = p ∨ w.heap.size = w.heap.size + 1 + 1 + 1) by have := HPL.out; omega)).cell 0); clear hSw; go_simp; try with_reducible rfl)); try simp only [Act.put, List.setIfInBounds_toArray, List.set_cons_zero, List.set_cons_succ])
  refine wpAnyH_ready (rs := [4]) (by kernel_rfl) (by simp) ?_
  refine AllReadyH.cons rfl (fun K hK => ?_) AllReadyH.nil
  go_simp
  refine (name_any 3 (by decide) _).mono ?_; rintro e wn ⟨rfl, rfl⟩
  rw [nmX_eq]
  refine hK.out _ _ hHeld (fun _ => ?_)
  clear hK K
  try simp only [Act.put, List.setIfInBounds_toArray, List.set_cons_zero, List.set_cons_succ]
  refine wpAnyH_ready (rs := [5]) (by kernel_rfl) (by simp) ?_
  refine AllReadyH.cons rfl (fun K hK => ?_) AllReadyH.nil
  go_simp
  refine (keyOf_any nmX _).mono ?_; rintro e wk ⟨rfl, hb⟩
  have R5 := hidB (Rd.out.on hb)
  have PF6 := hidB (PFd.out.on hb)
  replace hHeld := hHeld.trans (Kept.below hb)
  clear hb
  refine hK.out _ _ hHeld (fun _ => ?_)
  clear hK K
  try simp only [Act.put, List.setIfInBounds_toArray, List.set_cons_zero, List.set_cons_succ]
  refine wpAnyH_ready (rs := [6]) (by kernel_rfl) (by simp) ?_
  refine AllReadyH.cons rfl (fun K hK => ?_) AllReadyH.nil
  go_simp
  refine (get_any hd ⟨nmX, 0⟩ p ans 0 wt L _ (by decide) PF6.out (AF.out _ (KW.out.two hHeld (by omega)))).mono ?_; rintro e wq ⟨O, rfl, hkp, hres⟩
  have HONE := hidB hres.one
  have HOK := hidB hres.key
  skip
  have HRB := hidB hres
  have HSK := hidB hHeld.size
  have R6 := hidB (R5.out.kept hkp (show ¬ (w.heap.size + 1 + 1 + 1 = p) by have := HPL.out; omega))
  replace hHeld := hHeld.trans (hkp.wider (fun _ _ h => .inl h))
  clear hkp hres
  refine hK.out _ _ hHeld (fun _ => ?_)
  clear hK K
  try simp only [Act.put, List.setIfInBounds_toArray, List.set_cons_zero, List.set_cons_succ]
  refine wpAnyH_ready (rs := [7]) (by kernel_rfl) (by simp) ?_
  refine AllReadyH.cons rfl (fun K hK => ?_) AllReadyH.nil
  rw [if_pos (by kernel_rfl)]
  refine wp_store_row 49 (.tmp 8) (.tmp 38) (by rfl) (w.heap.size + 1 + 1 + 1) (O.cs) (by rfl) (by rfl) 49 (OI.zero.cs) (by exact R6.out) (by kernel_rfl) (by rfl) (by exact HONE.out) ?_
  have HRES := hidB ((HRB.out.setRow (g := w.heap.size + 1 + 1 + 1) (by have h1 := HRL5.out; have h2 := HSK.out; omega) (show w.heap.size + 1 + 1 + 1 ≠ p by have := HPL.out; omega) O.cs).lower (Nat.le_trans HL5.out HSK.out))
  have R7 := hidB (R6.out.setRow O.cs)
  replace hHeld := hHeld.setRow (g := w.heap.size + 1 + 1 + 1) (.inl (.inr rfl)) O.cs
  refine put_none_K (by first | rfl | kernel_rfl) ?_
  refine hK.out _ _ hHeld (fun _ => ?_)
  clear hK K
  refine wpAnyH_done (by kernel_rfl) ?_ _
  refine NoPanic.normal ?_
  generalize hWn : (wq.setRow (w.heap.size + 1 + 1 + 1) O.cs) = w6 at *
  clear hWn HRB R6 PF6 PFd Rd R5
  have KW6 := hidB (KW.out.two hHeld (show w.heap.size ≤ w.heap.size + 1 + 1 + 1 by omega))
  replace HAV := hidB (own_kept HAV.out hHeld (fun k hk h => h.elim (fun e => own_neB HAV.out PF.out (by decide) hk e) (fun e => own_neB HAV.out R.out (by decide) hk e)))
  replace Y := hidB (Y.out.kept hHeld (show ¬ (w.heap.size = p ∨ w.heap.size = w.heap.size + 1 + 1 + 1) by have := HPL.out; omega))
  replace X0 := hidB (X0.out.kept hHeld (show ¬ (w.heap.size + 1 = p ∨ w.heap.size + 1 = w.heap.size + 1 + 1 + 1) by have := HPL.out; omega))
  replace X1 := hidB (X1.out.kept hHeld (show ¬ (w.heap.size + 1 + 1 = p ∨ w.heap.size + 1 + 1 = w.heap.size + 1 + 1 + 1) by have := HPL.out; omega))
  replace RN := hidB (RN.out.kept hHeld (show ¬ (gr = p ∨ gr = w.heap.size + 1 + 1 + 1) by have h1 := HPL.out; have h2 := HGRN.out; have h3 := HGZ11.out; omega))
  replace Z11 := hidB (Z11.out.kept hHeld (show ¬ (g11 = p ∨ g11 = w.heap.size + 1 + 1 + 1) by have h1 := HPL.out; have h2 := HGRN.out; have h3 := HGZ11.out; omega))
  replace R := R7
  have HW6 := hidB (Nat.le_trans HL5.out hHeld.size)
  clear hHeld R7 PF KW B X1R HX1L HL5 HRL5 HSK
  have Rk := hidB (show Bk (w6.setRow g11 O.v.cells.toArray) (w.heap.size + 1 + 1 + 1) 49 O.cs from R.out.setRow_far (by have := HGZ11.out; omega) _)
  have Zk := hidB (show Bk (w6.setRow g11 O.v.cells.toArray) g11 29 O.v.cells.toArray from Z11.out.setRow _)
  have RNk := hidB (show Bk (w6.setRow g11 O.v.cells.toArray) gr 178 (runC p (extV n (.slice qa 0 ca)) tg) from RN.out.setRow_far (by have := HGL.out; omega) _)
  have X0k := hidB (show Bk (w6.setRow g11 O.v.cells.toArray) (w.heap.size + 1) 29 tg.cells.toArray from X0.out.setRow_far (by have := HGZ11.out; omega) _)
  have KWk := hidB (show Kept (fun q => q = p) w (w6.setRow g11 O.v.cells.toArray) from KW6.out.setRow (.inr (by have := HGZ11.out; omega)) _)
  have HAV7 := hidB (show (w6.setRow g11 O.v.cells.toArray).ownsRow w.heap.size 29 4 (.slice qa 0 ca) 0 [] from own_eq HAV.out (fun k hk => heap_setRow _ (Nat.ne_of_lt (HAVL.out k hk)) _))
  have HRESk := hidB (show WantRes (methW (getA hd ⟨nmX, 0⟩)) p ans 0 wt L w.heap.size O (w6.setRow g11 O.v.cells.toArray) from HRES.out.setRowG Z11.out (by have h1 := HPL.out; have h2 := HGZ11.out; omega) _)
  go_upto_region 11 with (first | ((with_reducible refine ldId 29 (.tmp 39) ?_); refine wpList_load_mid (by rfl) 29 (.tmp 39) (by rfl) (w.heap.size + 1 + 1 + 1) 1 (by rfl) (O.v.cells) _ (by exact Bk.mid R.out 1 _ rfl) Tryz.underlying29 (by rfl) (by kernel_rfl) ?_) | ((with_reducible refine stId 29 (.tmp 11) (.tmp 40) ?_); refine wpList_store_row (by rfl) 29 (.tmp 11) (.tmp 40) (by rfl) (g11) (O.v.cells.toArray) (by rfl) (by rfl) 29 (#[.int .u8 0, .float .f64 0, .string ⟨#[]⟩, .int .i64 0]) (by exact Z11.out) (by kernel_rfl) (by rfl) (by exact vi_one1 O.v) ?_))
  clear R Z11 RN X0 KW6 HRES
  have R := Rk
  have Z11 := Zk
  have RN := RNk
  have X0 := X0k
  have KW6 := KWk
  have HRES := HRESk
  clear Rk Zk RNk X0k KWk HRESk
  generalize hW : (w6.setRow g11 O.v.cells.toArray) = w7 at *
  clear hW
  have x0 : w7.cell? ⟨w.heap.size + 1 + 1 + 1, 0, none⟩ = some (.int .u8 O.kd) := R.out.cell 0
  by_cases h1 : O.kd = 1
  rotate_left
  · have hn1 : (O.kd != 1) = true := by rw [bne_iff_ne]; exact h1
    skip
    have hfin : RunR (trapS (extV n (.slice pq 0 cq)) tg hd nmX L) p w.heap.size O (w7.setRow (w.heap.size + 1 + 1 + 1) O.cs) := by
      rcases HRES.out.setRowG R.out (show w.heap.size + 1 + 1 + 1 ≠ p by have := HPL.out; omega) O.cs with ⟨hl, kv, he, h, h'⟩ | ⟨hl, he, h3⟩
      · cases L with
        | nil => exact absurd hl (by simp)
        | cons e L =>
          have hk := AK.out e (by simp)
          have he1 : ¬ e.1.kd = 1 := fun h => h1 (by rw [he]; exact h)
          rw [trap_ends L he1]
          exact ⟨by rcases hk.2.2.2 with h | h <;> omega, hk.2.1, kv, he, h⟩
      · cases L with
        | nil => subst he; exact ⟨rfl, vNil, ans, _, World.ownsRow_nil _ _ _ _, h3⟩
        | cons e L => exact absurd hl (by simp)
    clear h1
    go_wp2_with (first | ((with_reducible refine ldId 49 (.tmp 8) ?_); refine wpList_load_row (by rfl) 49 (.tmp 8) (by rfl) (w.heap.size + 1 + 1 + 1) (by rfl) 49 (O.cs) (0, 0) _ (by exact R.out) Tryz.underlying49 (by rfl) (by kernel_rfl) ?_) | ((with_reducible refine stId 49 (.tmp 8) (.tmp 111) ?_); refine wpList_store_row (by rfl) 49 (.tmp 8) (.tmp 111) (by rfl) (w.heap.size + 1 + 1 + 1) (O.cs) (by rfl) (by rfl) 49 (O.cs) (by exact R.out) (by kernel_rfl) (by rfl) (by exact OI.one _ HOK.out) ?_))
    rw [Exit.noGoto_ret]
    exact bodyPost_ret (v := .agg (O.cs)) (results_cell_row Tryz.results77 _ _ (w.heap.size + 1 + 1 + 1) 49 (O.cs) (0, 0) _ rfl (R.out.setRow _) Tryz.underlying49 rfl (by kernel_rfl)) rfl (show ∃ O' : OI, Ending.returned O.a = .returned O'.a ∧ O'.keys.oneCell' = true ∧ Kept (fun q => q = p) w (w7.setRow (w.heap.size + 1 + 1 + 1) O.cs) ∧ RunR (trapS (extV n (.slice pq 0 cq)) tg hd nmX L) p w.heap.size O' (w7.setRow (w.heap.size + 1 + 1 + 1) O.cs) from ⟨O, rfl, HOK.out, KW6.out.setRow (g := w.heap.size + 1 + 1 + 1) (.inr (by omega)) O.cs, hfin⟩)
  obtain ⟨hl, kv, he, hown, hpl⟩ : ∃ (h : 0 < L.length) (kv : Value), O = (L[0].1).put kv ∧ w7.ownsRow w.heap.size 26 2 kv L[0].2.length (L[0].2.flatMap KI.cells) ∧ Bk w7 p 218 (playC ans (0 + 1) wt) := HRES.out.elim id (fun h => absurd (show (1 : Int) = 0 by rw [← h1, h.2.1]; rfl) (by decide))
  obtain ⟨e0, L1, rfl⟩ : ∃ e0 L1, L = e0 :: L1 := by cases L with | nil => exact absurd hl (by simp) | cons a b => exact ⟨a, b, rfl⟩
  have he1 : e0.1.kd = 1 := by rw [← h1, he]; rfl
  have hz := trap_zero HG.out he1
  have hz2 : O.v.k = 0 := by rw [he]; exact hz
  have HZ := hidB hz
  have HE1 := hidB he1
  have PF := hidB hpl
  clear hown hpl he HRES hz he1
  rw [h1] at x0
  have z0 : w7.cell? ⟨g11, 0, none⟩ = some (.int .u8 0) := by rw [← hz2]; exact Z11.out.cell 0
  clear h1 hz2
  have t3 : w7.cell? ⟨w.heap.size + 1, 3, none⟩ = some (.int .i64 tg.r) := X0.out.cell 3
  have r2 : w7.cell? ⟨gr, 2, none⟩ = some (.int .i64 n) := RN.out.cell 2
  have rf : w7.frozen? ⟨gr, 2, none⟩ = false := RN.out.free 2
  go_upto_region 14 with fail
  have hfar : ∀ k, k ≠ gr → (w7.setCell ⟨gr, 2, none⟩ (.int .i64 tg.r)).heap[k]? = w7.heap[k]? := fun k hk => Below.heap_setCell w7 _ _ k hk
  have R8 := hidB (show Bk (w7.setCell ⟨gr, 2, none⟩ (.int .i64 tg.r)) (w.heap.size + 1 + 1 + 1) 49 O.cs from (hfar _ (by have := HGRN.out; omega)).trans R.out)
  have PF8 := hidB (show Bk (w7.setCell ⟨gr, 2, none⟩ (.int .i64 tg.r)) p 218 (playC ans 1 wt) from (hfar _ (by have h1 := HPL.out; have h2 := HGRN.out; omega)).trans PF.out)
  have RN8 := hidB (show Bk (w7.setCell ⟨gr, 2, none⟩ (.int .i64 tg.r)) gr 178 (runC p ({ (extV n (.slice pq 0 cq)) with ob := tg.r, args := .slice qa 0 ca } : AI) tg) from RN.out.set 2 _)
  have KW8 := hidB (show Kept (fun q => q = p) w (w7.setCell ⟨gr, 2, none⟩ (.int .i64 tg.r)) from KW6.out.setCell (p := ⟨gr, 2, none⟩) (.inr (by show w.heap.size ≤ gr; have := HGRN.out; omega)) _)
  have HAV8 := hidB (show (w7.setCell ⟨gr, 2, none⟩ (.int .i64 tg.r)).ownsRow w.heap.size 29 4 (.slice qa 0 ca) 0 [] from own_eq HAV7.out (fun k hk => hfar k (own_neB HAV7.out RN.out (by decide) hk)))
  clear hfar r2 rf t3 z0 x0 R PF RN KW6 HAV7 X0 Z11 Y X1
  generalize hW : (w7.setCell ⟨gr, 2, none⟩ (.int .i64 tg.r)) = w8 at *
  clear hW
  go_wp2_with (first | ((with_reducible refine ldId 34 (.tmp 63) ?_); refine wpList_load_mid (by rfl) 34 (.tmp 63) (by rfl) (gr) 1 (by rfl) (({ (extV n (.slice pq 0 cq)) with ob := tg.r, args := .slice qa 0 ca } : AI).cs.toList) _ (by exact Bk.mid RN8.out 1 _ rfl) Tryz.underlying34 (by rfl) (by kernel_rfl) ?_))
  refine (method_any ({ (extV n (.slice pq 0 cq)) with ob := tg.r, args := .slice qa 0 ca } : AI) HAV1.out p ans 1 wt (e0 :: L1) w8 (by decide) PF8.out (AF.out _ KW8.out)).mono ?_; rintro e w9 ⟨O2, rfl, hkp, hres⟩
  have HONE2 := hidB hres.one
  have HOK2 := hidB hres.key
  have HR2 := hidB hres
  have HS8 := hidB (show w.heap.size ≤ w8.heap.size from KW8.out.size)
  have HRL8 := hidB R8.out.lt
  have HAV9 := hidB (own_kept HAV8.out hkp (fun k hk e => own_neB HAV8.out PF8.out (by decide) hk e))
  replace R8 := hidB (R8.out.kept hkp (show ¬ (w.heap.size + 1 + 1 + 1 = p) by have := HPL.out; omega))
  replace KW8 := hidB (KW8.out.trans hkp)
  clear hres hkp PF8 HAV8 RN8
  go_wp2_with (first | ((with_reducible refine stId 49 (.tmp 8) (.tmp 65) ?_); refine wpList_store_row (by rfl) 49 (.tmp 8) (.tmp 65) (by rfl) (w.heap.size + 1 + 1 + 1) (O2.cs) (by rfl) (by rfl) 49 (O.cs) (by exact R8.out) (by kernel_rfl) (by rfl) (by exact HONE2.out) ?_))
  have hfin : RunR (trapS (extV n (.slice pq 0 cq)) tg hd nmX (e0 :: L1)) p w.heap.size O2 (w9.setRow (w.heap.size + 1 + 1 + 1) O2.cs) := by
    have hav := own_eq HAV9.out (fun k hk => heap_setRow (g := w.heap.size + 1 + 1 + 1) w9 (own_neB HAV9.out R8.out (by decide) hk) O2.cs)
    rcases (HR2.out.setRow (g := w.heap.size + 1 + 1 + 1) HRL8.out (show w.heap.size + 1 + 1 + 1 ≠ p by have := HPL.out; omega) O2.cs).lower HS8.out with ⟨hl, kv, he, h, h'⟩ | ⟨hl, he, h3⟩
    · cases L1 with
      | nil => exact absurd hl (by simp)
      | cons e2 L2 =>
        have hk := AK.out e2 (by simp)
        rw [trap_three HE1.out HZ.out]
        exact ⟨by rcases hk.2.2.2 with h | h <;> omega, hk.2.1, kv, he, h⟩
    · cases L1 with
      | nil => subst he; rw [trap_two HE1.out HZ.out]; exact ⟨rfl, .slice qa 0 ca, ans, _, hav, h3⟩
      | cons e L => exact absurd hl (by simp)
  rw [Exit.noGoto_ret]
  exact bodyPost_ret (v := .agg (O2.cs)) (results_cell_row Tryz.results77 _ _ (w.heap.size + 1 + 1 + 1) 49 (O2.cs) (0, 0) _ rfl (R8.out.setRow _) Tryz.underlying49 rfl (by kernel_rfl)) rfl (show ∃ O' : OI, Ending.returned O2.a = .returned O'.a ∧ O'.keys.oneCell' = true ∧ Kept (fun q => q = p) w (w9.setRow (w.heap.size + 1 + 1 + 1) O2.cs) ∧ RunR (trapS (extV n (.slice pq 0 cq)) tg hd nmX (e0 :: L1)) p w.heap.size O' (w9.setRow (w.heap.size + 1 + 1 + 1) O2.cs) from ⟨O2, rfl, HOK2.out, KW8.out.setRow (g := w.heap.size + 1 + 1 + 1) (.inr (by omega)) O2.cs, hfin⟩)

end Go.Proofs.YtbmaodlghglopaaGreatDoor
