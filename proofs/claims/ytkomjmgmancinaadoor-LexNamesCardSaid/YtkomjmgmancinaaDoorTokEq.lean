/-
  Two tokens compared by '=='.
-/
import Derived.Test.YtkomjmgmancinaaDoorEqS
namespace Go.Proofs.YtkomjmgmancinaaDoor
open Go.RowKit

theorem fields_tok : ((Tryd.prog.fieldsOf 25).toList.map (fun f => (f.name, f.type, f.offset)) == [("Kind", 5, 0), ("At", 3, 1), ("Text", 9, 2), ("Num", 23, 3)]) = true := by kernel_rfl
theorem under_tok : Tryd.prog.underlying 25 = some (.struct (Tryd.prog.fieldsOf 25)) := by kernel_rfl
theorem stood_tok : Tryd.prog.stoodInHeld 25 = false := by kernel_rfl
theorem guard_tok : Tryd.prog.eqGuardType Tryd.prog.depth 25 = false := by kernel_rfl
def eqTok (k k' p p' : Int) (s s' : ByteArray) (x y : Nat) : Bool := (k == k') && ((p == p') && ((s.toList == s'.toList) && (FloatKind.f64.format.order x y == some .eq)))
theorem equal_tok (k k' p p' : Int) (s s' : ByteArray) (x y : Nat) (w : World) : (Op.equalIn 10000 25 (.agg #[.int .u8 k, .int .i64 p, .string s, .float .f64 x]) (.agg #[.int .u8 k', .int .i64 p', .string s', .float .f64 y])).run Tryd.prog w =
    .ok (eqTok k k' p p' s s' x y) w := by
  unfold eqTok
  rw [run_equalIn_struct _ _ _ _ _ under_tok stood_tok]
  have hf := eq_of_beq fields_tok
  generalize (Tryd.prog.fieldsOf 25).toList = fs at *
  rcases fs with _ | ⟨f0, _ | ⟨f1, _ | ⟨f2, _ | ⟨f3, _ | ⟨f4, fs⟩⟩⟩⟩⟩
  case cons.cons.cons.cons.nil =>
    simp only [List.map_cons, List.map_nil, List.cons.injEq, Prod.mk.injEq, and_true] at hf
    obtain ⟨⟨a0, b0, c0⟩, ⟨a1, b1, c1⟩, ⟨a2, b2, c2⟩, ⟨a3, b3, c3⟩⟩ := hf
    rw [eqF_plain (a := .int .u8 k) (b := .int .u8 k') (by rw [a0]; decide) (by rw [b0]; kernel_rfl) (by rw [c0]; rfl) (by rw [c0]; rfl) (by intro w; rw [b0]; exact run_equalIn_int w 9998 _ .u8 .u8 _ _ (by kernel_rfl)),
      eqF_plain (a := .int .i64 p) (b := .int .i64 p') (by rw [a1]; decide) (by rw [b1]; kernel_rfl) (by rw [c1]; rfl) (by rw [c1]; rfl) (by intro w; rw [b1]; exact run_equalIn_int w 9998 _ .i64 .i64 _ _ (by kernel_rfl)),
      eqF_plain (a := .string s) (b := .string s') (by rw [a2]; decide) (by rw [b2]; kernel_rfl) (by rw [c2]; rfl) (by rw [c2]; rfl) (by intro w; rw [b2]; exact run_equalIn_string w 9998 _ _ _ (by kernel_rfl)),
      eqF_plain (a := .float .f64 x) (b := .float .f64 y) (by rw [a3]; decide) (by rw [b3]; kernel_rfl) (by rw [c3]; rfl) (by rw [c3]; rfl) (by intro w; rw [b3]; exact eqS_float 9998 _ _ _ .f64 (by kernel_rfl) w), eqF_nil]
    cases k == k' <;> cases p == p' <;> cases s.toList == s'.toList <;> cases (FloatKind.f64.format.order x y == some .eq) <;> rfl
  all_goals (exfalso; simp at hf)
theorem eql_tok (k k' p p' : Int) (s s' : ByteArray) (x y : Nat) (w : World) : (binOp .eql 25 (.agg #[.int .u8 k, .int .i64 p, .string s, .float .f64 x]) (.agg #[.int .u8 k', .int .i64 p', .string s', .float .f64 y])).run Tryd.prog w =
    .ok (.bool (eqTok k k' p p' s s' x y)) w := by
  rw [run_eql_struct, equal_tok]; rfl
theorem neq_tok (k k' p p' : Int) (s s' : ByteArray) (x y : Nat) (w : World) : (binOp .neq 25 (.agg #[.int .u8 k, .int .i64 p, .string s, .float .f64 x]) (.agg #[.int .u8 k', .int .i64 p', .string s', .float .f64 y])).run Tryd.prog w =
    .ok (.bool (!eqTok k k' p p' s s' x y)) w := by
  rw [run_neq_struct, equal_tok]; rfl
theorem eqTok_same (k p : Int) (s : ByteArray) (x y : Nat) (h : (FloatKind.f64.format.order x y == some .eq) = true) : eqTok k k p p s s x y = true := by
  unfold eqTok; rw [h]; simp

end Go.Proofs.YtkomjmgmancinaaDoor
