/-
  The walk of math.Trunc: a word cut towards zero, as a word.
-/
import Derived.Test.YtbkjbpefbdoenaaKit
import Derived.Test.YtbkjbpefbdoenaaWhole
namespace Go.Proofs.Ytbkjbpefbdoenaa
open Go.RowKit

/-- A word cut towards zero, as a word. -/
def truncW (a : Nat) : Nat := if Fl.fin a then Ieee.double.nearest (Fl.sg a) (Fl.mg (Fl.rg a) / Fl.K) 0 else Ieee.double.word (Fl.sg a) Fl.top

theorem integral_num {x : Nat} {s : Bool} {m : Nat} {p : Int} (h : FloatKind.f64.decode x = .number s m p) (P : Program) (w : World) :
    (Extern.MathFloor.toIntegral "math.archTrunc" .zero #[.float .f64 x]).run P w = .ok (.float .f64 (FloatKind.f64.encode ((Ieee.Datum.number s m p).integral .zero))) w := by
  conv in (Extern.MathFloor.toIntegral _ _ _) => whnf
  rw [h]; rfl

theorem integral_inf {x : Nat} {s : Bool} (h : FloatKind.f64.decode x = .infinity s) (P : Program) (w : World) :
    (Extern.MathFloor.toIntegral "math.archTrunc" .zero #[.float .f64 x]).run P w = .ok (.float .f64 (FloatKind.f64.encode ((Ieee.Datum.infinity s).integral .zero))) w := by
  conv in (Extern.MathFloor.toIntegral _ _ _) => whnf
  rw [h]; rfl

theorem run_archTrunc (a : Nat) (h : Fl.isNaN a = false) (w : World) : (callFunc 87 #[.float .f64 a]).run Try.prog w = .ok (.value (.float .f64 (truncW a))) w := by
  rw [run_callFunc_extern (P := Try.prog) (f := 87) (fn := Try.f87) (e := Extern.MathFloor.toIntegral "math.archTrunc" .zero) (by kernel_rfl) (by kernel_rfl) (by kernel_rfl) (by kernel_rfl) (by kernel_rfl)]
  unfold truncW
  rcases Fl.kinds a with hf | hi | hn
  · have h1 : FloatKind.f64.decode a = .number (Fl.sg a) (Fl.dg (Fl.rg a)) (-1074 + (Fl.pl (Fl.rg a) : Nat)) := Fl.read_fin hf
    have h2 := Fl.integral_fin hf
    rw [h1] at h2
    rw [integral_num h1, h2, if_pos hf]
    rfl
  · have h1 : FloatKind.f64.decode a = .infinity (Fl.sg a) := Fl.read_inf hi
    have hf : ¬ (Fl.fin a = true) := by simp [Fl.fin, hi]
    have e : FloatKind.f64.encode ((Ieee.Datum.infinity (Fl.sg a)).integral .zero) = Ieee.double.word (Fl.sg a) Fl.top := by
      show Ieee.double.word (Fl.sg a) Ieee.double.infRung = _
      rw [Fl.infRung_double]
    rw [integral_inf h1, e, if_neg hf]; rfl
  · rw [hn] at h; cases h

theorem trunc_any (a : Nat) (h : Fl.isNaN a = false) (w : World) :
    Calls Try.prog 68 #[.float .f64 a] w fun e w' => e = .returned (.float .f64 (truncW a)) ∧ w = w' := by
  have h1 := run_archTrunc a h
  clear h
  go_enter Try.func68, Try.ntmps68
  go_wp2
  go_ret
  exact ⟨rfl, rfl⟩

end Go.Proofs.Ytbkjbpefbdoenaa
