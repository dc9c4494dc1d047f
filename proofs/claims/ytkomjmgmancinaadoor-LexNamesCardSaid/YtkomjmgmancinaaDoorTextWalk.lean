/-
  The walk of num.Text.
-/
import Derived.Test.YtkomjmgmancinaaDoorMayWalk
import Derived.Test.YtkomjmgmancinaaDoorTextPlain
import Derived.Test.YtkomjmgmancinaaDoorShelf
import Derived.Lib.SmallJoins
import Derived.Shelf.Strings.SlTrimAscii
namespace Go.Proofs.YtkomjmgmancinaaDoor
open Go.RowKit

/-- A word's text. -/
def textR (x : Nat) : List UInt8 := if Fl.isNaN x then [78, 97, 78] else if Fl.isW x then Lib.itoa (Fl.toW x) else []

/-- The library's table of powers of ten, as the row lists it. -/
def Tab (w : World) : Prop := Lib.TabIs Tryd.prog w "internal/strconv.uint64pow10" .u64 Lib.pow10Tab

theorem format_any (n : Int) (h0 : -9007199254740991 ≤ n) (h1 : n ≤ 9007199254740991) (w : World) (ht : Tab w) :
    Calls Tryd.prog 46 #[.int .i64 n, .int .i64 10] w fun e w' => e = .returned (.string ⟨(Lib.itoa n).toArray⟩) ∧ Below w.heap.size w w' := by
  refine (Tryd.strconv_FormatInt_10 n (by omega) (by omega) w ht).mono ?_
  rintro e w' ⟨he, k, os, rfl⟩
  exact ⟨he, ⟨rfl, rfl, rfl, by simp, fun i hi => by simp [Sort.grow, Array.getElem?_append, hi]⟩⟩

theorem text_any (x : Nat) (w : World) (ht : Tab w) : Calls Tryd.prog 26 #[.float .f64 x] w fun e w' => e = .returned (.string ⟨(textR x).toArray⟩) ∧ Below w.heap.size w w' := by
  have Ht := hid ht
  clear ht
  cases hn : Fl.isNaN x
  · have ha := ordE hn
    cases hw : Fl.isW x
    · have e : textR x = [] := by unfold textR; rw [hn, hw]; rfl
      have hm : Fl.may x = false := by unfold Fl.may; rw [hn, hw]; rfl
      rw [e]
      clear hn hw e
      go_enter Tryd.func26, Tryd.ntmps26
      go_wp2_with (go_at_call 42; refine (may_any _ _).mono ?_; rintro e w' ⟨rfl, rfl⟩)
      go_ret
      exact ⟨rfl, Below.refl _ _⟩
    · have e : textR x = Lib.itoa (Fl.toW x) := by unfold textR; rw [hn, hw]; rfl
      have hm : Fl.may x = true := by unfold Fl.may; rw [hw]; simp
      rw [e]
      obtain ⟨hi, b1, b2⟩ := (Fl.isW_iff x).1 hw
      have htr := Fl.tr_of_is hi
      have hc := fun W : World => run_convert_float_int (P := Tryd.prog) W 23 2 .f64 .i64 x (Fl.toW x) (by rw [Tryd.underlying23]; rfl) Tryd.underlying2 (by have := Fl.toI64 hi.1 (by rw [htr]; exact b1) (by rw [htr]; exact b2); rw [htr] at this; exact this)
      unfold Fl.safe at b1 b2
      clear hn hw e hi htr
      generalize Fl.toW x = n at *
      go_enter Tryd.func26, Tryd.ntmps26
      go_wp2_with (first | (go_at_call 42; refine (may_any _ _).mono ?_; rintro e w' ⟨rfl, rfl⟩) | (go_at_call 46; refine (format_any _ b1 b2 _ Ht.out).mono ?_; rintro e w' ⟨rfl, hb⟩; have Hb := hid hb; clear hb))
      go_ret
      exact ⟨rfl, Hb.out⟩
  · have ha := ordN hn
    have e : textR x = [78, 97, 78] := by unfold textR; rw [hn]; rfl
    rw [e]
    clear hn e
    go_enter Tryd.func26, Tryd.ntmps26
    go_wp2_with fail
    go_ret
    exact ⟨rfl, Below.refl _ _⟩

end Go.Proofs.YtkomjmgmancinaaDoor
