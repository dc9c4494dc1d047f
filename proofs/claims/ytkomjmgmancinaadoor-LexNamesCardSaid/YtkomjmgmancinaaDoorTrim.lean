/-
  The contract of strings.Trim at the blanks.
-/
import Derived.Test.YtkomjmgmancinaaDoorBytes
import Derived.Test.YtkomjmgmancinaaDoorShelf
import Derived.Shelf.Strings.SlTrimAscii
namespace Go.Proofs.YtkomjmgmancinaaDoor
open Go.RowKit

theorem trim_any (s : ByteArray) (w : World) (hs : s.size ≤ 9223372036854775807) :
    Calls Tryd.prog 55 #[.string s, .string ⟨#[9, 10, 13, 32]⟩] w fun e w' => (∃ r : ByteArray, e = .returned (.string r) ∧ r.data.toList = Lib.trimS s.data.toList blanks) ∧ Below w.heap.size w w' := by
  refine (Any.strings_Trim_laid Tryd.lays160 (by kernel_rfl) s ⟨#[9, 10, 13, 32]⟩ w hs (by decide) (ascii_of_all (by decide))).mono ?_
  rintro e w' ⟨he, hb⟩
  exact ⟨⟨_, he, rfl⟩, hb⟩

end Go.Proofs.YtkomjmgmancinaaDoor
