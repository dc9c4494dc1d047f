/-
  The host's names and values (plain lists).
-/
import Derived.Test.YtchpkopeblgifaaWords
namespace Go.Proofs.Ytchpkopeblgifaa
open Go.RowKit

def hosts : List ByteArray := [⟨#[117, 110, 100, 101, 102, 105, 110, 101, 100]⟩, ⟨#[78, 97, 78]⟩, ⟨#[79, 98, 106, 101, 99, 116]⟩, ⟨#[82, 101, 102, 108, 101, 99, 116]⟩, ⟨#[65, 114, 114, 97, 121]⟩, ⟨#[80, 114, 111, 120, 121]⟩, ⟨#[83, 116, 114, 105, 110, 103]⟩, ⟨#[78, 117, 109, 98, 101, 114]⟩, ⟨#[66, 111, 111, 108, 101, 97, 110]⟩, ⟨#[83, 121, 109, 98, 111, 108]⟩, ⟨#[69, 114, 114, 111, 114]⟩, ⟨#[84, 121, 112, 101, 69, 114, 114, 111, 114]⟩, ⟨#[82, 97, 110, 103, 101, 69, 114, 114, 111, 114]⟩, ⟨#[82, 101, 102, 101, 114, 101, 110, 99, 101, 69, 114, 114, 111, 114]⟩, ⟨#[112, 114, 105, 110, 116]⟩]
def hW (k : Nat) : ByteArray := hosts.getD k ⟨#[]⟩
def hostsA : Array Value := ((List.range 15).map fun i => Value.string (hW i)).toArray
theorem hostsA_get (i : Nat) (h : i < 15) : hostsA[i]? = some (.string (hW i)) := by simp [hostsA, h]
def hpl : List Nat := [0, 0, 11, 12, 13, 14, 15, 20, 21, 22, 16, 17, 18, 19, 23]
/-- Which first object a host's name is. -/
def hp (i : Nat) : Nat := hpl.getD i 0
theorem hosts_all : ((List.range 15).all fun i => decide (i < 2) || (decide (hp i < 24) && decide ((hW i).data = (nm (hp i)).data))) = true := by decide +kernel
theorem host_nm (i : Nat) (h2 : 2 ≤ i) (h : i < 15) : hp i < 24 ∧ hW i = nm (hp i) := by
  have := List.all_eq_true.1 hosts_all i (by simpa using h)
  simp only [Bool.or_eq_true, Bool.and_eq_true, decide_eq_true_eq] at this
  rcases this with h3 | ⟨h3, h4⟩
  · omega
  · exact ⟨h3, ByteArray.ext h4⟩
/-- What an object can, as its value's kind. -/
def kd (n : Int) : Int := if 14 ≤ n ∧ n < 20 then 8 else if n = 1 ∨ 20 ≤ n then 7 else 6
/-- A value's cells. -/
def objC (k n : Int) (x : Nat) : List Value := [.int .u8 k, .float .f64 x, .string ⟨#[]⟩, .int .i64 n]
/-- The host's values, one by one. -/
def vitem (r : Nat) : Nat → List Value
  | 0 => objC 0 0 0
  | 1 => objC 3 0 r
  | i + 2 => objC (kd (hp (i + 2))) (hp (i + 2)) 0
def vals (r : Nat) : Nat → List Value
  | 0 => []
  | n + 1 => vals r n ++ vitem r n
theorem vitem_length (r n : Nat) : (vitem r n).length = 4 := by
  match n with
  | 0 => rfl
  | 1 => rfl
  | n + 2 => rfl
theorem vals_length (r n : Nat) : (vals r n).length = n * 4 := by
  induction n with
  | zero => rfl
  | succ n ih => simp [vals, ih, vitem_length]; omega
theorem vals_get (r n i f : Nat) (hi : i < n) (hf : f < 4) : (vals r n)[i * 4 + f]? = (vitem r i)[f]? := by
  induction n with
  | zero => omega
  | succ n ih =>
    have hl := vals_length r n
    unfold vals
    by_cases h : i < n
    · rw [List.getElem?_append_left (by omega), ih h]
    · obtain rfl : i = n := by omega
      rw [List.getElem?_append_right (by omega)]
      congr 1; omega

end Go.Proofs.Ytchpkopeblgifaa
