/-
  Plain laws on the token at the front of a text, kind by kind.
  The walk of num.Text.
  math.NaN.
-/
import Derived.Test.YtkomjmgmancinaaDoorLxJ
import Derived.Test.YtkomjmgmancinaaDoorLxE
import Derived.Test.YtkomjmgmancinaaDoorLxD
import Derived.Test.YtkomjmgmancinaaDoorShelf
import Derived.Lib.SmallJoins
import Derived.Shelf.Strings.SlTrimAscii
namespace Go.Proofs.YtkomjmgmancinaaDoor
open Go.RowKit

theorem tokR_let (l : List UInt8) (h : 0 < l.length) (hc : isLet l[0] = true) : tokR l = if 4096 < runN l then .bad 0 else ⟨true, if wordB (l.take (runN l)) then 2 else 1, l.take (runN l), 0, runN l⟩ := by
  cases l with
  | nil => simp at h
  | cons c r => rw [tokR, if_pos (by simpa using hc)]
theorem tokR_dig (l : List UInt8) (h : 0 < l.length) (hc : isLet l[0] = false) (hd : isDig l[0] = true) : tokR l = if (l.take (runN l)).all isDig = false ∨ (l[0] = 48 ∧ 1 < runN l) ∨ 16 < runN l ∨ 9007199254740991 < worth (l.take (runN l)) then .bad 0
       else ⟨true, 3, [], worth (l.take (runN l)), runN l⟩ := by
  cases l with
  | nil => simp at h
  | cons c r =>
    have h1 : isLet c = false := by simpa using hc
    have h2 : isDig c = true := by simpa using hd
    rw [tokR, if_neg (by rw [h1]; decide), if_pos h2]; rfl
theorem tokR_qu (l : List UInt8) (h : 0 < l.length) (hc : isLet l[0] = false) (hd : isDig l[0] = false) (hq : isQu l[0] = true) : tokR l = match CloseAt l[0] l 1 with
      | none => .bad 0
      | some e => if (plainR ((l.drop 1).take (e - 1))).2.2 = 5 then .bad (1 + (plainR ((l.drop 1).take (e - 1))).2.1) else if (plainR ((l.drop 1).take (e - 1))).2.2 ≠ 0 then .bad 0 else ⟨true, 4, (plainR ((l.drop 1).take (e - 1))).1, 0, e + 1⟩ := by
  cases l with
  | nil => simp at h
  | cons c r =>
    have h1 : isLet c = false := by simpa using hc
    have h2 : isDig c = false := by simpa using hd
    have h3 : isQu c = true := by simpa using hq
    rw [tokR, if_neg (by rw [h1]; decide), if_neg (by rw [h2]; decide), if_pos h3]
    show (match closeAt c r with | none => _ | some e => _) = match CloseAt c (c :: r) 1 with | none => _ | some e => _
    unfold CloseAt
    rw [List.drop_succ_cons, List.drop_zero]
    cases closeAt c r with
    | none => rfl
    | some e => simp only [Option.map_some, Nat.add_sub_cancel]
theorem tokR_other (l : List UInt8) (h : 0 < l.length) (hc : isLet l[0] = false) (hd : isDig l[0] = false) (hq : isQu l[0] = false) : tokR l = signOf l 3 := by
  cases l with
  | nil => simp at h
  | cons c r =>
    have h1 : isLet c = false := by simpa using hc
    have h2 : isDig c = false := by simpa using hd
    have h3 : isQu c = false := by simpa using hq
    rw [tokR, if_neg (by rw [h1]; decide), if_neg (by rw [h2]; decide), if_neg (by rw [h3]; decide)]

/-! ### digits -/

def digitsL : List UInt8 := [48, 49, 50, 51, 52, 53, 54, 55, 56, 57]
theorem digitsL_eq (b : UInt8) : digitsL.contains b = isDig b := by
  rw [Bool.eq_iff_iff, isDig_iff]
  unfold digitsL
  simp only [List.contains_cons, List.contains_nil, Bool.or_false, Bool.or_eq_true, beq_iff_eq, ← UInt8.toNat_inj]
  have e : (48 : UInt8).toNat = 48 ∧ (49 : UInt8).toNat = 49 ∧ (50 : UInt8).toNat = 50 ∧ (51 : UInt8).toNat = 51 ∧ (52 : UInt8).toNat = 52 ∧ (53 : UInt8).toNat = 53 ∧ (54 : UInt8).toNat = 54 ∧ (55 : UInt8).toNat = 55 ∧ (56 : UInt8).toNat = 56 ∧ (57 : UInt8).toNat = 57 := by decide
  obtain ⟨e0, e1, e2, e3, e4, e5, e6, e7, e8, e9⟩ := e
  rw [e0, e1, e2, e3, e4, e5, e6, e7, e8, e9]
  omega
theorem dropWhile_nil {α : Type} (p : α → Bool) (l : List α) : l.dropWhile p = [] ↔ l.all p = true := by
  induction l with
  | nil => simp
  | cons a l ih =>
    rw [List.dropWhile_cons, List.all_cons]
    by_cases h : p a = true
    · rw [if_pos h, h, Bool.true_and, ih]
    · rw [if_neg h]; simp [h]
theorem trimD_nil (l : List UInt8) : Lib.trimS l digitsL = [] ↔ l.all isDig = true := by
  unfold Lib.trimS Lib.trimLeftS Lib.trimRightS
  have e : (fun b => digitsL.contains b) = isDig := funext digitsL_eq
  show ((l.reverse.dropWhile (fun b => digitsL.contains b)).reverse).dropWhile (fun b => digitsL.contains b) = [] ↔ _
  rw [e, dropWhile_nil, List.all_reverse]
  constructor
  · intro h
    have h2 : l.reverse.dropWhile isDig = [] := by
      cases hx : l.reverse.dropWhile isDig with
      | nil => rfl
      | cons a r =>
        exfalso
        have hh : isDig a = false := by
          have : ∀ (m : List UInt8) a, (m.dropWhile isDig).head? = some a → isDig a = false := by
            intro m
            induction m with
            | nil => intro a h; simp at h
            | cons b m ih =>
              intro a h
              rw [List.dropWhile_cons] at h
              split at h
              · exact ih a h
              · rename_i hb
                simp only [List.head?_cons, Option.some.injEq] at h
                subst h; simpa using hb
          exact this l.reverse a (by rw [hx]; rfl)
        rw [hx, List.all_cons, hh] at h
        cases h
    rw [dropWhile_nil, List.all_reverse] at h2
    exact h2
  · intro h
    have h2 : l.reverse.dropWhile isDig = [] := by rw [dropWhile_nil, List.all_reverse]; exact h
    rw [h2]; rfl
theorem dig_not_blank {b : UInt8} (h : isDig b = true) : isBl b = false := by
  cases hb : isBl b with
  | false => rfl
  | true => rw [isBl_iff] at hb; rw [isDig_iff] at h; omega
theorem read_digits (l : List UInt8) (h0 : l ≠ []) (h : l.all isDig = true) : readR l = if 9007199254740991 < worth l then (10, some 0) else (0, some (worth l : Int)) := by
  have hall : ∀ a ∈ l, isDig a = true := List.all_eq_true.1 h
  have ht : Lib.trimS l blanks = l := by
    have := trim_parts [] l [] rfl rfl (fun a ha => dig_not_blank (hall a (List.mem_of_head? ha))) (fun a ha => dig_not_blank (hall a (List.mem_of_getLast? ha)))
    simpa using this
  unfold readR
  rw [ht]
  have hh : ∀ c : UInt8, isDig c = false → ¬ l.head? = some c := fun c hc e => by
    have := hall c (List.mem_of_head? e); rw [hc] at this; cases this
  have h45 := hh 45 (by decide)
  have h43 := hh 43 (by decide)
  have hu : unsigned l = l := by unfold unsigned; rw [if_neg (by rintro (e | e); exact h45 e; exact h43 e)]
  unfold bareR
  rw [hu, if_neg h0, if_neg h0, if_neg (by rw [h]; decide)]
  by_cases hw : 9007199254740991 < worth l
  · rw [if_pos (Or.inl hw), if_pos hw]
  · rw [if_neg (by rintro (e | ⟨e, _⟩); exact hw e; exact h45 e), if_neg hw, if_neg h45]
theorem may_is {x : Nat} {n : Nat} (h : Fl.Is x (n : Int)) (hb : n ≤ 9007199254740991) : Fl.may x = true := by
  unfold Fl.may
  rw [Fl.isW_of_is h (by unfold Fl.safe; omega) (by unfold Fl.safe; omega)]; simp
theorem may_zero : Fl.may 0 = true := may_is (n := 0) Fl.is_0 (by decide)

theorem take_data (s : ByteArray) (n : Nat) : (s.extract 0 n).data.toList = s.data.toList.take n := by
  rw [Lib.extract_data, List.drop_zero, Nat.sub_zero]
theorem take_size (s : ByteArray) (n : Nat) (h : n ≤ s.size) : (s.extract 0 n).size = n := by
  rw [ba_size, take_data, List.length_take, ← ba_size]; omega
theorem mid_data (s : ByteArray) (e : Nat) : (s.extract 1 e).data.toList = (s.data.toList.drop 1).take (e - 1) := by rw [Lib.extract_data]

/-- What 'token' answers. -/
def TokOk (l : List UInt8) (w : World) (e : Ending) (w' : World) : Prop := ∃ (a : Int) (b : ByteArray) (c : Nat), e = .returned (.tuple #[.agg #[.int .u8 a, .int .i64 0, .string b, .float .f64 c], .int .i64 ((tokR l).n : Nat), .bool (tokR l).ok]) ∧
  ((tokR l).ok = true → a = (tokR l).k ∧ b.data.toList = (tokR l).text ∧ Fl.Is c (tokR l).num) ∧ Below w.heap.size w w'
theorem tokOk_bad {l : List UInt8} {w w' : World} {n : Nat} {n' : Int} (h : tokR l = .bad n) (hn : n' = n) (a : Int) (b : ByteArray) (c : Nat) (hb : Below w.heap.size w w') :
    TokOk l w (.returned (.tuple #[.agg #[.int .u8 a, .int .i64 0, .string b, .float .f64 c], .int .i64 n', .bool false])) w' := by
  refine ⟨a, b, c, ?_, ?_, hb⟩
  · rw [h, hn]; rfl
  · rw [h]; intro e; cases e
theorem tokOk_ok {l : List UInt8} {w w' : World} {t : TR} {n' : Int} (h : tokR l = t) (ht : t.ok = true) (hn : n' = t.n) {a : Int} {b : ByteArray} {c : Nat} (h1 : a = t.k) (h2 : b.data.toList = t.text) (h3 : Fl.Is c t.num) (hb : Below w.heap.size w w') :
    TokOk l w (.returned (.tuple #[.agg #[.int .u8 a, .int .i64 0, .string b, .float .f64 c], .int .i64 n', .bool true])) w' := by
  refine ⟨a, b, c, ?_, ?_, hb⟩
  · rw [h, hn, ht]
  · rw [h]; exact fun _ => ⟨h1, h2, h3⟩

end Go.Proofs.YtkomjmgmancinaaDoor

namespace Go.Proofs.YtkomjmgmancinaaDoor
open Go.RowKit

/-- A word's text. -/
def textR (x : Nat) : List UInt8 := if Fl.isNaN x then [78, 97, 78] else if Fl.isW x then Lib.itoa (Fl.toW x) else []

/-- The library's table of powers of ten, as the row lists it. -/
def Tab (w : World) : Prop := Lib.TabIs Tryd.prog w "internal/strconv.uint64pow10" .u64 Lib.pow10Tab

theorem format_any (n : Int) (h0 : -9007199254740991 ≤ n) (h1 : n ≤ 9007199254740991) (w : World) (ht : Tab w) :
    Calls Tryd.prog 46 #[.int .i64 n, .int .i64 10] w fun e w' => e = .returned (.string ⟨(Lib.itoa n).toArray⟩) ∧ Below w.heap.size w w' := by
  refine (Tryd.strconv_FormatInt_10 n (by omega) (by omega) w ht).mono ?_
  rintro e w' ⟨he, k, os, rfl⟩
  exact ⟨he, ⟨rfl, rfl, rfl, by simp, fun i hi => by simp [Sort.grow, Array.getElem?_append, hi]⟩⟩

theorem text_any (x : Nat) (w : World) (ht : Tab w) : Calls Tryd.prog 26 #[.float .f64 x] w fun e w' => e = .returned (.string ⟨(textR x).toArray⟩) ∧ Below w.heap.size w w' := by
  have Ht := hid ht
  clear ht
  cases hn : Fl.isNaN x
  · have ha := ordE hn
    cases hw : Fl.isW x
    · have e : textR x = [] := by unfold textR; rw [hn, hw]; rfl
      have hm : Fl.may x = false := by unfold Fl.may; rw [hn, hw]; rfl
      rw [e]
      clear hn hw e
      go_enter Tryd.func26, Tryd.ntmps26
      go_wp2_with (go_at_call 42; refine (may_any _ _).mono ?_; rintro e w' ⟨rfl, rfl⟩)
      go_ret
      exact ⟨rfl, Below.refl _ _⟩
    · have e : textR x = Lib.itoa (Fl.toW x) := by unfold textR; rw [hn, hw]; rfl
      have hm : Fl.may x = true := by unfold Fl.may; rw [hw]; simp
      rw [e]
      obtain ⟨hi, b1, b2⟩ := (Fl.isW_iff x).1 hw
      have htr := Fl.tr_of_is hi
      have hc := fun W : World => run_convert_float_int (P := Tryd.prog) W 23 2 .f64 .i64 x (Fl.toW x) (by rw [Tryd.underlying23]; rfl) Tryd.underlying2 (by have := Fl.toI64 hi.1 (by rw [htr]; exact b1) (by rw [htr]; exact b2); rw [htr] at this; exact this)
      unfold Fl.safe at b1 b2
      clear hn hw e hi htr
      generalize Fl.toW x = n at *
      go_enter Tryd.func26, Tryd.ntmps26
      go_wp2_with (first | (go_at_call 42; refine (may_any _ _).mono ?_; rintro e w' ⟨rfl, rfl⟩) | (go_at_call 46; refine (format_any _ b1 b2 _ Ht.out).mono ?_; rintro e w' ⟨rfl, hb⟩; have Hb := hid hb; clear hb))
      go_ret
      exact ⟨rfl, Hb.out⟩
  · have ha := ordN hn
    have e : textR x = [78, 97, 78] := by unfold textR; rw [hn]; rfl
    rw [e]
    clear hn e
    go_enter Tryd.func26, Tryd.ntmps26
    go_wp2_with fail
    go_ret
    exact ⟨rfl, Below.refl _ _⟩

end Go.Proofs.YtkomjmgmancinaaDoor

namespace Go.Proofs.YtkomjmgmancinaaDoor
open Go.RowKit

theorem nan_word : Fl.isNaN 9221120237041090561 = true := by decide

theorem mnan_any (w : World) : Calls Tryd.prog 82 #[] w fun e w' => e = .returned (.float .f64 9221120237041090561) ∧ w = w' := by
  have b2 := fun z => run_frombits z
  go_enter Tryd.func82, Tryd.ntmps82
  go_wp2_with fail
  go_ret
  exact ⟨rfl, rfl⟩

end Go.Proofs.YtkomjmgmancinaaDoor
