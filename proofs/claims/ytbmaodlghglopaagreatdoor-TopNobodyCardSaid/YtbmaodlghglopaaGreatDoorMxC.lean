/-
  The walk of math.Trunc: a word cut towards zero, as a word.
  The walks of num.May and of the reference's whole: what each answers, by which whole number a word is.
  The last step that all laws of this seat share: a call that answered true, and behind which all old memory is as it was, is what the statement asks.
  What a word of an answer stands for.
  Values, as the walks have them; making them; which are objects, which can be called; which may be.
  Which values may be: the program's May, the reference's.
-/
import Derived.Test.YtbmaodlghglopaaGreatDoorMxA
import Derived.Test.YtbmaodlghglopaaGreatDoorWhole
import Derived.Test.YtbmaodlghglopaaGreatDoorRows
import Derived.WalkKit
import Derived.WalkLawsBesides
import Derived.ProofKit
import Derived.OpenShut
namespace Go.Proofs.YtbmaodlghglopaaGreatDoor
open Go.RowKit

/-- A word cut towards zero, as a word. -/
def truncW (a : Nat) : Nat := if Fl.fin a then Ieee.double.nearest (Fl.sg a) (Fl.mg (Fl.rg a) / Fl.K) 0 else Ieee.double.word (Fl.sg a) Fl.top

theorem integral_num {x : Nat} {s : Bool} {m : Nat} {p : Int} (h : FloatKind.f64.decode x = .number s m p) (P : Program) (w : World) :
    (Extern.MathFloor.toIntegral "math.archTrunc" .zero #[.float .f64 x]).run P w = .ok (.float .f64 (FloatKind.f64.encode ((Ieee.Datum.number s m p).integral .zero))) w := by
  conv in (Extern.MathFloor.toIntegral _ _ _) => whnf
  rw [h]; rfl

theorem integral_inf {x : Nat} {s : Bool} (h : FloatKind.f64.decode x = .infinity s) (P : Program) (w : World) :
    (Extern.MathFloor.toIntegral "math.archTrunc" .zero #[.float .f64 x]).run P w = .ok (.float .f64 (FloatKind.f64.encode ((Ieee.Datum.infinity s).integral .zero))) w := by
  conv in (Extern.MathFloor.toIntegral _ _ _) => whnf
  rw [h]; rfl

theorem run_archTrunc (a : Nat) (h : Fl.isNaN a = false) (w : World) : (callFunc 136 #[.float .f64 a]).run Tryz.prog w = .ok (.value (.float .f64 (truncW a))) w := by
  rw [run_callFunc_extern (P := Tryz.prog) (f := 136) (fn := Tryz.f136) (e := Extern.MathFloor.toIntegral "math.archTrunc" .zero) (by kernel_rfl) (by kernel_rfl) (by kernel_rfl) (by kernel_rfl) (by kernel_rfl)]
  unfold truncW
  rcases Fl.kinds a with hf | hi | hn
  · have h1 : FloatKind.f64.decode a = .number (Fl.sg a) (Fl.dg (Fl.rg a)) (-1074 + (Fl.pl (Fl.rg a) : Nat)) := Fl.read_fin hf
    have h2 := Fl.integral_fin hf
    rw [h1] at h2
    rw [integral_num h1, h2, if_pos hf]
    rfl
  · have h1 : FloatKind.f64.decode a = .infinity (Fl.sg a) := Fl.read_inf hi
    have hf : ¬ (Fl.fin a = true) := by simp [Fl.fin, hi]
    have e : FloatKind.f64.encode ((Ieee.Datum.infinity (Fl.sg a)).integral .zero) = Ieee.double.word (Fl.sg a) Fl.top := by
      show Ieee.double.word (Fl.sg a) Ieee.double.infRung = _
      rw [Fl.infRung_double]
    rw [integral_inf h1, e, if_neg hf]; rfl
  · rw [hn] at h; cases h

theorem trunc_any (a : Nat) (h : Fl.isNaN a = false) (w : World) :
    Calls Tryz.prog 102 #[.float .f64 a] w fun e w' => e = .returned (.float .f64 (truncW a)) ∧ w = w' := by
  have h1 := run_archTrunc a h
  clear h
  go_enter Tryz.func102, Tryz.ntmps102
  go_wp2
  go_ret
  exact ⟨rfl, rfl⟩

end Go.Proofs.YtbmaodlghglopaaGreatDoor

namespace Go.Proofs.YtbmaodlghglopaaGreatDoor
open Go.RowKit

/-! ### the library's functions -/

theorem run_bits (a : Nat) (w : World) : (callFunc 139 #[.float .f64 a]).run Tryz.prog w = .ok (.value (.int .u64 a)) w := by kernel_rfl

theorem run_frombits (a : Int) (w : World) : (callFunc 138 #[.int .u64 a]).run Tryz.prog w = .ok (.value (.float .f64 a.toNat)) w := by kernel_rfl

theorem andNot_sign (a : Nat) : (bits BinOp.andNot IntKind.u64 (a : Int) 9223372036854775808).toNat = Fl.rg a := by
  have e1 : bits .andNot .u64 (a : Int) 9223372036854775808 = ((a % 2 ^ 64 &&& (2 ^ 63 - 1) : Nat) : Int) := by
    have hx : a % 2 ^ 64 &&& (2 ^ 63 - 1) < 2 ^ 64 := Nat.and_lt_two_pow _ (by omega)
    show IntKind.u64.wrap ((BitVec.ofInt 64 (a : Int) &&& ~~~BitVec.ofInt 64 (9223372036854775808 : Int)).toNat : Int) = _
    rw [BitVec.toNat_and, BitVec.ofInt_natCast, BitVec.toNat_ofNat, show (~~~BitVec.ofInt 64 (9223372036854775808 : Int)).toNat = 2 ^ 63 - 1 by decide, IntKind.wrap_u64]
    omega
  rw [e1, Int.toNat_natCast, Nat.and_two_pow_sub_one_eq_mod]
  unfold Fl.rg
  omega

theorem abs_any (a : Nat) (w : World) :
    Calls Tryz.prog 103 #[.float .f64 a] w fun e w' => e = .returned (.float .f64 (Fl.rg a)) ∧ w = w' := by
  have h1 := run_bits
  have h2 := run_frombits
  go_enter Tryz.func103, Tryz.ntmps103
  go_wp2
  go_ret
  exact ⟨congrArg (fun n => Ending.returned (.float .f64 n)) (andNot_sign a), rfl⟩

theorem wrap_sign (a : Nat) : decide (wrap64 (a : Int) < 0) = Fl.sg a := by
  unfold Fl.sg wrap64
  rw [Bool.eq_iff_iff, decide_eq_true_eq, beq_iff_eq]
  omega

theorem signbit_any (a : Nat) (w : World) :
    Calls Tryz.prog 104 #[.float .f64 a] w fun e w' => e = .returned (.bool (Fl.sg a)) ∧ w = w' := by
  have h1 := run_bits
  go_enter Tryz.func104, Tryz.ntmps104
  go_wp2
  go_ret
  exact ⟨congrArg (fun n => Ending.returned (.bool n)) (wrap_sign a), rfl⟩

/-! ### num.May -/

theorem rg_rg (a : Nat) : Fl.rg (Fl.rg a) = Fl.rg a := by unfold Fl.rg; omega
theorem sg_rg (a : Nat) : Fl.sg (Fl.rg a) = false := by unfold Fl.sg Fl.rg; rw [beq_eq_false_iff_ne]; omega
theorem fin_rg (a : Nat) : Fl.fin (Fl.rg a) = Fl.fin a := by unfold Fl.fin; rw [rg_rg]
theorem sc_rg (a : Nat) : Fl.sc (Fl.rg a) = Fl.mg (Fl.rg a) := by unfold Fl.sc; rw [sg_rg, rg_rg]; rfl

theorem eq_trunc {a : Nat} (hf : Fl.fin a = true) : (FloatKind.f64.format.order (truncW a) a == some .eq) = decide (Fl.tr a * (Fl.K : Int) = Fl.sc a) := by
  unfold truncW
  rw [if_pos hf]
  obtain ⟨h1, h2, h3⟩ := Fl.trunc_fin hf
  rw [Fl.eq_fin h1 hf, h3]

theorem leq_safe {a : Nat} (hf : Fl.fin a = true) :
    (FloatKind.f64.format.order (Fl.rg a) 4845873199050653695 == some .lt || FloatKind.f64.format.order (Fl.rg a) 4845873199050653695 == some .eq) = decide ((Fl.mg (Fl.rg a) : Int) ≤ Fl.safe * (Fl.K : Int)) := by
  have hr : Fl.fin (Fl.rg a) = true := by rw [fin_rg]; exact hf
  rw [Fl.lt_fin hr Fl.is_safe.1, Fl.eq_fin hr Fl.is_safe.1, Fl.is_safe.2.1, sc_rg, Bool.eq_iff_iff]
  simp only [Bool.or_eq_true, decide_eq_true_eq]
  omega

theorem may_fin (a : Nat) (t u z : Bool) (hn : Fl.isNaN a = false) (e1 : (FloatKind.f64.format.order (truncW a) a == some .eq) = t)
    (e2 : (FloatKind.f64.format.order (Fl.rg a) 4845873199050653695 == some .lt || FloatKind.f64.format.order (Fl.rg a) 4845873199050653695 == some .eq) = u)
    (e3 : (FloatKind.f64.format.order a 0 == some .eq) = z) (w : World) :
    Calls Tryz.prog 71 #[.float .f64 a] w fun e w' => e = .returned (.bool (t && u && (!z || !Fl.sg a))) ∧ w = w' := by
  have ha := ordE hn
  have e4 : (FloatKind.f64.format.order a 0 != some .eq) = !z := by rw [bne, e3]
  clear e3
  have Hn := hid hn
  clear hn
  cases t <;> cases u <;> cases z
  all_goals
    simp only [Bool.not_true, Bool.not_false, Bool.true_and, Bool.false_and, Bool.and_false, Bool.true_or, Bool.false_or] at e4 ⊢
    go_enter Tryz.func71, Tryz.ntmps71
    go_wp2_with (first | (go_at_call 102; refine (trunc_any a Hn.out _).mono ?_; rintro e w' ⟨rfl, rfl⟩) | (go_at_call 103; refine (abs_any a _).mono ?_; rintro e w' ⟨rfl, rfl⟩) | (go_at_call 104; refine (signbit_any a _).mono ?_; rintro e w' ⟨rfl, rfl⟩))
    go_ret
    exact ⟨rfl, rfl⟩

theorem may_any (a : Nat) (w : World) :
    Calls Tryz.prog 71 #[.float .f64 a] w fun e w' => e = .returned (.bool (Fl.may a)) ∧ w = w' := by
  rcases Fl.kinds a with hf | hi | hn
  · have hn := Fl.fin_not_nan hf
    have h := may_fin a _ _ _ hn (eq_trunc hf) (leq_safe hf) (Fl.order_0 a hn) w
    rw [← Fl.isW_fin_eq hf] at h
    have hm : Fl.may a = Fl.isW a := by simp [Fl.may, hn]
    rw [hm]; exact h
  · have hn : Fl.isNaN a = false := by simp [Fl.isNaN, hi]
    have hf : Fl.fin a = false := by simp [Fl.fin, hi]
    have e2 : (FloatKind.f64.format.order (Fl.rg a) 4845873199050653695 == some .lt || FloatKind.f64.format.order (Fl.rg a) 4845873199050653695 == some .eq) = false := by
      rw [Fl.order_inf_fin (by rw [rg_rg]; exact hi) Fl.is_safe.1, sg_rg]; rfl
    have h := may_fin a _ _ _ hn rfl e2 (Fl.order_0 a hn) w
    have hm : Fl.may a = false := by simp [Fl.may, hn, Fl.not_isW_inf hf]
    rw [hm]
    simpa using h
  · have ha := ordN hn
    have hm : Fl.may a = true := by simp [Fl.may, hn]
    rw [hm]
    clear hn hm
    go_enter Tryz.func71, Tryz.ntmps71
    go_wp2_with fail
    go_ret
    exact ⟨rfl, rfl⟩

/-! ### the reference's whole -/

end Go.Proofs.YtbmaodlghglopaaGreatDoor

namespace Go.Proofs.YtbmaodlghglopaaGreatDoor
open Go.ChangeShapes Go.WideShapes Go.ChangeAt Go.RowKit

section
variable {H : Type} {enc : TypeId × Value → H} {P : Program}

/-- Each argument reads as it did, below a world that has only grown. -/
theorem trodAll_below (hl : laidOutB P = true) {W W' : World} (hb : Below W.heap.size W W') :
    ∀ {ts : List TypeId} {vs : List Value} {ds : List (DataW H)} {ps : List MemPlace}, (∀ t, t ∈ ts → P.readableRec t = true ∧ t < P.types.size) → (∀ x, x ∈ ps → x.block < W.heap.size) →
      DataW.TrodAll enc P W 0 (fun _ => true) true ts vs ds ps → DataW.TrodAll enc P W' 0 (fun b => decide (b < W.heap.size)) true ts vs ds ps
  | [], [], [], _, _, _, h => h
  | [], [], _ :: _, _, _, _, h => h.elim
  | [], _ :: _, _, _, _, _, h => h.elim
  | _ :: _, [], _, _, _, _, h => h.elim
  | _ :: _, _ :: _, [], _, _, _, h => h.elim
  | t :: ts, v :: vs, d :: ds, ps, hr, hlt, h => by
    obtain ⟨p, q, h1, h2, rfl⟩ := h
    exact ⟨p, q, Below.trod hl (hr t (by simp)).1 (hr t (by simp)).2 h1 hb (fun x hx => hlt x (by simp [hx])), trodAll_below hl hb (fun u hu => hr u (by simp [hu])) (fun x hx => hlt x (by simp [hx])) h2, rfl⟩

/-- What was readable with the marks below the old size alone is readable with all marks. -/
theorem trodAll_all (hl : laidOutB P = true) {W W' : World} (hb : Below W.heap.size W W') :
    ∀ {ts : List TypeId} {vs : List Value} {ds : List (DataW H)} {ps : List MemPlace}, (∀ t, t ∈ ts → P.readableRec t = true ∧ t < P.types.size) → (∀ x, x ∈ ps → x.block < W.heap.size) →
      DataW.TrodAll enc P W 0 (fun _ => true) true ts vs ds ps → DataW.TrodAll enc P W' 0 (fun _ => true) true ts vs ds ps
  | [], [], [], _, _, _, h => h
  | [], [], _ :: _, _, _, _, h => h.elim
  | [], _ :: _, _, _, _, _, h => h.elim
  | _ :: _, [], _, _, _, _, h => h.elim
  | _ :: _, _ :: _, [], _, _, _, h => h.elim
  | t :: ts, v :: vs, d :: ds, ps, hr, hlt, h => by
    obtain ⟨p, q, h1, h2, rfl⟩ := h
    exact ⟨p, q, WideElems.Trod_stays hl (hr t (by simp)).1 (hr t (by simp)).2 h1 (fun x hx => hb.same (hlt x (by simp [hx]))) (fun _ _ => rfl), trodAll_all hl hb (fun u hu => hr u (by simp [hu])) (fun x hx => hlt x (by simp [hx])) h2, rfl⟩

theorem law_post {f : Func} {s : ChangeSpec} {apart fresh handsOn again : Bool} {W W' : World} {args : Array Value} {ds gs : List (DataW H)} {before : List MemPlace} {tb : TypeId}
    (hl : laidOutB P = true) (hread : ∀ t, t ∈ f.params.toList → P.readableRec t = true ∧ t < P.types.size)
    (hv : s.vars = []) (hr : f.resultTypes = #[tb]) (htb : P.underlying tb = some .bool)
    (hW : DataW.Whole enc P f.params.toList s.vars apart W args.toList ds gs before)
    (hres : (s.fn H (ds ++ gs)).results = [.lit (.bool true)]) (hargs : (s.fn H (ds ++ gs)).args = ds) (hvars : (s.fn H (ds ++ gs)).vars = [])
    (hb : Below W.heap.size W W') :
    s.post enc P f apart fresh handsOn again W args (.bool true) W' := by
  have hlt : ∀ p ∈ before, p.block < W.heap.size := fun p hp => hW.lt p hp
  have hW0 := hW
  obtain ⟨p, q, hA, hV, rfl, hfz, hnd⟩ := hW
  rw [hv] at hV
  obtain ⟨rfl, rfl⟩ := trodVars_none hV
  simp only [List.append_nil] at *
  have hres1 : ∀ (b : Nat) (sp : Nat → Bool) (hd : Bool), DataW.TrodAll enc P W' b sp hd f.resultTypes.toList ((Value.bool true).resultList f.resultTypes.size) [.lit (.bool true)] [] := by
    intro b sp hd
    rw [hr]
    exact trodAll_mk1 (shut_bool htb true)
  refine ⟨ds, [], p, [], p, [], hW0, ?_, ?_, ?_, World.keptBut_mono (fun x hx => ⟨hx, Or.inr (Or.inl hx)⟩) (hb.frame (· ∈ p)), fun _ => ?_⟩
  · rw [List.append_nil, hres]; exact hres1 _ _ _
  · rw [List.append_nil, hargs]; exact trodAll_below hl hb hread hlt hA
  · rw [List.append_nil, hvars, hv]; rfl
  · refine ⟨?_, .lit (.bool true) :: ds, [], [] ++ p, ⟨[] ++ p, [], trodAll_append (trodAll_all hl hb hread hlt hA) (hres1 _ _ _), ?_, by simp, ?_, ?_⟩, ?_⟩
    · exact ok_one hr rfl (okWide_bool_mk htb true)
    · rw [hv]; rfl
    · intro b off hp
      have hp' : MemPlace.cell b off ∈ p := by simpa using hp
      rw [hb.frozen (p := ⟨b, off, none⟩) (hlt _ hp')]
      exact hfz b off hp'
    · intro ha; simpa using hnd ha
    · intro x hx _; simpa using hx
end

end Go.Proofs.YtbmaodlghglopaaGreatDoor

namespace Go.Proofs.YtbmaodlghglopaaGreatDoor
open Go.RowKit

end Go.Proofs.YtbmaodlghglopaaGreatDoor

namespace Go.Proofs.YtbmaodlghglopaaGreatDoor
open Go.RowKit

@[go_sem] theorem run_equalIn_float {P : Program} (w : World) (d : Nat) (t : TypeId) (k k' : FloatKind) (a b : Nat) (h : P.underlying t = some (.float k')) : (Op.equalIn (d + 1) t (.float k a) (.float k b)).run P w = .ok (k.format.order a b == some .eq) w := by
  simp [Op.equalIn, run_underlying h, Op.floatEq]

/-- A value as the walk has it. -/
abbrev val (k : Int) (x : Nat) (s : ByteArray) (r : Int) : Value := .agg #[.int .u8 k, .float .f64 x, .string s, .int .i64 r]

/-- Is a kind an object's? Can it be called? -/
def isObj (k : Int) : Bool := decide (6 ≤ k) && decide (k ≤ 8)
def isCal (k : Int) : Bool := (k == 7) || (k == 8)

theorem isObj_any (k : Int) (x : Nat) (s : ByteArray) (r : Int) (w : World) :
    Calls Tryz.prog 9 #[val k x s r] w fun e w' => e = .returned (.bool (isObj k)) ∧ (w.alloc (.cells #[.int .u8 k, .float .f64 x, .string s, .int .i64 r] 29)) = w' := by
  by_cases h1 : 6 ≤ k
  · by_cases h2 : k ≤ 8
    · have e : isObj k = true := by simp [isObj, h1, h2]
      rw [e]
      clear e
      go_enter Tryz.func9, Tryz.ntmps9
      go_wp2
      go_ret
      exact ⟨rfl, rfl⟩
    · have e : isObj k = false := by simp [isObj, h2]
      rw [e]
      clear e
      go_enter Tryz.func9, Tryz.ntmps9
      go_wp2
      go_ret
      exact ⟨rfl, rfl⟩
  · have e : isObj k = false := by simp [isObj, h1]
    rw [e]
    clear e
    go_enter Tryz.func9, Tryz.ntmps9
    go_wp2
    go_ret
    exact ⟨rfl, rfl⟩

end Go.Proofs.YtbmaodlghglopaaGreatDoor

namespace Go.Proofs.YtbmaodlghglopaaGreatDoor
open Go.RowKit

/-- A nought without a minus. -/
def isN (x : Nat) : Bool := Fl.isZ x && !Fl.sg x
/-- Is a word one? -/
def is1 (x : Nat) : Bool := FloatKind.f64.format.order x 4607182418800017408 == some .eq
/-- May a value be? -/
def mayV (k : Int) (x : Nat) (s : ByteArray) (r : Int) : Bool :=
  if k = 0 ∨ k = 1 then isN x && s.toList.isEmpty && (r == 0)
  else if k = 2 then (isN x || is1 x) && s.toList.isEmpty && (r == 0)
  else if k = 3 then Fl.may x && s.toList.isEmpty && (r == 0)
  else if k = 4 then isN x && decide (s.size ≤ 4096) && (r == 0)
  else if k = 5 ∨ k = 6 ∨ k = 7 ∨ k = 8 then isN x && s.toList.isEmpty && decide (0 ≤ r)
  else false

/-- Equal to nought, and one of ours: a nought without a minus. -/
theorem isN_eq (x : Nat) : ((FloatKind.f64.format.order x 0 == some .eq) && Fl.may x) = isN x := by
  unfold isN
  cases hn : Fl.isNaN x
  · have e : (FloatKind.f64.format.order x 0 == some .eq) = Fl.isZ x := Fl.order_0 x hn
    rw [e]
    cases hz : Fl.isZ x
    · rfl
    · have hf := Fl.fin_of_isZ hz
      have hsc := (Fl.sc_zero_iff x).2 hz
      cases hs : Fl.sg x
      · have hi : Fl.Is x 0 := ⟨hf, by rw [hsc, Int.zero_mul], fun _ => hs⟩
        have hw : Fl.isW x = true := Fl.isW_of_is hi (by unfold Fl.safe; omega) (by unfold Fl.safe; omega)
        unfold Fl.may; rw [hw]; simp
      · have hw : Fl.isW x = false := by
          unfold Fl.isW; rw [hz, hs]; simp
        unfold Fl.may; rw [hw, hn]; rfl
  · have e : (FloatKind.f64.format.order x 0 == some .eq) = false := by rw [ordN hn]; rfl
    rw [e]
    have hz : Fl.isZ x = false := by
      rw [← Bool.not_eq_true]; intro h
      have := Fl.fin_not_nan (Fl.fin_of_isZ h)
      rw [hn] at this; cases this
    rw [hz]; rfl

theorem empty_size (s : ByteArray) : s.toList.isEmpty = true ↔ s.size = 0 := by
  rw [ByteArray.toList_eq, List.isEmpty_iff_length_eq_zero]; simp

theorem ret_bool {a b : Bool} (h : a = b) : Ending.returned (.bool a) = .returned (.bool b) := by rw [h]

theorem may0_any (w : World) : Calls Tryz.prog 71 #[.float .f64 0] w fun e w' => e = .returned (.bool true) ∧ w = w' := by
  have h := may_any 0 w
  rw [show Fl.may 0 = true by decide +kernel] at h
  exact h

set_option maxHeartbeats 4000000 in
set_option maxRecDepth 100000 in
theorem vmay_any (k : Int) (x : Nat) (s : ByteArray) (r : Int) (h0 : 0 ≤ k) (w : World) :
    Calls Tryz.prog 51 #[val k x s r] w fun e w' => e = .returned (.bool (mayV k x s r)) ∧ Below w.heap.size w w' := by
  by_cases h9 : 8 < k
  · have e : mayV k x s r = false := by
      unfold mayV
      rw [if_neg (by omega), if_neg (by omega), if_neg (by omega), if_neg (by omega), if_neg (by omega)]
    rw [e]
    clear e
    go_enter Tryz.func51, Tryz.ntmps51
    go_wp2
    go_ret
    exact ⟨rfl, (Below.refl _ _).alloc (Nat.le_refl _) _⟩
  by_cases hr : r < 0
  · have e : mayV k x s r = false := by
      have h1 : (r == 0) = false := by rw [beq_eq_false_iff_ne]; omega
      have h2 : decide (0 ≤ r) = false := decide_eq_false (by omega)
      unfold mayV
      rw [h1, h2]
      repeat' split
      all_goals simp
    rw [e]
    clear e
    go_enter Tryz.func51, Tryz.ntmps51
    go_wp2
    go_ret
    exact ⟨rfl, (Below.refl _ _).alloc (Nat.le_refl _) _⟩
  by_cases hs : 4096 < s.size
  · have e : mayV k x s r = false := by
      have h1 : s.toList.isEmpty = false := by rw [← Bool.not_eq_true, empty_size]; omega
      have h2 : decide (s.size ≤ 4096) = false := decide_eq_false (by omega)
      unfold mayV
      rw [h1, h2]
      repeat' split
      all_goals simp
    have hs' : (4096 : Int) < (s.size : Int) := by omega
    rw [e]
    clear e hs
    go_enter Tryz.func51, Tryz.ntmps51
    go_wp2
    go_ret
    exact ⟨rfl, (Below.refl _ _).alloc (Nat.le_refl _) _⟩
  have hs' : ¬ (4096 : Int) < (s.size : Int) := by omega
  have hN := isN_eq x
  obtain ⟨z, e0⟩ : ∃ z, (FloatKind.f64.format.order x 0 == some .eq) = z := ⟨_, rfl⟩
  obtain ⟨m, e1⟩ : ∃ m, Fl.may x = m := ⟨_, rfl⟩
  obtain ⟨o, e2⟩ : ∃ o, is1 x = o := ⟨_, rfl⟩
  obtain ⟨s0, e3⟩ : ∃ o, s.toList.isEmpty = o := ⟨_, rfl⟩
  obtain ⟨r0, e4⟩ : ∃ o, (r == 0) = o := ⟨_, rfl⟩
  have e5 : (FloatKind.f64.format.order x 4607182418800017408 != some .eq) = !o := by rw [← e2]; rfl
  have e6 : (FloatKind.f64.format.order x 0 != some .eq) = !z := by rw [← e0]; rfl
  have e7 : (FloatKind.f64.format.order 0 0 == some .eq) = true := by decide
  rw [e0, e1] at hN
  have hk : k = 0 ∨ k = 1 ∨ k = 2 ∨ k = 3 ∨ k = 4 ∨ k = 5 ∨ k = 6 ∨ k = 7 ∨ k = 8 := by omega
  have hd4 : decide (s.size ≤ 4096) = true := decide_eq_true (by omega)
  have hd0 : decide (0 ≤ r) = true := decide_eq_true (by omega)
  have hV : mayV k x s r = if k = 0 ∨ k = 1 then (z && m) && s0 && r0 else if k = 2 then ((z && m) || o) && s0 && r0 else if k = 3 then m && s0 && r0 else if k = 4 then (z && m) && true && r0 else if k = 5 ∨ k = 6 ∨ k = 7 ∨ k = 8 then (z && m) && s0 && true else false := by
    unfold mayV
    rw [← hN, e1, e2, e3, e4, hd4, hd0]
  rw [hV]
  clear hV hN hd4 hd0 e2
  rcases hk with rfl | rfl | rfl | rfl | rfl | rfl | rfl | rfl | rfl
  all_goals
    go_enter Tryz.func51, Tryz.ntmps51
    go_wp2_with (go_at_call 71; first | ((with_reducible refine (may0_any _).mono ?_); rintro e w' ⟨rfl, rfl⟩) | ((with_reducible refine (may_any x _).mono ?_); rintro e w' ⟨rfl, rfl⟩))
    all_goals
      go_ret
      exact ⟨ret_bool (by first | (simp [*]; done) | (have hm : m = false := by simpa using (by assumption : (!m) = true)
                                                      simp [*]; done) | (have hm : m = true := by simpa using (by assumption : (!m) = false)
                                                                         simp [*])), ((Below.refl _ _).alloc (Nat.le_refl _) _).alloc (by simp) _⟩

end Go.Proofs.YtbmaodlghglopaaGreatDoor
