/-
  The walk of math.Trunc: a word cut towards zero, as a word.
  The walks of num.May and of the reference's whole: what each answers, by which whole number a word is.
  The last step that all laws of this seat share: a call that answered true, and behind which all old memory is as it was, is what the statement asks.
  What a word of an answer stands for.
  Values, as the walks have them; making them; which are objects, which can be called; which may be.
-/
import Derived.Test.YtnidamkgfgddfaaGreatMxB
import Derived.Test.YtnidamkgfgddfaaGreatWhole
import Derived.Test.YtnidamkgfgddfaaGreatRows
import Derived.WalkKit
import Derived.WalkLawsBesides
import Derived.ProofKit
import Derived.OpenShut
namespace Go.Proofs.YtnidamkgfgddfaaGreat
open Go.RowKit

/-- A word cut towards zero, as a word. -/
def truncW (a : Nat) : Nat := if Fl.fin a then Ieee.double.nearest (Fl.sg a) (Fl.mg (Fl.rg a) / Fl.K) 0 else Ieee.double.word (Fl.sg a) Fl.top

theorem integral_num {x : Nat} {s : Bool} {m : Nat} {p : Int} (h : FloatKind.f64.decode x = .number s m p) (P : Program) (w : World) :
    (Extern.MathFloor.toIntegral "math.archTrunc" .zero #[.float .f64 x]).run P w = .ok (.float .f64 (FloatKind.f64.encode ((Ieee.Datum.number s m p).integral .zero))) w := by
  conv in (Extern.MathFloor.toIntegral _ _ _) => whnf
  rw [h]; rfl

theorem integral_inf {x : Nat} {s : Bool} (h : FloatKind.f64.decode x = .infinity s) (P : Program) (w : World) :
    (Extern.MathFloor.toIntegral "math.archTrunc" .zero #[.float .f64 x]).run P w = .ok (.float .f64 (FloatKind.f64.encode ((Ieee.Datum.infinity s).integral .zero))) w := by
  conv in (Extern.MathFloor.toIntegral _ _ _) => whnf
  rw [h]; rfl

theorem run_archTrunc (a : Nat) (h : Fl.isNaN a = false) (w : World) : (callFunc 92 #[.float .f64 a]).run Tryz.prog w = .ok (.value (.float .f64 (truncW a))) w := by
  rw [run_callFunc_extern (P := Tryz.prog) (f := 92) (fn := Tryz.f92) (e := Extern.MathFloor.toIntegral "math.archTrunc" .zero) (by kernel_rfl) (by kernel_rfl) (by kernel_rfl) (by kernel_rfl) (by kernel_rfl)]
  unfold truncW
  rcases Fl.kinds a with hf | hi | hn
  · have h1 : FloatKind.f64.decode a = .number (Fl.sg a) (Fl.dg (Fl.rg a)) (-1074 + (Fl.pl (Fl.rg a) : Nat)) := Fl.read_fin hf
    have h2 := Fl.integral_fin hf
    rw [h1] at h2
    rw [integral_num h1, h2, if_pos hf]
    rfl
  · have h1 : FloatKind.f64.decode a = .infinity (Fl.sg a) := Fl.read_inf hi
    have hf : ¬ (Fl.fin a = true) := by simp [Fl.fin, hi]
    have e : FloatKind.f64.encode ((Ieee.Datum.infinity (Fl.sg a)).integral .zero) = Ieee.double.word (Fl.sg a) Fl.top := by
      show Ieee.double.word (Fl.sg a) Ieee.double.infRung = _
      rw [Fl.infRung_double]
    rw [integral_inf h1, e, if_neg hf]; rfl
  · rw [hn] at h; cases h

theorem trunc_any (a : Nat) (h : Fl.isNaN a = false) (w : World) :
    Calls Tryz.prog 84 #[.float .f64 a] w fun e w' => e = .returned (.float .f64 (truncW a)) ∧ w = w' := by
  have h1 := run_archTrunc a h
  clear h
  go_enter Tryz.func84, Tryz.ntmps84
  go_wp2
  go_ret
  exact ⟨rfl, rfl⟩

end Go.Proofs.YtnidamkgfgddfaaGreat

namespace Go.Proofs.YtnidamkgfgddfaaGreat
open Go.RowKit

/-! ### the library's functions -/

theorem run_bits (a : Nat) (w : World) : (callFunc 95 #[.float .f64 a]).run Tryz.prog w = .ok (.value (.int .u64 a)) w := by kernel_rfl

theorem run_frombits (a : Int) (w : World) : (callFunc 94 #[.int .u64 a]).run Tryz.prog w = .ok (.value (.float .f64 a.toNat)) w := by kernel_rfl

theorem andNot_sign (a : Nat) : (bits BinOp.andNot IntKind.u64 (a : Int) 9223372036854775808).toNat = Fl.rg a := by
  have e1 : bits .andNot .u64 (a : Int) 9223372036854775808 = ((a % 2 ^ 64 &&& (2 ^ 63 - 1) : Nat) : Int) := by
    have hx : a % 2 ^ 64 &&& (2 ^ 63 - 1) < 2 ^ 64 := Nat.and_lt_two_pow _ (by omega)
    show IntKind.u64.wrap ((BitVec.ofInt 64 (a : Int) &&& ~~~BitVec.ofInt 64 (9223372036854775808 : Int)).toNat : Int) = _
    rw [BitVec.toNat_and, BitVec.ofInt_natCast, BitVec.toNat_ofNat, show (~~~BitVec.ofInt 64 (9223372036854775808 : Int)).toNat = 2 ^ 63 - 1 by decide, IntKind.wrap_u64]
    omega
  rw [e1, Int.toNat_natCast, Nat.and_two_pow_sub_one_eq_mod]
  unfold Fl.rg
  omega

theorem abs_any (a : Nat) (w : World) :
    Calls Tryz.prog 85 #[.float .f64 a] w fun e w' => e = .returned (.float .f64 (Fl.rg a)) ∧ w = w' := by
  have h1 := run_bits
  have h2 := run_frombits
  go_enter Tryz.func85, Tryz.ntmps85
  go_wp2
  go_ret
  exact ⟨congrArg (fun n => Ending.returned (.float .f64 n)) (andNot_sign a), rfl⟩

theorem wrap_sign (a : Nat) : decide (wrap64 (a : Int) < 0) = Fl.sg a := by
  unfold Fl.sg wrap64
  rw [Bool.eq_iff_iff, decide_eq_true_eq, beq_iff_eq]
  omega

theorem signbit_any (a : Nat) (w : World) :
    Calls Tryz.prog 86 #[.float .f64 a] w fun e w' => e = .returned (.bool (Fl.sg a)) ∧ w = w' := by
  have h1 := run_bits
  go_enter Tryz.func86, Tryz.ntmps86
  go_wp2
  go_ret
  exact ⟨congrArg (fun n => Ending.returned (.bool n)) (wrap_sign a), rfl⟩

/-! ### num.May -/

theorem rg_rg (a : Nat) : Fl.rg (Fl.rg a) = Fl.rg a := by unfold Fl.rg; omega
theorem sg_rg (a : Nat) : Fl.sg (Fl.rg a) = false := by unfold Fl.sg Fl.rg; rw [beq_eq_false_iff_ne]; omega
theorem fin_rg (a : Nat) : Fl.fin (Fl.rg a) = Fl.fin a := by unfold Fl.fin; rw [rg_rg]
theorem sc_rg (a : Nat) : Fl.sc (Fl.rg a) = Fl.mg (Fl.rg a) := by unfold Fl.sc; rw [sg_rg, rg_rg]; rfl

theorem eq_trunc {a : Nat} (hf : Fl.fin a = true) : (FloatKind.f64.format.order (truncW a) a == some .eq) = decide (Fl.tr a * (Fl.K : Int) = Fl.sc a) := by
  unfold truncW
  rw [if_pos hf]
  obtain ⟨h1, h2, h3⟩ := Fl.trunc_fin hf
  rw [Fl.eq_fin h1 hf, h3]

theorem leq_safe {a : Nat} (hf : Fl.fin a = true) :
    (FloatKind.f64.format.order (Fl.rg a) 4845873199050653695 == some .lt || FloatKind.f64.format.order (Fl.rg a) 4845873199050653695 == some .eq) = decide ((Fl.mg (Fl.rg a) : Int) ≤ Fl.safe * (Fl.K : Int)) := by
  have hr : Fl.fin (Fl.rg a) = true := by rw [fin_rg]; exact hf
  rw [Fl.lt_fin hr Fl.is_safe.1, Fl.eq_fin hr Fl.is_safe.1, Fl.is_safe.2.1, sc_rg, Bool.eq_iff_iff]
  simp only [Bool.or_eq_true, decide_eq_true_eq]
  omega

theorem may_fin (a : Nat) (t u z : Bool) (hn : Fl.isNaN a = false) (e1 : (FloatKind.f64.format.order (truncW a) a == some .eq) = t)
    (e2 : (FloatKind.f64.format.order (Fl.rg a) 4845873199050653695 == some .lt || FloatKind.f64.format.order (Fl.rg a) 4845873199050653695 == some .eq) = u)
    (e3 : (FloatKind.f64.format.order a 0 == some .eq) = z) (w : World) :
    Calls Tryz.prog 75 #[.float .f64 a] w fun e w' => e = .returned (.bool (t && u && (!z || !Fl.sg a))) ∧ w = w' := by
  have ha := ordE hn
  have e4 : (FloatKind.f64.format.order a 0 != some .eq) = !z := by rw [bne, e3]
  clear e3
  have Hn := hid hn
  clear hn
  cases t <;> cases u <;> cases z
  all_goals
    simp only [Bool.not_true, Bool.not_false, Bool.true_and, Bool.false_and, Bool.and_false, Bool.true_or, Bool.false_or] at e4 ⊢
    go_enter Tryz.func75, Tryz.ntmps75
    go_wp2_with (first | (go_at_call 84; refine (trunc_any a Hn.out _).mono ?_; rintro e w' ⟨rfl, rfl⟩) | (go_at_call 85; refine (abs_any a _).mono ?_; rintro e w' ⟨rfl, rfl⟩) | (go_at_call 86; refine (signbit_any a _).mono ?_; rintro e w' ⟨rfl, rfl⟩))
    go_ret
    exact ⟨rfl, rfl⟩

theorem may_any (a : Nat) (w : World) :
    Calls Tryz.prog 75 #[.float .f64 a] w fun e w' => e = .returned (.bool (Fl.may a)) ∧ w = w' := by
  rcases Fl.kinds a with hf | hi | hn
  · have hn := Fl.fin_not_nan hf
    have h := may_fin a _ _ _ hn (eq_trunc hf) (leq_safe hf) (Fl.order_0 a hn) w
    rw [← Fl.isW_fin_eq hf] at h
    have hm : Fl.may a = Fl.isW a := by simp [Fl.may, hn]
    rw [hm]; exact h
  · have hn : Fl.isNaN a = false := by simp [Fl.isNaN, hi]
    have hf : Fl.fin a = false := by simp [Fl.fin, hi]
    have e2 : (FloatKind.f64.format.order (Fl.rg a) 4845873199050653695 == some .lt || FloatKind.f64.format.order (Fl.rg a) 4845873199050653695 == some .eq) = false := by
      rw [Fl.order_inf_fin (by rw [rg_rg]; exact hi) Fl.is_safe.1, sg_rg]; rfl
    have h := may_fin a _ _ _ hn rfl e2 (Fl.order_0 a hn) w
    have hm : Fl.may a = false := by simp [Fl.may, hn, Fl.not_isW_inf hf]
    rw [hm]
    simpa using h
  · have ha := ordN hn
    have hm : Fl.may a = true := by simp [Fl.may, hn]
    rw [hm]
    clear hn hm
    go_enter Tryz.func75, Tryz.ntmps75
    go_wp2_with fail
    go_ret
    exact ⟨rfl, rfl⟩

/-! ### the reference's whole -/

theorem nan_fin {a : Nat} (hn : Fl.isNaN a = true) : Fl.fin a = false := by
  rw [← Bool.not_eq_true]; intro h; rw [Fl.fin_not_nan h] at hn; cases hn

theorem lt_inf (a : Nat) : (FloatKind.f64.format.order (Ieee.double.word (Fl.sg a) Fl.top) 0 == some .lt) = Fl.sg a := by
  rw [Fl.order_inf_fin (by cases Fl.sg a <;> decide) Fl.fin_0]
  have : Fl.sg (Ieee.double.word (Fl.sg a) Fl.top) = Fl.sg a := by cases Fl.sg a <;> decide
  rw [this]; cases Fl.sg a <;> rfl

end Go.Proofs.YtnidamkgfgddfaaGreat

namespace Go.Proofs.YtnidamkgfgddfaaGreat
open Go.ChangeShapes Go.WideShapes Go.ChangeAt Go.RowKit

section
variable {H : Type} {enc : TypeId × Value → H} {P : Program}

/-- Each argument reads as it did, below a world that has only grown. -/
theorem trodAll_below (hl : laidOutB P = true) {W W' : World} (hb : Below W.heap.size W W') :
    ∀ {ts : List TypeId} {vs : List Value} {ds : List (DataW H)} {ps : List MemPlace}, (∀ t, t ∈ ts → P.readableRec t = true ∧ t < P.types.size) → (∀ x, x ∈ ps → x.block < W.heap.size) →
      DataW.TrodAll enc P W 0 (fun _ => true) true ts vs ds ps → DataW.TrodAll enc P W' 0 (fun b => decide (b < W.heap.size)) true ts vs ds ps
  | [], [], [], _, _, _, h => h
  | [], [], _ :: _, _, _, _, h => h.elim
  | [], _ :: _, _, _, _, _, h => h.elim
  | _ :: _, [], _, _, _, _, h => h.elim
  | _ :: _, _ :: _, [], _, _, _, h => h.elim
  | t :: ts, v :: vs, d :: ds, ps, hr, hlt, h => by
    obtain ⟨p, q, h1, h2, rfl⟩ := h
    exact ⟨p, q, Below.trod hl (hr t (by simp)).1 (hr t (by simp)).2 h1 hb (fun x hx => hlt x (by simp [hx])), trodAll_below hl hb (fun u hu => hr u (by simp [hu])) (fun x hx => hlt x (by simp [hx])) h2, rfl⟩

/-- What was readable with the marks below the old size alone is readable with all marks. -/
theorem trodAll_all (hl : laidOutB P = true) {W W' : World} (hb : Below W.heap.size W W') :
    ∀ {ts : List TypeId} {vs : List Value} {ds : List (DataW H)} {ps : List MemPlace}, (∀ t, t ∈ ts → P.readableRec t = true ∧ t < P.types.size) → (∀ x, x ∈ ps → x.block < W.heap.size) →
      DataW.TrodAll enc P W 0 (fun _ => true) true ts vs ds ps → DataW.TrodAll enc P W' 0 (fun _ => true) true ts vs ds ps
  | [], [], [], _, _, _, h => h
  | [], [], _ :: _, _, _, _, h => h.elim
  | [], _ :: _, _, _, _, _, h => h.elim
  | _ :: _, [], _, _, _, _, h => h.elim
  | _ :: _, _ :: _, [], _, _, _, h => h.elim
  | t :: ts, v :: vs, d :: ds, ps, hr, hlt, h => by
    obtain ⟨p, q, h1, h2, rfl⟩ := h
    exact ⟨p, q, WideElems.Trod_stays hl (hr t (by simp)).1 (hr t (by simp)).2 h1 (fun x hx => hb.same (hlt x (by simp [hx]))) (fun _ _ => rfl), trodAll_all hl hb (fun u hu => hr u (by simp [hu])) (fun x hx => hlt x (by simp [hx])) h2, rfl⟩

theorem law_post {f : Func} {s : ChangeSpec} {apart fresh handsOn again : Bool} {W W' : World} {args : Array Value} {ds gs : List (DataW H)} {before : List MemPlace} {tb : TypeId}
    (hl : laidOutB P = true) (hread : ∀ t, t ∈ f.params.toList → P.readableRec t = true ∧ t < P.types.size)
    (hv : s.vars = []) (hr : f.resultTypes = #[tb]) (htb : P.underlying tb = some .bool)
    (hW : DataW.Whole enc P f.params.toList s.vars apart W args.toList ds gs before)
    (hres : (s.fn H (ds ++ gs)).results = [.lit (.bool true)]) (hargs : (s.fn H (ds ++ gs)).args = ds) (hvars : (s.fn H (ds ++ gs)).vars = [])
    (hb : Below W.heap.size W W') :
    s.post enc P f apart fresh handsOn again W args (.bool true) W' := by
  have hlt : ∀ p ∈ before, p.block < W.heap.size := fun p hp => hW.lt p hp
  have hW0 := hW
  obtain ⟨p, q, hA, hV, rfl, hfz, hnd⟩ := hW
  rw [hv] at hV
  obtain ⟨rfl, rfl⟩ := trodVars_none hV
  simp only [List.append_nil] at *
  have hres1 : ∀ (b : Nat) (sp : Nat → Bool) (hd : Bool), DataW.TrodAll enc P W' b sp hd f.resultTypes.toList ((Value.bool true).resultList f.resultTypes.size) [.lit (.bool true)] [] := by
    intro b sp hd
    rw [hr]
    exact trodAll_mk1 (shut_bool htb true)
  refine ⟨ds, [], p, [], p, [], hW0, ?_, ?_, ?_, World.keptBut_mono (fun x hx => ⟨hx, Or.inr (Or.inl hx)⟩) (hb.frame (· ∈ p)), fun _ => ?_⟩
  · rw [List.append_nil, hres]; exact hres1 _ _ _
  · rw [List.append_nil, hargs]; exact trodAll_below hl hb hread hlt hA
  · rw [List.append_nil, hvars, hv]; rfl
  · refine ⟨?_, .lit (.bool true) :: ds, [], [] ++ p, ⟨[] ++ p, [], trodAll_append (trodAll_all hl hb hread hlt hA) (hres1 _ _ _), ?_, by simp, ?_, ?_⟩, ?_⟩
    · exact ok_one hr rfl (okWide_bool_mk htb true)
    · rw [hv]; rfl
    · intro b off hp
      have hp' : MemPlace.cell b off ∈ p := by simpa using hp
      rw [hb.frozen (p := ⟨b, off, none⟩) (hlt _ hp')]
      exact hfz b off hp'
    · intro ha; simpa using hnd ha
    · intro x hx _; simpa using hx
end

/-- Two steps that only make memory. -/
theorem grow {w w1 w2 : World} (h : Below w.heap.size w w1) (k : Below w1.heap.size w1 w2) : Below w.heap.size w w2 := h.trans (k.mono h.size)

end Go.Proofs.YtnidamkgfgddfaaGreat

namespace Go.Proofs.YtnidamkgfgddfaaGreat
open Go.RowKit

/-- What a word of an answer stands for: no number, or a whole number. -/
def Stands (v : Nat) : Option Int → Prop
  | none => Fl.isNaN v = true
  | some n => Fl.Is v n

theorem stands_same {v u : Nat} {c : Option Int} (h : Stands v c) (k : Stands u c) : Fl.same v u = true := by
  cases c with
  | none => exact Fl.same_of_nan h k
  | some n => exact Fl.same_of_is h k

def finN (n : Int) : Int × Option Int := if n.natAbs ≤ 9007199254740991 then (0, some n) else (10, some 0)
def Tells (r : Int × Option Int) (w : World) (e : Ending) (w' : World) : Prop :=
  (∃ v, e = .returned (.tuple #[.float .f64 v, .int .i64 r.1]) ∧ Stands v r.2) ∧ Below w.heap.size w w'

theorem may_cases {x : Nat} (h : Fl.may x = true) : Fl.isNaN x = true ∨ (Fl.isNaN x = false ∧ Fl.Is x (Fl.toW x) ∧ (Fl.toW x).natAbs ≤ 9007199254740991) := by
  cases hn : Fl.isNaN x
  · right
    have hw : Fl.isW x = true := by unfold Fl.may at h; rw [hn] at h; simpa using h
    obtain ⟨h1, h2, h3⟩ := (Fl.isW_iff x).1 hw
    unfold Fl.safe at h2 h3
    exact ⟨rfl, h1, by omega⟩
  · exact Or.inl rfl

end Go.Proofs.YtnidamkgfgddfaaGreat

namespace Go.Proofs.YtnidamkgfgddfaaGreat
open Go.RowKit

@[go_sem] theorem run_equalIn_float {P : Program} (w : World) (d : Nat) (t : TypeId) (k k' : FloatKind) (a b : Nat) (h : P.underlying t = some (.float k')) : (Op.equalIn (d + 1) t (.float k a) (.float k b)).run P w = .ok (k.format.order a b == some .eq) w := by
  simp [Op.equalIn, run_underlying h, Op.floatEq]

/-- A value as the walk has it. -/
abbrev val (k : Int) (x : Nat) (s : ByteArray) (r : Int) : Value := .agg #[.int .u8 k, .float .f64 x, .string s, .int .i64 r]

/-- Is a kind an object's? Can it be called? -/
def isObj (k : Int) : Bool := decide (6 ≤ k) && decide (k ≤ 8)
def isCal (k : Int) : Bool := (k == 7) || (k == 8)

theorem isObj_any (k : Int) (x : Nat) (s : ByteArray) (r : Int) (w : World) :
    Calls Tryz.prog 46 #[val k x s r] w fun e w' => e = .returned (.bool (isObj k)) ∧ (w.alloc (.cells #[.int .u8 k, .float .f64 x, .string s, .int .i64 r] 43)) = w' := by
  by_cases h1 : 6 ≤ k
  · by_cases h2 : k ≤ 8
    · have e : isObj k = true := by simp [isObj, h1, h2]
      rw [e]
      clear e
      go_enter Tryz.func46, Tryz.ntmps46
      go_wp2
      go_ret
      exact ⟨rfl, rfl⟩
    · have e : isObj k = false := by simp [isObj, h2]
      rw [e]
      clear e
      go_enter Tryz.func46, Tryz.ntmps46
      go_wp2
      go_ret
      exact ⟨rfl, rfl⟩
  · have e : isObj k = false := by simp [isObj, h1]
    rw [e]
    clear e
    go_enter Tryz.func46, Tryz.ntmps46
    go_wp2
    go_ret
    exact ⟨rfl, rfl⟩

end Go.Proofs.YtnidamkgfgddfaaGreat
