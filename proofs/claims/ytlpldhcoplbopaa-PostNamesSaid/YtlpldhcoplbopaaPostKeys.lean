/-
  Keys, lists of keys, prototypes: the walks of key.Check, post.keys, post.holds, post.proto.
-/
import Derived.Test.YtlpldhcoplbopaaDescWalk
import Derived.BigGuardPart
namespace Go.Proofs.Ytlpldhcoplbopaa
open Go.RowKit

/-- A key. -/
structure KI where
  s : ByteArray
  n : Int
abbrev KI.cells (k : KI) : List Value := [.string k.s, .int .i64 k.n]
abbrev KI.a (k : KI) : Value := .agg #[.string k.s, .int .i64 k.n]
def KI.ok (k : KI) : Bool := !(decide (k.n < 0) || decide (4096 < k.s.size) || (decide (0 < k.n) && !k.s.toList.isEmpty))
def KI.eq (a b : KI) : Bool := (a.s.toList == b.s.toList) && (a.n == b.n)
def KI.err (k : KI) : Int := if k.ok then 0 else 9
/-- A slice of keys that can be read. -/
def RdK (l : List KI) (v : Value) (w : World) : Prop := ∃ pa c, v = .slice pa l.length c ∧ l.length ≤ c ∧ c ≤ maxLen ∧ (0 < l.length → ∃ g o, pa = some ⟨g, o, none⟩ ∧ g < w.heap.size ∧ ∀ i (h : i < l.length), w.rangeAt g (o + i * 2) l[i].cells)
theorem rangeOn {w w1 : World} (hb : Below w.heap.size w w1) {g o : Nat} {cs : List Value} (hg : g < w.heap.size) (h : w.rangeAt g o cs) : w1.rangeAt g o cs := by
  intro j v hj
  rw [hb.cell (p := ⟨g, o + j, none⟩) hg]
  exact h j v hj
theorem RdK.on {l : List KI} {v : Value} {w w1 : World} (h : RdK l v w) (hb : Below w.heap.size w w1) : RdK l v w1 := by
  obtain ⟨pa, c, h1, h2, h3, h4⟩ := h
  refine ⟨pa, c, h1, h2, h3, fun h0 => ?_⟩
  obtain ⟨g, o, e, hg, hx⟩ := h4 h0
  exact ⟨g, o, e, Nat.lt_of_lt_of_le hg hb.size, fun i hi => rangeOn hb hg (hx i hi)⟩
theorem KI.two {k : KI} {w : World} {g o : Nat} (h : w.rangeAt g o k.cells) : w.cell? ⟨g, o, none⟩ = some (.string k.s) ∧ w.cell? ⟨g, o + 1, none⟩ = some (.int .i64 k.n) := ⟨h 0 _ rfl, h 1 _ rfl⟩
/-- What is wrong with a list of keys. -/
def keysE (l : List KI) : Int := if 1024 < l.length then 4 else if l.all KI.ok then 0 else 9

/-! ### keys compared -/

theorem fields_key : ((Try.prog.fieldsOf 27).toList.map (fun f => (f.name, f.type, f.offset)) == [("Str", 9, 0), ("Sym", 3, 1)]) = true := by kernel_rfl
theorem under_key : Try.prog.underlying 27 = some (.struct (Try.prog.fieldsOf 27)) := by kernel_rfl
theorem stood_key : Try.prog.stoodInHeld 27 = false := by kernel_rfl
theorem equal_key (d : Nat) (a b : KI) (w : World) : (Op.equalIn (d + 2) 27 (.agg #[.string a.s, .int .i64 a.n]) (.agg #[.string b.s, .int .i64 b.n])).run Try.prog w = .ok (KI.eq a b) w := by
  unfold KI.eq
  rw [run_equalIn_struct _ _ _ _ _ under_key stood_key]
  have hf := eq_of_beq fields_key
  generalize (Try.prog.fieldsOf 27).toList = fs at *
  rcases fs with _ | ⟨f0, _ | ⟨f1, _ | ⟨f2, fs⟩⟩⟩
  case cons.cons.nil =>
    simp only [List.map_cons, List.map_nil, List.cons.injEq, Prod.mk.injEq, and_true] at hf
    obtain ⟨⟨a0, b0, c0⟩, ⟨a1, b1, c1⟩⟩ := hf
    rw [eqF_plain (a := .string a.s) (b := .string b.s) (by rw [a0]; decide) (by rw [b0]; kernel_rfl) (by rw [c0]; rfl) (by rw [c0]; rfl) (by intro w; rw [b0]; exact run_equalIn_string w d _ _ _ (by kernel_rfl)),
      eqF_plain (a := .int .i64 a.n) (b := .int .i64 b.n) (by rw [a1]; decide) (by rw [b1]; kernel_rfl) (by rw [c1]; rfl) (by rw [c1]; rfl) (by intro w; rw [b1]; exact run_equalIn_int w d _ .i64 .i64 _ _ (by kernel_rfl)), eqF_nil]
    cases a.s.toList == b.s.toList <;> cases a.n == b.n <;> rfl
  all_goals (exfalso; simp at hf)

set_option maxHeartbeats 4000000 in
set_option maxRecDepth 100000 in
theorem keyCheck_any (k : KI) (w : World) : Calls Try.prog 45 #[k.a] w fun e w' => e = .returned (.int .i64 k.err) ∧ Below w.heap.size w w' := by
  obtain ⟨s, n⟩ := k
  unfold KI.err KI.ok
  simp only
  by_cases h1 : n < 0
  · rw [decide_eq_true h1]
    go_enter Try.func45, Try.ntmps45
    go_wp2_with fail
    go_ret
    exact ⟨rfl, box_one _ _⟩
  · rw [decide_eq_false h1]
    by_cases h2 : 4096 < s.size
    · have h2i : (4096 : Int) < (s.size : Int) := by omega
      rw [decide_eq_true h2]
      go_enter Try.func45, Try.ntmps45
      go_wp2_with fail
      go_ret
      exact ⟨rfl, box_one _ _⟩
    · have h2i : ¬ (4096 : Int) < (s.size : Int) := by omega
      rw [decide_eq_false h2]
      by_cases h3 : 0 < n
      · rw [decide_eq_true h3]
        cases h4 : s.toList.isEmpty
        all_goals
          go_enter Try.func45, Try.ntmps45
          go_wp2_with fail
          go_ret
          exact ⟨rfl, box_one _ _⟩
      · rw [decide_eq_false h3]
        go_enter Try.func45, Try.ntmps45
        go_wp2_with fail
        go_ret
        exact ⟨rfl, box_one _ _⟩
  
theorem keysE_not {l : List KI} (h : ¬ 1024 < l.length) {k : Nat} (hk : k < l.length) (ho : l[k].ok = false) : keysE l = 9 := by
  unfold keysE
  rw [if_neg h, if_neg]
  intro ha
  have := List.all_eq_true.1 ha l[k] (List.getElem_mem hk)
  rw [ho] at this; cases this

set_option maxHeartbeats 4000000 in
set_option maxRecDepth 100000 in
theorem keys_any (l : List KI) (v : Value) (w : World) (hr : RdK l v w) : Calls Try.prog 32 #[v] w fun e w' => e = .returned (.int .i64 (keysE l)) ∧ Below w.heap.size w w' := by
  obtain ⟨pa, c, rfl, h1, h2, h3⟩ := hr
  unfold maxLen at h2
  have hlm : l.length ≤ 9223372036854775807 := by omega
  by_cases hbig : 1024 < l.length
  · have hbi : (1024 : Int) < (l.length : Int) := by omega
    have he : keysE l = 4 := by unfold keysE; rw [if_pos hbig]
    rw [he]
    clear he h3
    go_enter Try.func32, Try.ntmps32
    go_wp2_with fail
    go_ret
    exact ⟨rfl, Below.refl _ _⟩
  · have hbi : ¬ (1024 : Int) < (l.length : Int) := by omega
    have HN := hidB (fun k (hk : k < l.length) ho => keysE_not hbig hk ho)
    have HA : Hid (l.all KI.ok = true → keysE l = 0) := hidB (fun ha => by unfold keysE; rw [if_neg hbig, if_pos ha])
    have HC := hidB h3
    clear h3 hbig
    go_enter Try.func32, Try.ntmps32
    go_wp2_with fail
    go_loopw [11] (fun i wr => ∃ k : Nat, k ≤ l.length ∧ i = .int .i64 k ∧ (l.take k).all KI.ok = true ∧ Below w.heap.size w wr) (fun i _ => l.length - (intOf i).toNat)
    case atStart => exact ⟨0, by omega, rfl, rfl, Below.refl _ _⟩
    case round =>
      obtain ⟨k, hk, rfl, ha, hb⟩ := hrel
      have Ha := hidB ha
      have Hb := hidB hb
      clear ha hb
      by_cases hlt : k < l.length
      · have hx1 : (k : Int) < (l.length : Int) := by omega
        have hx2 : (0 : Int) ≤ (k : Int) := by omega
        obtain ⟨g, o, rfl, hg, hcell⟩ := HC.out (by omega)
        obtain ⟨x0, x1⟩ := KI.two (rangeOn Hb.out hg (hcell k hlt))
        have KC := hidB (fun W => keyCheck_any l[k] W)
        have HQ := hidB (HN.out k hlt)
        have HS : Hid (l[k].ok = true → (l.take (k + 1)).all KI.ok = true) := hidB (fun h => by rw [List.take_succ_eq_append_getElem hlt, List.all_append, Ha.out, List.all_cons, h]; rfl)
        unfold KI.err at KC
        clear HN HC hcell hg
        generalize l[k]'hlt = kk at *
        obtain ⟨s, n⟩ := kk
        simp only at x0 x1
        cases hok : KI.ok ⟨s, n⟩
        · rw [hok] at KC
          have HQ2 := hidB (HQ.out hok)
          go_wp2_with fail
          refine (KC.out _).mono ?_; rintro e w2 ⟨rfl, hb⟩
          have B2 := hidB (Hb.out.trans (((box_one _ _).trans (hb.mono (by simp))).mono Hb.out.size))
          clear hb
          go_wp2_with fail
          go_ret
          exact ⟨by rw [HQ2.out]; rfl, B2.out⟩
        · rw [hok] at KC
          have HS2 := hidB (HS.out hok)
          go_wp2_with fail
          refine (KC.out _).mono ?_; rintro e w2 ⟨rfl, hb⟩
          have B2 := hidB (Hb.out.trans (((box_one _ _).trans (hb.mono (by simp))).mono Hb.out.size))
          clear hb
          go_wp2_with fail
          go_roundw
          case rel => exact ⟨k + 1, by omega, by go_num, HS2.out, B2.out⟩
          case measure => simp [intOf]; omega
      · obtain rfl : k = l.length := by omega
        have hx4 : ¬ ((l.length : Int) < (l.length : Int)) := by omega
        have HE := hidB (HA.out (by have := Ha.out; rwa [List.take_length] at this))
        go_wp2_with fail
        go_ret
        exact ⟨by rw [HE.out]; rfl, Hb.out⟩
      
set_option maxHeartbeats 4000000 in
set_option maxRecDepth 100000 in
theorem holds_any (l : List KI) (v : Value) (x : KI) (w : World) (hr : RdK l v w) : Calls Try.prog 34 #[v, x.a] w fun e w' => e = .returned (.bool (l.any (KI.eq x))) ∧ Below w.heap.size w w' := by
  obtain ⟨pa, c, rfl, h1, h2, h3⟩ := hr
  unfold maxLen at h2
  have hlm : l.length ≤ 9223372036854775807 := by omega
  have HC := hidB h3
  have EQ := hidB (fun (y : KI) (W : World) => equal_key 9998 x y W)
  obtain ⟨q, hq⟩ : ∃ q, q = l.any (KI.eq x) := ⟨_, rfl⟩
  rw [← hq]
  have HQ := hidB hq
  obtain ⟨xs, xn⟩ := x
  clear h3 hq
  have z1 : Try.prog.eqGuardType Try.prog.depth 27 = false := by kernel_rfl
  go_enter Try.func34, Try.ntmps34
  go_wp2_with fail
  go_loopw [9] (fun i wr => ∃ k : Nat, k ≤ l.length ∧ i = .int .i64 k ∧ (l.take k).any (KI.eq ⟨xs, xn⟩) = false ∧ Bk wr w.heap.size 27 #[.string xs, .int .i64 xn] ∧ Below w.heap.size w wr) (fun i _ => l.length - (intOf i).toNat)
  case atStart => exact ⟨0, by omega, rfl, rfl, Bk.new _ _ _, box_one _ _⟩
  case round =>
    obtain ⟨k, hk, rfl, ha, hu, hb⟩ := hrel
    have Ha := hidB ha
    have Hb := hidB hb
    have y0 : wr.cell? ⟨w.heap.size, 0, none⟩ = some (.string xs) := hu.cell 0
    have y1 : wr.cell? ⟨w.heap.size, 1, none⟩ = some (.int .i64 xn) := hu.cell 1
    have U := hidB hu
    have hus := hu.lt
    clear ha hb hu
    by_cases hlt : k < l.length
    · have hx1 : (k : Int) < (l.length : Int) := by omega
      have hx2 : (0 : Int) ≤ (k : Int) := by omega
      obtain ⟨g, o, rfl, hg, hcell⟩ := HC.out (by omega)
      obtain ⟨x0, x1⟩ := KI.two (rangeOn Hb.out hg (hcell k hlt))
      have HS : Hid ((KI.eq ⟨xs, xn⟩ l[k]) = false → (l.take (k + 1)).any (KI.eq ⟨xs, xn⟩) = false) := hidB (fun h => by rw [List.take_succ_eq_append_getElem hlt, List.any_append, Ha.out, List.any_cons, h]; rfl)
      have HT : Hid ((KI.eq ⟨xs, xn⟩ l[k]) = true → q = true) := hidB (fun h => by rw [HQ.out, List.any_eq_true]; exact ⟨_, List.getElem_mem hlt, h⟩)
      have E0 := EQ.out l[k]
      clear HC hcell hg
      generalize l[k]'hlt = kk at *
      obtain ⟨s, n⟩ := kk
      simp only at x0 x1 E0
      cases heq : KI.eq ⟨xs, xn⟩ ⟨s, n⟩
      · rw [heq] at E0
        have HS2 := hidB (HS.out heq)
        clear heq
        go_wp2_with fail
        go_roundw
        case rel => exact ⟨k + 1, by omega, by go_num, HS2.out, U.out.alloc _, Hb.out.alloc Hb.out.size _⟩
        case measure => simp [intOf]; omega
      · rw [heq] at E0
        have HT2 := hidB (HT.out heq)
        clear heq
        go_wp2_with fail
        go_ret
        exact ⟨by rw [HT2.out]; rfl, Hb.out.alloc Hb.out.size _⟩
    · obtain rfl : k = l.length := by omega
      have hx4 : ¬ ((l.length : Int) < (l.length : Int)) := by omega
      have HE : Hid (q = false) := hidB (by rw [HQ.out]; have := Ha.out; rwa [List.take_length] at this)
      go_wp2_with fail
      go_ret
      exact ⟨by rw [HE.out]; rfl, Hb.out⟩
    
/-- May a value be a prototype? -/
def VI.proto (v : VI) : Bool := v.may && (isObj v.k || (v.k == 1))
set_option maxHeartbeats 4000000 in
set_option maxRecDepth 100000 in
theorem proto_any (v : VI) (h0 : 0 ≤ v.k) (w : World) : Calls Try.prog 29 #[v.a] w fun e w' => e = .returned (.bool v.proto) ∧ Below w.heap.size w w' := by
  have MA := hidB (fun W => vmay_any v.k v.x v.s v.r h0 W)
  have CA := hidB (fun W => isObj_any v.k v.x v.s v.r W)
  obtain ⟨k, x, s, r⟩ := v
  simp only at MA CA
  unfold VI.proto VI.may
  simp only
  generalize mayV k x s r = m at *
  generalize isObj k = cc at *
  cases hk : (k == 1)
  all_goals
    cases m <;> cases cc
  all_goals
    go_enter Try.func29, Try.ntmps29
    go_wp2_with fail
    refine (MA.out _).mono ?_; rintro e w1 ⟨rfl, hb⟩
    have B1 := hidB ((box_one w _).trans (hb.mono (by simp)))
    obtain ⟨x0, x1, x2, x3, _⟩ := Bk.four ((Bk.new w 30 #[.int .u8 k, .float .f64 x, .string s, .int .i64 r]).on hb)
    have hz : w.heap.size < w1.heap.size := by have := hb.size; simp at this; omega
    clear hb
    go_wp2_with (go_at_call 40; refine (CA.out _).mono ?_; rintro e w2 ⟨rfl, rfl⟩; replace B1 := hidB (B1.out.alloc B1.out.size (.cells #[.int .u8 k, .float .f64 x, .string s, .int .i64 r] 30)))
    go_ret
    exact ⟨rfl, B1.out⟩

end Go.Proofs.Ytlpldhcoplbopaa
