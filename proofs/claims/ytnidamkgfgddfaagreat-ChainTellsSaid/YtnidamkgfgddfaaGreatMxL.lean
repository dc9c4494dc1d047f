/-
  Descriptors: the walks of desc.Complete and of whole.
  A descriptor may be, as the reference says, just where the program says so.
  Keys, lists of keys, prototypes: the walks of key.Check, post.keys, post.holds, post.proto.
-/
import Derived.Test.YtnidamkgfgddfaaGreatDescChk
import Derived.Test.YtnidamkgfgddfaaGreatRefDchk
import Derived.Test.YtnidamkgfgddfaaGreatDescWalk
import Derived.BigGuardPart
namespace Go.Proofs.YtnidamkgfgddfaaGreat
open Go.RowKit

theorem results_row2 {P : Program} {fn : Func} {p u : Tmp} {ty : TypeId} (h : fn.results = #[.cell p ty, .tmp u]) (tmps : Array Value) (w : World) (g : Nat) (t : TypeId) (cs : Array Value) (fr : Nat × Nat) (d : TypeDesc)
    (hp : tmps.getD p undef = .pointer (some ⟨g, 0, none⟩)) (hg : w.heap[g]? = some (.cells cs t fr))
    (hu : P.underlying ty = some d) (hd : (match d with | .struct _ | .array _ _ => true | _ => false) = true) (hi : (P.info? ty).map (·.size) = some cs.size) :
    (results fn tmps).run P w = .ok (.tuple #[.agg cs, tmps.getD u undef]) w := by
  have hp' : tmps[p]?.getD undef = .pointer (some ⟨g, 0, none⟩) := by simpa using hp
  simp [results, h, hp', asAddr, run_loadVar_row w g t ty cs fr d hg hu hd hi]
theorem DI.one (d : DI) : d.cs.all (·.oneCell') = true := by
  rw [Array.all_eq_true_iff_forall_mem]
  intro u hu
  simp only [DI.cs, List.mem_toArray, List.mem_cons, List.not_mem_nil, or_false] at hu
  rcases hu with rfl | rfl | rfl | rfl | rfl | rfl | rfl | rfl | rfl | rfl | rfl | rfl | rfl | rfl | rfl | rfl <;> rfl
theorem size_desc : (Tryz.prog.info? 68).map (·.size) = some 16 := by kernel_rfl
/-- A descriptor made complete, or its error. -/
def DI.com (d : DI) : DI := if d.err = 0 then d.whole else DI.zero

set_option maxHeartbeats 4000000 in
set_option maxRecDepth 100000 in
theorem complete_any (d : DI) (hd : d.ok) (w : World) : Calls Tryz.prog 76 #[d.a] w fun e w' => e = .returned (.tuple #[d.com.a, .int .i64 d.err]) ∧ Below w.heap.size w w' := by
  have CA := hidB (fun W => descCheck_any d hd W)
  have WA := hidB (fun W => wholeD_any d W)
  unfold DI.com
  clear hd
  have U := hidB (show Bk ((w.alloc (.cells d.cs 68)).alloc (.cells #[.int .u8 0, .int .u8 0, .float .f64 0, .string ⟨#[]⟩, .int .i64 0, .int .u8 0, .float .f64 0, .string ⟨#[]⟩, .int .i64 0, .int .u8 0, .float .f64 0, .string ⟨#[]⟩, .int .i64 0, .bool false, .bool false, .bool false] 68)) w.heap.size 68 d.cs from (Bk.new w _ _).alloc _)
  have R := hidB (show Bk ((w.alloc (.cells d.cs 68)).alloc (.cells #[.int .u8 0, .int .u8 0, .float .f64 0, .string ⟨#[]⟩, .int .i64 0, .int .u8 0, .float .f64 0, .string ⟨#[]⟩, .int .i64 0, .int .u8 0, .float .f64 0, .string ⟨#[]⟩, .int .i64 0, .bool false, .bool false, .bool false] 68)) (w.heap.size + 1) 68 DI.zero.cs from Bk.new2 w _ _ _)
  have Bt := hidB (show Below w.heap.size w ((w.alloc (.cells d.cs 68)).alloc (.cells #[.int .u8 0, .int .u8 0, .float .f64 0, .string ⟨#[]⟩, .int .i64 0, .int .u8 0, .float .f64 0, .string ⟨#[]⟩, .int .i64 0, .int .u8 0, .float .f64 0, .string ⟨#[]⟩, .int .i64 0, .bool false, .bool false, .bool false] 68)) from (box_one w _).alloc (by simp) _)
  by_cases he : d.err = 0
  · rw [if_pos he, he]
    rw [he] at CA
    clear he
    go_enter Tryz.func76, Tryz.ntmps76
    go_upto_region 1 with fail
    generalize ((w.alloc (.cells d.cs 68)).alloc (.cells #[.int .u8 0, .int .u8 0, .float .f64 0, .string ⟨#[]⟩, .int .i64 0, .int .u8 0, .float .f64 0, .string ⟨#[]⟩, .int .i64 0, .int .u8 0, .float .f64 0, .string ⟨#[]⟩, .int .i64 0, .bool false, .bool false, .bool false] 68)) = w1 at *
    go_wp2_with (first | ((with_reducible refine ldId 68 (.tmp 1) ?_); refine wpList_load_row (by rfl) 68 (.tmp 1) (by rfl) w.heap.size (by rfl) 68 _ (0, 0) _ (by exact U.out) Tryz.underlying68 (by rfl) (by exact size_desc) ?_))
    refine (CA.out _).mono ?_; rintro e w2 ⟨rfl, hb⟩
    have U2 := hidB (U.out.on hb)
    have R2 := hidB (R.out.on hb)
    have B2 := hidB (Bt.out.trans (hb.mono Bt.out.size))
    clear hb U R Bt
    go_wp2_with (first | ((with_reducible refine ldId 68 (.tmp 1) ?_); refine wpList_load_row (by rfl) 68 (.tmp 1) (by rfl) w.heap.size (by rfl) 68 _ (0, 0) _ (by exact U2.out) Tryz.underlying68 (by rfl) (by exact size_desc) ?_))
    refine (WA.out _).mono ?_; rintro e w3 ⟨rfl, hb⟩
    have R3 := hidB (R2.out.on hb)
    have B3 := hidB (B2.out.trans (hb.mono B2.out.size))
    clear hb U2 R2 B2
    go_wp2_with (first | ((with_reducible refine wpId ?_); refine wpList_store_row (by rfl) 68 (.tmp 2) (.tmp 12) (by rfl) (w.heap.size + 1) d.whole.cs (by rfl) (by rfl) 68 DI.zero.cs (by exact R3.out) (by exact size_desc) (by rfl) (by exact DI.one _) ?_))
    exact bodyPost_ret (v := .tuple #[d.whole.a, .int .i64 0]) (results_row2 Tryz.results76 _ _ (w.heap.size + 1) 68 d.whole.cs (0, 0) _ rfl (R3.out.setRow _) Tryz.underlying68 rfl size_desc) rfl ⟨rfl, below_setRow B3.out (by omega) _⟩
  · rw [if_neg he]
    have hne : (d.err != 0) = true := by rw [bne_iff_ne]; exact he
    generalize d.err = er at *
    clear he
    go_enter Tryz.func76, Tryz.ntmps76
    go_upto_region 1 with fail
    generalize ((w.alloc (.cells d.cs 68)).alloc (.cells #[.int .u8 0, .int .u8 0, .float .f64 0, .string ⟨#[]⟩, .int .i64 0, .int .u8 0, .float .f64 0, .string ⟨#[]⟩, .int .i64 0, .int .u8 0, .float .f64 0, .string ⟨#[]⟩, .int .i64 0, .bool false, .bool false, .bool false] 68)) = w1 at *
    go_wp2_with (first | ((with_reducible refine ldId 68 (.tmp 1) ?_); refine wpList_load_row (by rfl) 68 (.tmp 1) (by rfl) w.heap.size (by rfl) 68 _ (0, 0) _ (by exact U.out) Tryz.underlying68 (by rfl) (by exact size_desc) ?_))
    refine (CA.out _).mono ?_; rintro e w2 ⟨rfl, hb⟩
    have R2 := hidB (R.out.on hb)
    have B2 := hidB (Bt.out.trans (hb.mono Bt.out.size))
    clear hb U R Bt
    go_wp2_with (first | ((with_reducible refine wpId ?_); refine wpList_store_row (by rfl) 68 (.tmp 2) (.tmp 9) (by rfl) (w.heap.size + 1) DI.zero.cs (by rfl) (by rfl) 68 DI.zero.cs (by exact R2.out) (by exact size_desc) (by rfl) (by exact DI.one _) ?_))
    exact bodyPost_ret (v := .tuple #[DI.zero.a, .int .i64 er]) (results_row2 Tryz.results76 _ _ (w.heap.size + 1) 68 DI.zero.cs (0, 0) _ rfl (R2.out.setRow _) Tryz.underlying68 rfl size_desc) rfl ⟨rfl, below_setRow B2.out (by omega) _⟩
  
/-- Complete as it stands. -/
def DI.isW (d : DI) : Bool := (d.err == 0) && (d.com.has == d.has)
end Go.Proofs.YtnidamkgfgddfaaGreat

namespace Go.Proofs.YtnidamkgfgddfaaGreat
open Go.RowKit

theorem bits_tab : ((List.range 256).all fun n => (hasB n 3 == (bitR n 1 || bitR n 2)) && ((hasB n 12 == (bitR n 4 || bitR n 8)) && (((bits .andNot .u8 n 63 != 0) == decide (63 < (n : Int))) && ((lackB n 1 == !bitR n 1) && ((lackB n 2 == !bitR n 2) && ((lackB n 4 == !bitR n 4) && ((lackB n 8 == !bitR n 8) && ((lackB n 16 == !bitR n 16) && (lackB n 32 == !bitR n 32))))))))) = true := by kernel_rfl
theorem bits_at (n : Int) (h : 0 ≤ n ∧ n ≤ 255) : hasB n 3 = (bitR n 1 || bitR n 2) ∧ hasB n 12 = (bitR n 4 || bitR n 8) ∧ (bits .andNot .u8 n 63 != 0) = decide (63 < n) ∧ lackB n 1 = !bitR n 1 ∧ lackB n 2 = !bitR n 2 ∧ lackB n 4 = !bitR n 4 ∧ lackB n 8 = !bitR n 8 ∧ lackB n 16 = !bitR n 16 ∧ lackB n 32 = !bitR n 32 := by
  obtain ⟨k, rfl⟩ : ∃ k : Nat, n = (k : Int) := ⟨n.toNat, by omega⟩
  have := List.all_eq_true.1 bits_tab k (List.mem_range.2 (by omega))
  simp only [Bool.and_eq_true, beq_iff_eq] at this
  exact this
theorem whole_tab : ((List.range 64).all fun n => ((bitR n 1 || bitR n 2) && (bitR n 4 || bitR n 8)) || ((wholeH n == n) == ((n == 51) || (n == 60)))) = true := by kernel_rfl
theorem whole_at (n : Int) (h : 0 ≤ n ∧ n ≤ 63) (hd : ((bitR n 1 || bitR n 2) && (bitR n 4 || bitR n 8)) = false) : (wholeH n == n) = ((n == 51) || (n == 60)) := by
  obtain ⟨k, rfl⟩ : ∃ k : Nat, n = (k : Int) := ⟨n.toNat, by omega⟩
  have := List.all_eq_true.1 whole_tab k (List.mem_range.2 (by omega))
  simp only [hd, Bool.false_or] at this
  rw [beq_iff_eq] at this
  rw [this]
  congr 1
  · by_cases h5 : k = 51
    · subst h5; rfl
    · rw [beq_eq_false_iff_ne.2 h5, beq_eq_false_iff_ne.2 (by omega)]
  · by_cases h5 : k = 60
    · subst h5; rfl
    · rw [beq_eq_false_iff_ne.2 h5, beq_eq_false_iff_ne.2 (by omega)]
theorem same0 (x : Nat) : Fl.same x 0 = isN x := by
  unfold Fl.same isN
  rw [show Fl.isNaN 0 = false by decide +kernel, show Fl.sg 0 = false by decide +kernel]
  cases hn : Fl.isNaN x
  · rw [if_neg (by simp), show (Ieee.double.order x 0 == some .eq) = Fl.isZ x from Fl.order_0 x hn]
    cases Fl.isZ x <;> cases Fl.sg x <;> rfl
  · have hz : Fl.isZ x = false := by
      rw [← Bool.not_eq_true]; intro h
      have := Fl.fin_not_nan (Fl.fin_of_isZ h)
      rw [hn] at this; cases this
    rw [hz]; rfl
theorem bare_eq (v : VI) : bareB v = (v.may && v.isZ) := by
  unfold bareB VI.may VI.isZ
  rw [same0]
  by_cases hk : v.k = 0
  · rw [hk]
    unfold mayV
    rw [if_pos (Or.inl rfl), ← isN_eq]
    generalize (FloatKind.f64.format.order v.x 0 == some .eq) = a
    generalize Fl.may v.x = b
    generalize v.s.toList.isEmpty = c
    generalize (v.r == 0) = d
    cases a <;> cases b <;> cases c <;> cases d <;> rfl
  · rw [beq_eq_false_iff_ne.2 hk]
    simp
theorem bareC_eq (v : VI) : bareB v = (v.called && v.isZ) := by
  rw [bare_eq]
  unfold VI.called VI.isZ
  cases (v.k == 0)
  · simp
  · simp
theorem okR_eq (d : DI) (h0 : 0 ≤ d.has ∧ d.has ≤ 255) : okR d = (d.err == 0) := by
  obtain ⟨e3, e12, e63, l1, l2, l4, l8, l16, l32⟩ := bits_at d.has h0
  unfold DI.err DI.bad1 DI.bad2 DI.bad3 DI.data DI.acc okR dataR accR
  rw [e3, e12, e63, l1, l2, l4, l8, l16, l32, bare_eq, bareC_eq d.g, bareC_eq d.t]
  generalize bitR d.has 1 = b1
  generalize bitR d.has 2 = b2
  generalize bitR d.has 4 = b4
  generalize bitR d.has 8 = b8
  generalize bitR d.has 16 = b16
  generalize bitR d.has 32 = b32
  generalize decide (63 < d.has) = gt
  have f : ∀ b m z : Bool, (if b = true then m else m && z) = (m && (b || z)) := by decide
  rw [f, f, f]
  generalize d.v.may = mv
  generalize d.g.called = cg
  generalize d.t.called = ct
  generalize d.v.isZ = zv
  generalize d.g.isZ = zg
  generalize d.t.isZ = zt
  generalize d.wr = wr
  generalize d.en = en
  generalize d.cf = cf
  have g : ∀ c : Bool, ((if c = true then (90 : Int) else 0) == 0) = !c := by decide
  rw [g]
  simp only [Bool.not_or, Bool.not_and, Bool.not_not]
  ac_rfl
theorem okR_err (d : DI) (h0 : 0 ≤ d.has ∧ d.has ≤ 255) : (if okR d then (0 : Int) else 90) = d.err := by
  rw [okR_eq d h0]
  unfold DI.err
  split <;> rfl
theorem isW_eq (d : DI) (h0 : 0 ≤ d.has ∧ d.has ≤ 255) : (okR d && ((d.has == 51) || (d.has == 60))) = d.isW := by
  have hk := okR_eq d h0
  unfold DI.isW DI.com
  cases he : (d.err == 0)
  · rw [hk, he]; rfl
  · rw [hk, he, if_pos (eq_of_beq he), Bool.true_and, Bool.true_and]
    rw [he] at hk
    unfold okR dataR accR at hk
    simp only [Bool.and_eq_true, Bool.not_eq_true', Bool.or_eq_false_iff, decide_eq_false_iff_not] at hk
    exact (whole_at d.has ⟨h0.1, by omega⟩ hk.1.2).symm
end Go.Proofs.YtnidamkgfgddfaaGreat

namespace Go.Proofs.YtnidamkgfgddfaaGreat
open Go.RowKit

/-- A key. -/
structure KI where
  s : ByteArray
  n : Int
abbrev KI.cells (k : KI) : List Value := [.string k.s, .int .i64 k.n]
abbrev KI.a (k : KI) : Value := .agg #[.string k.s, .int .i64 k.n]
def KI.ok (k : KI) : Bool := !(decide (k.n < 0) || decide (4096 < k.s.size) || (decide (0 < k.n) && !k.s.toList.isEmpty))
def KI.eq (a b : KI) : Bool := (a.s.toList == b.s.toList) && (a.n == b.n)
def KI.err (k : KI) : Int := if k.ok then 0 else 9
/-- A slice of keys that can be read. -/
def RdK (l : List KI) (v : Value) (w : World) : Prop := ∃ pa c, v = .slice pa l.length c ∧ l.length ≤ c ∧ c ≤ maxLen ∧ (0 < l.length → ∃ g o, pa = some ⟨g, o, none⟩ ∧ g < w.heap.size ∧ ∀ i (h : i < l.length), w.rangeAt g (o + i * 2) l[i].cells)
theorem rangeOn {w w1 : World} (hb : Below w.heap.size w w1) {g o : Nat} {cs : List Value} (hg : g < w.heap.size) (h : w.rangeAt g o cs) : w1.rangeAt g o cs := by
  intro j v hj
  rw [hb.cell (p := ⟨g, o + j, none⟩) hg]
  exact h j v hj
theorem RdK.on {l : List KI} {v : Value} {w w1 : World} (h : RdK l v w) (hb : Below w.heap.size w w1) : RdK l v w1 := by
  obtain ⟨pa, c, h1, h2, h3, h4⟩ := h
  refine ⟨pa, c, h1, h2, h3, fun h0 => ?_⟩
  obtain ⟨g, o, e, hg, hx⟩ := h4 h0
  exact ⟨g, o, e, Nat.lt_of_lt_of_le hg hb.size, fun i hi => rangeOn hb hg (hx i hi)⟩
theorem KI.two {k : KI} {w : World} {g o : Nat} (h : w.rangeAt g o k.cells) : w.cell? ⟨g, o, none⟩ = some (.string k.s) ∧ w.cell? ⟨g, o + 1, none⟩ = some (.int .i64 k.n) := ⟨h 0 _ rfl, h 1 _ rfl⟩
/-- What is wrong with a list of keys. -/
def keysE (l : List KI) : Int := if 1024 < l.length then 4 else if l.all KI.ok then 0 else 9

/-! ### keys compared -/

theorem fields_key : ((Tryz.prog.fieldsOf 66).toList.map (fun f => (f.name, f.type, f.offset)) == [("Str", 9, 0), ("Sym", 3, 1)]) = true := by kernel_rfl
theorem under_key : Tryz.prog.underlying 66 = some (.struct (Tryz.prog.fieldsOf 66)) := by kernel_rfl
theorem stood_key : Tryz.prog.stoodInHeld 66 = false := by kernel_rfl
theorem equal_key (d : Nat) (a b : KI) (w : World) : (Op.equalIn (d + 2) 66 (.agg #[.string a.s, .int .i64 a.n]) (.agg #[.string b.s, .int .i64 b.n])).run Tryz.prog w = .ok (KI.eq a b) w := by
  unfold KI.eq
  rw [run_equalIn_struct _ _ _ _ _ under_key stood_key]
  have hf := eq_of_beq fields_key
  generalize (Tryz.prog.fieldsOf 66).toList = fs at *
  rcases fs with _ | ⟨f0, _ | ⟨f1, _ | ⟨f2, fs⟩⟩⟩
  case cons.cons.nil =>
    simp only [List.map_cons, List.map_nil, List.cons.injEq, Prod.mk.injEq, and_true] at hf
    obtain ⟨⟨a0, b0, c0⟩, ⟨a1, b1, c1⟩⟩ := hf
    rw [eqF_plain (a := .string a.s) (b := .string b.s) (by rw [a0]; decide) (by rw [b0]; kernel_rfl) (by rw [c0]; rfl) (by rw [c0]; rfl) (by intro w; rw [b0]; exact run_equalIn_string w d _ _ _ (by kernel_rfl)),
      eqF_plain (a := .int .i64 a.n) (b := .int .i64 b.n) (by rw [a1]; decide) (by rw [b1]; kernel_rfl) (by rw [c1]; rfl) (by rw [c1]; rfl) (by intro w; rw [b1]; exact run_equalIn_int w d _ .i64 .i64 _ _ (by kernel_rfl)), eqF_nil]
    cases a.s.toList == b.s.toList <;> cases a.n == b.n <;> rfl
  all_goals (exfalso; simp at hf)

set_option maxHeartbeats 4000000 in
set_option maxRecDepth 100000 in
theorem keyCheck_any (k : KI) (w : World) : Calls Tryz.prog 62 #[k.a] w fun e w' => e = .returned (.int .i64 k.err) ∧ Below w.heap.size w w' := by
  obtain ⟨s, n⟩ := k
  unfold KI.err KI.ok
  simp only
  by_cases h1 : n < 0
  · rw [decide_eq_true h1]
    go_enter Tryz.func62, Tryz.ntmps62
    go_wp2_with fail
    go_ret
    exact ⟨rfl, box_one _ _⟩
  · rw [decide_eq_false h1]
    by_cases h2 : 4096 < s.size
    · have h2i : (4096 : Int) < (s.size : Int) := by omega
      rw [decide_eq_true h2]
      go_enter Tryz.func62, Tryz.ntmps62
      go_wp2_with fail
      go_ret
      exact ⟨rfl, box_one _ _⟩
    · have h2i : ¬ (4096 : Int) < (s.size : Int) := by omega
      rw [decide_eq_false h2]
      by_cases h3 : 0 < n
      · rw [decide_eq_true h3]
        cases h4 : s.toList.isEmpty
        all_goals
          go_enter Tryz.func62, Tryz.ntmps62
          go_wp2_with fail
          go_ret
          exact ⟨rfl, box_one _ _⟩
      · rw [decide_eq_false h3]
        go_enter Tryz.func62, Tryz.ntmps62
        go_wp2_with fail
        go_ret
        exact ⟨rfl, box_one _ _⟩
  
theorem keysE_not {l : List KI} (h : ¬ 1024 < l.length) {k : Nat} (hk : k < l.length) (ho : l[k].ok = false) : keysE l = 9 := by
  unfold keysE
  rw [if_neg h, if_neg]
  intro ha
  have := List.all_eq_true.1 ha l[k] (List.getElem_mem hk)
  rw [ho] at this; cases this

/-- May a value be a prototype? -/
def VI.proto (v : VI) : Bool := v.may && (isObj v.k || (v.k == 1))
end Go.Proofs.YtnidamkgfgddfaaGreat
