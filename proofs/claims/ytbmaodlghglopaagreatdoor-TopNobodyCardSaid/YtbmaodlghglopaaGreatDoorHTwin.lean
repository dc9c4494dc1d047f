/-
  Heaps in memory of their own: slices.Clone of properties, heap.one, heap.Twin.
-/
import Derived.Test.YtbmaodlghglopaaGreatDoorMxQ
import Derived.Lib.SliceRun
import Derived.Lib.Walk
import Derived.Laws.CopyRow
namespace Go.Proofs.YtbmaodlghglopaaGreatDoor
open Go.RowKit


def zeroPropH : Value := .agg #[.string ⟨#[]⟩, .int .i64 0, .int .u8 0, .int .u8 0, .float .f64 0, .string ⟨#[]⟩, .int .i64 0, .int .u8 0, .float .f64 0, .string ⟨#[]⟩, .int .i64 0, .int .u8 0, .float .f64 0, .string ⟨#[]⟩, .int .i64 0, .bool false, .bool false, .bool false]
def zeroObjH : Array Value := #[.int .u8 0, .int .u8 0, .float .f64 0, .string ⟨#[]⟩, .int .i64 0, .bool false, .slice none 0 0, .int .u8 0, .float .f64 0, .string ⟨#[]⟩, .int .i64 0, .int .u8 0, .float .f64 0, .string ⟨#[]⟩, .int .i64 0, .string ⟨#[]⟩, .bool false, .bool false]
theorem info_propH : (Tryz.prog.info? 91).map (fun i => (i.zero, i.size, i.bytes)) = some (some zeroPropH, 18, 160) := by kernel_rfl
theorem info_objH : (Tryz.prog.info? 42).map (fun i => (i.zero, i.size, i.bytes)) = some (some (.agg zeroObjH), 18, 184) := by kernel_rfl
theorem alloc_someH {w : World} {o : Obj} {a : Addr} {v : Value} (h : w.cell? a = some v) : (w.alloc o).cell? a = some v :=
  (World.cell?_of_block (Below.heap_alloc w o a.block (World.block_lt_of_cell? w a h))).trans h
/-! ### rows of rows -/
section
variable {α : Type} {f : α → List Value} {n : Nat} {l : List α}
theorem flat_len (hf : ∀ a, (f a).length = n) (l : List α) : (l.flatMap f).length = l.length * n := by
  induction l with
  | nil => simp
  | cons a l ih => simp [List.flatMap_cons, hf, ih]; rw [Nat.add_mul]; omega
theorem flat_at (hf : ∀ a, (f a).length = n) : ∀ (l : List α) (i j : Nat) (hi : i < l.length), j < n → (l.flatMap f)[i * n + j]? = (f l[i])[j]?
  | [], _, _, h, _ => absurd h (by simp)
  | a :: l, 0, j, _, hj => by
    rw [List.flatMap_cons, List.getElem?_append_left (by rw [hf]; omega)]
    simp
  | a :: l, i + 1, j, h, hj => by
    have e : (i + 1) * n + j = n + (i * n + j) := by rw [Nat.add_mul]; omega
    rw [List.flatMap_cons, List.getElem?_append_right (by rw [hf, e]; omega), hf, e, Nat.add_sub_cancel_left, flat_at hf l i j (by simpa using h) hj]
    simp
theorem flat_find (hf : ∀ a, (f a).length = n) (h0 : 0 < n) {l : List α} {j : Nat} {u : Value} (h : (l.flatMap f)[j]? = some u) : ∃ (i : Nat) (hi : i < l.length), j % n < n ∧ i = j / n ∧ (f l[i])[j % n]? = some u := by
  have hl := (List.getElem?_eq_some_iff.1 h).1
  rw [flat_len hf] at hl
  have hi : j / n < l.length := (Nat.div_lt_iff_lt_mul h0).2 hl
  have hm := Nat.mod_lt j h0
  refine ⟨j / n, hi, hm, rfl, ?_⟩
  rw [← flat_at hf l (j / n) (j % n) hi hm]
  have e : j / n * n + j % n = j := by rw [Nat.mul_comm]; exact Nat.div_add_mod j n
  rw [e]; exact h
theorem flat_drop (hf : ∀ a, (f a).length = n) : ∀ (l : List α) (i : Nat) (hi : i < l.length), ((l.flatMap f).drop (i * n)).take n = f l[i]
  | [], _, h => absurd h (by simp)
  | a :: l, 0, _ => by
    rw [List.flatMap_cons, Nat.zero_mul, List.drop_zero, List.take_append_of_le_length (by rw [hf]; exact Nat.le_refl _), List.take_of_length_le (by rw [hf]; exact Nat.le_refl _)]
    rfl
  | a :: l, i + 1, h => by
    have e : (i + 1) * n = n + i * n := by rw [Nat.add_mul]; omega
    rw [List.flatMap_cons, e, List.drop_append, hf, List.drop_of_length_le (by rw [hf]; omega), List.nil_append, Nat.add_sub_cancel_left]
    exact flat_drop hf l i (by simpa using h)
theorem flat_set (hf : ∀ a, (f a).length = n) : ∀ (l : List α) (i : Nat) (b : α), i < l.length → (l.flatMap f).take (i * n) ++ (f b ++ (l.flatMap f).drop (i * n + (f b).length)) = (l.set i b).flatMap f
  | [], _, _, h => absurd h (by simp)
  | a :: l, 0, b, _ => by
    rw [hf, Nat.zero_mul, Nat.zero_add, List.take_zero, List.nil_append, List.flatMap_cons, List.drop_append_of_le_length (by rw [hf]; exact Nat.le_refl _), List.drop_of_length_le (by rw [hf]; exact Nat.le_refl _), List.nil_append]
    rfl
  | a :: l, i + 1, b, h => by
    have e : (i + 1) * n = n + i * n := by rw [Nat.add_mul]; omega
    have ih := flat_set hf l i b (by simpa using h)
    have e2 : ((a :: l).flatMap f).take ((i + 1) * n) = f a ++ (l.flatMap f).take (i * n) := by
      rw [List.flatMap_cons, e, List.take_append, hf, List.take_of_length_le (by rw [hf]; omega), Nat.add_sub_cancel_left]
    have e3 : ((a :: l).flatMap f).drop ((i + 1) * n + (f b).length) = (l.flatMap f).drop (i * n + (f b).length) := by
      rw [List.flatMap_cons, e, List.drop_append, hf a, List.drop_of_length_le (by rw [hf a]; omega), List.nil_append]
      congr 1; generalize i * n = q; omega
    rw [e2, e3, List.append_assoc, ih]
    rfl
end
abbrev PI.flat (q : PI) : List Value := q.cs.toList
theorem PI.flat_len (q : PI) : q.flat.length = 18 := rfl
def flatP (l : List PI) : List Value := l.flatMap PI.flat
abbrev objF (e : OJ × List PI) : List Value := e.1.cs.toList
theorem objF_len (e : OJ × List PI) : (objF e).length = 18 := rfl
def flatH (h : HI) : List Value := h.flatMap objF
theorem flatP_one (l : List PI) : ∀ u ∈ flatP l, u.oneCell' = true := by
  intro u hu
  obtain ⟨q, _, hq⟩ := List.mem_flatMap.1 hu
  have := Array.all_eq_true_iff_forall_mem.1 (PI.one q) u (by simpa using hq)
  exact this
theorem flatH_one {h : HI} (hp : ∀ e ∈ h, e.1.props.oneCell' = true) : ∀ u ∈ flatH h, u.oneCell' = true := by
  intro u hu
  obtain ⟨e, he, hq⟩ := List.mem_flatMap.1 hu
  exact Array.all_eq_true_iff_forall_mem.1 (OJ.one e.1 (hp e he)) u (by simpa using hq)
/-- Properties that a slice owns can be read. -/
theorem rdP_own {B : Nat} {l : List PI} {v : Value} {w : World} (h : w.ownsRow B 91 18 v l.length (flatP l)) : RdP l v w := by
  rcases h.2 with ⟨rfl, h0⟩ | ⟨g, cap, cur, rfl, hb, hg, hc, hm, hs, ht⟩
  · exact ⟨none, 0, by rw [h0], by omega, Nat.zero_le _, fun hh => absurd hh (by omega)⟩
  · refine ⟨_, cap, rfl, hc, hm, fun h0 => ⟨g, 0, rfl, (Array.getElem?_eq_some_iff.1 hg).1, fun i hi j u hu => ?_⟩⟩
    have hj : j < 18 := (List.getElem?_eq_some_iff.1 hu).1
    have := World.ownsRow.cells h (g := g) rfl (i * 18 + j) u (by rw [flatP, flat_at PI.flat_len l i j hi hj]; exact hu)
    rw [Addr.add_mid] at this
    rw [Nat.zero_add]
    simpa using this

set_option maxHeartbeats 8000000 in
set_option maxRecDepth 100000 in
theorem cloneP_any (l : List PI) (v : Value) (w : World) (h : RdP l v w) (hl : l.length ≤ 4096) : Calls Tryz.prog 53 #[v] w fun e w' => ∃ v', e = .returned v' ∧ w'.ownsRow w.heap.size 91 18 v' l.length (flatP l) ∧ Below w.heap.size w w' := by
  obtain ⟨pa, c, rfl, h1, h2, h3⟩ := h
  have HC := hidB h3
  clear h3
  have HL := hidB hl
  have q : ∀ (w : World) (a : Option Addr) (n c n' c' : Nat), (binOp .eql 40 (.slice a n c) (.slice none n' c')).run Tryz.prog w = .ok (.bool a.isNone) w := fun w a n c n' c' => Go.Lib.run_eql_slice_nil w _ _ a n c n' c' Tryz.underlying40
  obtain ⟨i0, hi, hz0, hz1, hz2⟩ := info_parts info_propH
  cases pa with
  | none =>
    have h0 : l = [] := by
      cases l with
      | nil => rfl
      | cons a r => obtain ⟨g, o, e, _⟩ := HC.out (by simp); cases e
    subst h0
    clear h1 HC
    go_enter Tryz.func53, Tryz.ntmps53
    go_wp2
    go_ret
    exact ⟨_, rfl, World.ownsRow_nil _ _ _ _, Below.refl _ _⟩
  | some ad =>
    go_enter Tryz.func53, Tryz.ntmps53
    go_wp2_with (at_builtin; refine wpList_append_own _ rfl _ _ 40 rfl w.heap.size 91 i0 zeroPropH 18 160 Tryz.underlying40 hi hz0 hz1 hz2 rfl (by decide) _ _ _ rfl (World.ownsRow_made w #[] 0 (Nat.le_refl _) (Nat.zero_le _) rfl) ad l.length c (flatP l) rfl ?qc1 ?qc2 ?qc3 ?qc4 ?qc5 ?qc6 ?_)
    case qc1 => exact flat_len PI.flat_len l
    case qc2 =>
      intro j u hj
      obtain ⟨i, hil, hm, rfl, hu⟩ := flat_find PI.flat_len (by decide) hj
      obtain ⟨g, o, e, hg, hx⟩ := HC.out (by omega)
      cases e
      have := hx (j / 18) hil (j % 18) u hu
      rw [Addr.add_mid]
      have e : o + j / 18 * 18 + j % 18 = o + j := by omega
      rw [e] at this
      exact alloc_someH this
    case qc3 => exact flatP_one l
    case qc4 => unfold maxLen; have := HL.out; omega
    case qc5 => have := HL.out; omega
    intro v' w1 hown hgrow hnil
    go_wp2
    go_ret
    refine ⟨v', rfl, by simpa using hown, ?_⟩
    exact ((Below.refl _ w).alloc (Nat.le_refl _) _).grown hgrow (by simp) (by intro k hk; simp [Value.ownBlock] at hk; omega)
theorem own_sliceH {w : World} {b : Nat} {e : TypeId} {sz : Nat} {v : Value} {n : Nat} {xs : List Value} (h : w.ownsRow b e sz v n xs) : ∃ q c, v = .slice q n c := by
  obtain ⟨_, ⟨rfl, rfl⟩ | ⟨g, cap, cur, rfl, _⟩⟩ := h <;> exact ⟨_, _, rfl⟩
theorem own_baseH {b b' : Nat} {w : World} {e : TypeId} {sz : Nat} {v : Value} {n : Nat} {xs : List Value} (h : w.ownsRow b e sz v n xs) (hb : b' ≤ b) : w.ownsRow b' e sz v n xs := by
  obtain ⟨h1, h2 | ⟨g, cap, cur, h3, h4, h5⟩⟩ := h
  · exact ⟨h1, Or.inl h2⟩
  · exact ⟨h1, Or.inr ⟨g, cap, cur, h3, Nat.le_trans hb h4, h5⟩⟩
theorem own_keepH {w w1 : World} {b : Nat} {e : TypeId} {sz : Nat} {v : Value} {n : Nat} {xs : List Value} (h : w.ownsRow b e sz v n xs) (hs : w.heap.size ≤ w1.heap.size) (hx : ∀ g, b ≤ g → w1.heap[g]? = w.heap[g]?) (ho : w1.os = w.os) (ht : w1.tape = w.tape) (hp : w1.output = w.output) : w1.ownsRow b e sz v n xs := by
  obtain ⟨h1, h2 | ⟨g, cap, cur, h3, h4, h5, h6⟩⟩ := h
  · exact ⟨h1, Or.inl h2⟩
  · exact ⟨h1, Or.inr ⟨g, cap, cur, h3, h4, (hx g h4).trans h5, h6⟩⟩

set_option maxHeartbeats 8000000 in
set_option maxRecDepth 100000 in
theorem one_any (x : OJ) (l : List PI) (w : World) (h : RdP l x.props w) (hl : l.length ≤ 4096) : Calls Tryz.prog 34 #[x.a] w fun e w' => ∃ pv, e = .returned ({ x with props := pv } : OJ).a ∧ w'.ownsRow w.heap.size 91 18 pv l.length (flatP l) ∧ Below w.heap.size w w' := by
  have CA := hidB (fun W hr => cloneP_any l x.props W hr hl)
  have HR := hidB (fun W (hb : Below w.heap.size w W) => h.on hb)
  clear h hl
  have X := hidB (show Bk ((w.alloc (.cells (x.cs) 42)).alloc (.cells (#[.int .u8 0, .int .u8 0, .float .f64 0, .string ⟨#[]⟩, .int .i64 0, .bool false, .slice none 0 0, .int .u8 0, .float .f64 0, .string ⟨#[]⟩, .int .i64 0, .int .u8 0, .float .f64 0, .string ⟨#[]⟩, .int .i64 0, .string ⟨#[]⟩, .bool false, .bool false]) 42)) (w.heap.size) 42 (x.cs) from (Bk.new w _ _).alloc _)
  have R := hidB (show Bk ((w.alloc (.cells (x.cs) 42)).alloc (.cells (#[.int .u8 0, .int .u8 0, .float .f64 0, .string ⟨#[]⟩, .int .i64 0, .bool false, .slice none 0 0, .int .u8 0, .float .f64 0, .string ⟨#[]⟩, .int .i64 0, .int .u8 0, .float .f64 0, .string ⟨#[]⟩, .int .i64 0, .string ⟨#[]⟩, .bool false, .bool false]) 42)) (w.heap.size + 1) 42 (#[.int .u8 0, .int .u8 0, .float .f64 0, .string ⟨#[]⟩, .int .i64 0, .bool false, .slice none 0 0, .int .u8 0, .float .f64 0, .string ⟨#[]⟩, .int .i64 0, .int .u8 0, .float .f64 0, .string ⟨#[]⟩, .int .i64 0, .string ⟨#[]⟩, .bool false, .bool false]) from Bk.new2 w _ _ _)
  have B := hidB (show Below w.heap.size w ((w.alloc (.cells (x.cs) 42)).alloc (.cells (#[.int .u8 0, .int .u8 0, .float .f64 0, .string ⟨#[]⟩, .int .i64 0, .bool false, .slice none 0 0, .int .u8 0, .float .f64 0, .string ⟨#[]⟩, .int .i64 0, .int .u8 0, .float .f64 0, .string ⟨#[]⟩, .int .i64 0, .string ⟨#[]⟩, .bool false, .bool false]) 42)) from (box_one w _).alloc (by simp) _)
  go_enter Tryz.func34, Tryz.ntmps34
  go_upto_region 1 with fail
  generalize hW : ((w.alloc (.cells (x.cs) 42)).alloc (.cells (#[.int .u8 0, .int .u8 0, .float .f64 0, .string ⟨#[]⟩, .int .i64 0, .bool false, .slice none 0 0, .int .u8 0, .float .f64 0, .string ⟨#[]⟩, .int .i64 0, .int .u8 0, .float .f64 0, .string ⟨#[]⟩, .int .i64 0, .string ⟨#[]⟩, .bool false, .bool false]) 42)) = w1 at *
  clear hW
  have x6 : w1.cell? ⟨w.heap.size, 6, none⟩ = some x.props := X.out.cell 6
  go_wp2_with fail
  refine (CA.out _ (HR.out _ B.out)).mono ?_; rintro e w2 ⟨pv, rfl, hown, hb⟩
  obtain ⟨q, c, rfl⟩ := own_sliceH hown
  have HO := hidB (own_baseH hown (show w.heap.size + 1 + 1 ≤ w1.heap.size from R.out.lt))
  replace X := hidB (X.out.on hb)
  replace R := hidB (R.out.on hb)
  replace B := hidB (B.out.trans (hb.mono B.out.size))
  clear hb hown x6 CA HR
  have y6 : w2.cell? ⟨w.heap.size, 6, none⟩ = some x.props := X.out.cell 6
  have f6 : w2.frozen? ⟨w.heap.size, 6, none⟩ = false := X.out.free 6
  have X3 := hidB (show Bk (w2.setCell ⟨w.heap.size, 6, none⟩ (.slice q l.length c)) (w.heap.size) 42 ({ x with props := .slice q l.length c } : OJ).cs from X.out.set 6 _)
  have R3 := hidB (show Bk (w2.setCell ⟨w.heap.size, 6, none⟩ (.slice q l.length c)) (w.heap.size + 1) 42 #[.int .u8 0, .int .u8 0, .float .f64 0, .string ⟨#[]⟩, .int .i64 0, .bool false, .slice none 0 0, .int .u8 0, .float .f64 0, .string ⟨#[]⟩, .int .i64 0, .int .u8 0, .float .f64 0, .string ⟨#[]⟩, .int .i64 0, .string ⟨#[]⟩, .bool false, .bool false] from R.out.far (p := ⟨w.heap.size, 6, none⟩) (by simp) _)
  have B3 := hidB (show Below w.heap.size w (w2.setCell ⟨w.heap.size, 6, none⟩ (.slice q l.length c)) from B.out.setCell (p := ⟨w.heap.size, 6, none⟩) (Nat.le_refl _) _)
  have HO3 := hidB (show (w2.setCell ⟨w.heap.size, 6, none⟩ (.slice q l.length c)).ownsRow (w.heap.size + 1 + 1) 91 18 (.slice q l.length c) l.length (flatP l) from own_keepH HO.out (by simp [World.setCell]) (fun g hg => Below.heap_setCell w2 _ _ g (by show g ≠ w.heap.size; omega)) rfl rfl rfl)
  clear X R B HO
  go_upto_region 2 with fail
  generalize hW : (w2.setCell ⟨w.heap.size, 6, none⟩ (.slice q l.length c)) = w3 at *
  clear hW y6 f6
  go_wp2_with (first | ((with_reducible refine ldId 42 (.tmp 1) ?_); refine wpList_load_row (by rfl) 42 (.tmp 1) (by rfl) (w.heap.size) (by rfl) 42 (({ x with props := .slice q l.length c } : OJ).cs) (0, 0) _ (by exact X3.out) Tryz.underlying42 (by rfl) (by kernel_rfl) ?_) | ((with_reducible refine stId 42 (.tmp 2) (.tmp 7) ?_); refine wpList_store_row (by rfl) 42 (.tmp 2) (.tmp 7) (by rfl) (w.heap.size + 1) (({ x with props := .slice q l.length c } : OJ).cs) (by rfl) (by rfl) 42 (#[.int .u8 0, .int .u8 0, .float .f64 0, .string ⟨#[]⟩, .int .i64 0, .bool false, .slice none 0 0, .int .u8 0, .float .f64 0, .string ⟨#[]⟩, .int .i64 0, .int .u8 0, .float .f64 0, .string ⟨#[]⟩, .int .i64 0, .string ⟨#[]⟩, .bool false, .bool false]) (by exact R3.out) (by kernel_rfl) (by rfl) (by exact OJ.one _ rfl) ?_))
  exact bodyPost_ret (v := .agg (({ x with props := .slice q l.length c } : OJ).cs)) (results_cell_row Tryz.results34 _ _ (w.heap.size + 1) 42 (({ x with props := .slice q l.length c } : OJ).cs) (0, 0) _ rfl (R3.out.setRow _) Tryz.underlying42 rfl (by kernel_rfl)) rfl (⟨_, rfl, own_baseH (own_keepH HO3.out (by simp [World.setRow]) (fun g hg => setRow_other w3 _ g _ (by omega)) rfl rfl rfl) (by omega), below_setRow B3.out (Nat.le_succ _) _⟩)
/-- All of a slice copied over a new one. -/
theorem wpList_copy_all {P : Program} {w : World} {ops : Array Oper} {rest : List Oper} {o : Oper} {a : Act} {Q : Exit → Act → World → Prop} (hgd : o.guard = none) (d s : Operand) (dT sT : TypeId)
    (ho : o.op = .call { callee := .builtin .copy, args := #[d, s], argTypes := #[dT, sT] }) (elem : TypeId) (hu : P.underlying dT = some (.slice elem)) (k : Nat) (hsz : (P.info? elem).map (·.size) = some k)
    (g n c sc : Nat) (sp : Option Addr) (hd : a.eval d = .slice (some ⟨g, 0, none⟩) n c) (hs : a.eval s = .slice sp n sc)
    (cur : Array Value) (t : TypeId) (hg : w.heap[g]? = some (.cells cur t (0, 0))) (cs : List Value) (hn : cs.length = n * k) (hfit : cur.size = n * k)
    (hsrc : 0 < n → ∃ ad, sp = some ad ∧ ∀ j v, cs[j]? = some v → w.cell? (ad.add j) = some v) (h1 : ∀ v ∈ cs, v.oneCell' = true)
    (h : wpList P ops Q rest (a.put o.dst (goInt n)) (w.setRow g cs.toArray)) : wpList P ops Q (o :: rest) a w := by
  refine wpList_plain hgd fun K hK => ?_
  have hst := run_storeCells_at P g 0 t cs 0 cur w hg (by omega) h1
  have e1 : (cur.toList.take (0 + 0) ++ cs ++ cur.toList.drop (0 + 0 + cs.length)).toArray = cs.toArray := by
    rw [List.drop_of_length_le (by simp; omega)]; simp
  rw [e1] at hst
  have hrun : (Builtin.copy_ #[dT, sT] o.type #[.slice (some ⟨g, 0, none⟩) n c, .slice sp n sc]).run P w = .ok (goInt n) (w.setRow g cs.toArray) := by
    cases hq : P.info? elem with
    | none => simp [hq] at hsz
    | some i =>
      have hi : i.size = k := by simpa [hq] using hsz
      rcases Nat.eq_zero_or_pos n with h0 | h0
      · subst h0
        obtain rfl : cs = [] := List.eq_nil_of_length_eq_zero (by omega)
        have hl0 := fun ad => run_loadCells_list (P := P) w ad [] (fun j v h => by simp at h)
        cases sp with
        | none => simp [Builtin.copy_, run_underlying hu, Builtin.lenOf, Builtin.firstCells, sizeOf, typeInfo, hq, hst]
        | some ad => simp at hl0; simp [Builtin.copy_, run_underlying hu, Builtin.lenOf, Builtin.firstCells, sizeOf, typeInfo, hq, hl0, hst]
      · obtain ⟨ad, rfl, hsr⟩ := hsrc h0
        have hl := run_loadCells_list (P := P) w ad cs hsr
        rw [hn] at hl
        simp [Builtin.copy_, run_underlying hu, Builtin.lenOf, Builtin.firstCells, sizeOf, typeInfo, hq, hi, hl, hst]
  unfold Oper.wp
  simp [execOp, ho, resolve, invoke, builtin, hd, hs, hrun, Result.andThen]
  exact hK _ _ h
/-- An object, but for where its properties lie. -/
def bareE (e : OJ × List PI) : OJ × List PI := ({ e.1 with props := .slice none 0 0 }, e.2)
def bareH (h : HI) : HI := h.map bareE
theorem bareH_length {h h' : HI} (e : bareH h' = bareH h) : h'.length = h.length := by
  have := congrArg List.length e
  simpa [bareH] using this
theorem bareH_at {h h' : HI} (e : bareH h' = bareH h) {i : Nat} (hi : i < h'.length) (hj : i < h.length) : bareE (h'[i]'hi) = bareE (h[i]'hj) := by
  have h1 : (bareH h')[i]? = (bareH h)[i]? := by rw [e]
  unfold bareH at h1
  rw [List.getElem?_map, List.getElem?_map, List.getElem?_eq_getElem hi, List.getElem?_eq_getElem hj] at h1
  simpa using h1
theorem bareH_set {h h' : HI} (e : bareH h' = bareH h) {i : Nat} (hj : i < h.length) {x : OJ × List PI} (hx : bareE x = bareE (h[i]'hj)) : bareH (h'.set i x) = bareH h := by
  have hl := bareH_length e
  apply List.ext_getElem?
  intro j
  have h1 : (bareH h')[j]? = (bareH h)[j]? := by rw [e]
  unfold bareH at h1 ⊢
  rw [List.getElem?_map] at h1 ⊢
  rw [List.getElem?_set]
  split
  · rename_i hij
    subst hij
    rw [if_pos (by omega), List.getElem?_map, List.getElem?_eq_getElem hj]
    simpa using hx
  · exact h1
/-- Properties that can be read, and lie in an old block, or in one of their own kind. -/
def RdY (B : Nat) (l : List PI) (v : Value) (w : World) : Prop := RdP l v w ∧ (0 < l.length → ∀ b, v.ownBlock = some b → b < B ∨ ∃ cur, Bk w b 91 cur)
theorem RdY.on {B : Nat} {l : List PI} {v : Value} {w w1 : World} (h : RdY B l v w) (hb : Below w.heap.size w w1) : RdY B l v w1 := ⟨h.1.on hb, fun h0 b e => (h.2 h0 b e).imp id (fun ⟨cur, hc⟩ => ⟨cur, hc.on hb⟩)⟩
theorem RdY.far {B : Nat} {l : List PI} {v : Value} {w w1 : World} (h : RdY B l v w) {g : Nat} {t : TypeId} {cs : Array Value} (hg : Bk w g t cs) (ht : t ≠ 91) (hB : B ≤ g) (hs : w.heap.size ≤ w1.heap.size) (hx : ∀ b, b ≠ g → w1.heap[b]? = w.heap[b]?) : RdY B l v w1 := by
  obtain ⟨⟨pa, c, rfl, h1, h2, h3⟩, hne⟩ := h
  have key : ∀ b, 0 < l.length → (Value.slice pa l.length c).ownBlock = some b → b ≠ g := by
    rintro b h0 e rfl
    rcases hne h0 b e with hl | ⟨cur, hc⟩
    · omega
    · unfold Bk at hg hc
      rw [hg] at hc
      simp only [Option.some.injEq, Obj.cells.injEq] at hc
      exact ht hc.2.1
  refine ⟨⟨pa, c, rfl, h1, h2, fun h0 => ?_⟩, fun h0 b e => (hne h0 b e).imp id (fun ⟨cur, hc⟩ => ⟨cur, (hx b (key b h0 e)).trans hc⟩)⟩
  obtain ⟨b, o, rfl, hb, hr⟩ := h3 h0
  have hbg := key b h0 rfl
  exact ⟨b, o, rfl, Nat.lt_of_lt_of_le hb hs, fun i hi j u hu => (World.cell?_of_block (hx b hbg)).trans (hr i hi j u hu)⟩
theorem RdP.old {l : List PI} {v : Value} {w : World} {B : Nat} (h : RdP l v w) (hg : w.heap.size ≤ B) : RdY B l v w := by
  obtain ⟨pa, c, rfl, h1, h2, h3⟩ := h
  refine ⟨⟨pa, c, rfl, h1, h2, h3⟩, fun h0 b e => ?_⟩
  obtain ⟨b', o, rfl, hb, _⟩ := h3 h0
  have : b' = b := by simpa [Value.ownBlock] using e
  omega
theorem RdY.own {B B' : Nat} {l : List PI} {v : Value} {w : World} (h : w.ownsRow B' 91 18 v l.length (flatP l)) : RdY B l v w := by
  refine ⟨rdP_own h, fun h0 b e => ?_⟩
  rcases h.2 with ⟨rfl, h1⟩ | ⟨g, cap, cur, rfl, hb, hg, _⟩
  · omega
  · have : g = b := by simpa [Value.ownBlock] using e
    subst this
    exact Or.inr ⟨cur, hg⟩
theorem RdY.mono {B B' : Nat} {l : List PI} {v : Value} {w : World} (h : RdY B l v w) (hB : B ≤ B') : RdY B' l v w := ⟨h.1, fun h0 b e => (h.2 h0 b e).imp (fun hb => Nat.lt_of_lt_of_le hb hB) id⟩
theorem setCells_heap (w : World) (g o : Nat) (vs : List Value) : (w.setCells g o vs).heap.size = w.heap.size ∧ ∀ b, b ≠ g → (w.setCells g o vs).heap[b]? = w.heap[b]? := by
  induction vs generalizing w o with
  | nil => exact ⟨rfl, fun _ _ => rfl⟩
  | cons v r ih =>
    rw [World.setCells]
    have := ih (w.setCell ⟨g, o, none⟩ v) (o + 1)
    refine ⟨this.1.trans (by simp [World.setCell]), fun b hb => (this.2 b hb).trans (Below.heap_setCell w _ _ b hb)⟩
theorem own_oneH {w : World} {base : Nat} {e : TypeId} {sz : Nat} {v : Value} {n : Nat} {xs : List Value} (h : w.ownsRow base e sz v n xs) : v.oneCell' = true := by
  obtain ⟨_, ⟨rfl, _⟩ | ⟨g, cap, c, rfl, _⟩⟩ := h <;> rfl
theorem own_ne_typeH {w : World} {base : Nat} {e e' : TypeId} {sz : Nat} {v : Value} {n : Nat} {xs : List Value} (h : w.ownsRow base e sz v n xs) (hne : e ≠ e') {b : Nat} {cur : Array Value} (hb : Bk w b e' cur) : v.ownBlock ≠ some b := by
  obtain ⟨_, ⟨rfl, _⟩ | ⟨g, cap, c, rfl, _, hg, _⟩⟩ := h
  · simp [Value.ownBlock]
  · intro e
    simp only [Value.ownBlock, Option.some.injEq] at e
    subst e
    unfold Bk at hb
    rw [hb] at hg
    simp only [Option.some.injEq, Obj.cells.injEq] at hg
    exact hne hg.2.1.symm
theorem flatH_len (h : HI) : (flatH h).length = h.length * 18 := flat_len objF_len h
/-- Another heap that is the same, in a block of the call's own. -/
structure TwinH (B i : Nat) (h h' : HI) (g : Nat) (w : World) : Prop where
  bare : bareH h' = bareH h
  low : B ≤ g
  blk : Bk w g 42 (flatH h').toArray
  props : ∀ j (hj : j < h'.length), RdY (if j < i then 0 else B) (h'[j]'hj).2 (h'[j]'hj).1.props w
theorem TwinH.on {B i : Nat} {h h' : HI} {g : Nat} {w w1 : World} (t : TwinH B i h h' g w) (hb : Below w.heap.size w w1) : TwinH B i h h' g w1 := ⟨t.bare, t.low, t.blk.on hb, fun j hj => (t.props j hj).on hb⟩
theorem TwinH.all {B : Nat} {h h' : HI} {g : Nat} {w : World} (t : TwinH B h.length h h' g w) : ∀ e ∈ h', RdY 0 e.2 e.1.props w := fun e he => by
  obtain ⟨j, hj, rfl⟩ := List.mem_iff_getElem.1 he
  have := t.props j hj
  rwa [if_pos (by rw [← bareH_length t.bare]; exact hj)] at this
theorem TwinH.far {B i : Nat} {h h' : HI} {g : Nat} {w w1 : World} (t : TwinH B i h h' g w) {q : Nat} {ty : TypeId} {cs : Array Value} (hq : Bk w q ty cs) (ht : ty ≠ 91) (hto : ty ≠ 42) (hB : B ≤ q) (hs : w.heap.size ≤ w1.heap.size) (hx : ∀ b, b ≠ q → w1.heap[b]? = w.heap[b]?) : TwinH B i h h' g w1 := by
  have hgq : g ≠ q := by
    rintro rfl
    have h1 := t.blk
    unfold Bk at hq h1
    rw [hq] at h1
    simp only [Option.some.injEq, Obj.cells.injEq] at h1
    exact hto h1.2.1
  exact ⟨t.bare, t.low, (hx g hgq).trans t.blk, fun j hj => (t.props j hj).far hq ht (by split <;> omega) hs hx⟩
theorem TwinH.put {B i : Nat} {h' : HI} {w : World} {x : OJ × List PI} (hi : i < h'.length) (hp : ∀ j (hj : j < h'.length), RdY (if j < i then 0 else B) (h'[j]'hj).2 (h'[j]'hj).1.props w) (hx : RdY 0 x.2 x.1.props w) : ∀ j (hj : j < (h'.set i x).length), RdY (if j < i + 1 then 0 else B) ((h'.set i x)[j]'hj).2 ((h'.set i x)[j]'hj).1.props w := by
  intro j hj
  rw [List.length_set] at hj
  by_cases hij : j = i
  · subst hij
    rw [List.getElem_set_self, if_pos (by omega)]
    exact hx
  · rw [List.getElem_set_ne (fun e => hij e.symm)]
    have := hp j hj
    by_cases hlt : j < i
    · rw [if_pos hlt] at this; rw [if_pos (by omega)]; exact this
    · rw [if_neg hlt] at this; rw [if_neg (by omega)]; exact this
theorem rd_flat {h : HI} {w : World} {pa : Option Addr} {n c : Nat} (hr : RdH h (.slice pa n c) w) (h0 : 0 < h.length) : ∃ ad, pa = some ad ∧ ∀ j v, (flatH h)[j]? = some v → w.cell? (ad.add j) = some v := by
  obtain ⟨⟨pa', c', hv, _, _, h3⟩, _⟩ := hr
  obtain ⟨g, o, rfl, _, hrow⟩ := h3 h0
  simp only [Value.slice.injEq] at hv
  refine ⟨_, hv.1, fun j v hj => ?_⟩
  obtain ⟨i, hi, hm, rfl, hu⟩ := flat_find objF_len (by decide) hj
  have := hrow (j / 18) hi (j % 18) v hu
  rw [Addr.add_mid]
  have e : o + j / 18 * 18 + j % 18 = o + j := by omega
  rwa [e] at this
theorem TwinH.rd {B i : Nat} {h h' : HI} {g : Nat} {w : World} (t : TwinH B i h h' g w) (hm : h.length ≤ 9000) : RdH h' (.slice (some ⟨g, 0, none⟩) h.length h.length) w := by
  have hl := bareH_length t.bare
  refine ⟨⟨_, h.length, by rw [hl], by omega, by unfold maxLen; omega, fun _ => ⟨g, 0, rfl, t.blk.lt, fun i hi j u hu => ?_⟩⟩, fun e he => by obtain ⟨j, hj, rfl⟩ := List.mem_iff_getElem.1 he; exact (t.props j hj).1⟩
  have hj : j < 18 := (List.getElem?_eq_some_iff.1 hu).1
  have h1 := t.blk.cell (i * 18 + j)
  rw [Nat.zero_add, h1, List.getElem?_toArray]
  exact (flat_at objF_len h' i j hi hj).trans hu
def TwQ (h : HI) (w : World) (e : Ending) (w' : World) : Prop := ∃ h' g, e = .returned (.agg #[.slice (some ⟨g, 0, none⟩) h.length h.length]) ∧ TwinH w.heap.size h.length h h' g w' ∧ Below w.heap.size w w'
def TwR (h : HI) (w : World) (n : Nat) (s : Value) (wr : World) : Prop := ∃ (i : Nat) (h' : HI), n = h.length - i ∧ i ≤ h.length ∧ s = .int .i64 i ∧ TwinH w.heap.size i h h' (w.heap.size + 2) wr ∧ Bk wr (w.heap.size + 1) 24 #[.slice none 0 0] ∧ Below w.heap.size w wr
theorem madeO (n : Nat) : (madeCells (Value.cells (.agg zeroObjH)) (n * 18)).size = n * 18 := by simp [madeCells]
theorem run_makeO (n : Nat) (hn : n ≤ 9000) (w : World) : (Instr.makeSlice 22 (.int .i64 (n : Int)) (.int .i64 (n : Int))).run Tryz.prog w = .ok (.slice (some ⟨w.heap.size, 0, none⟩) n n) (w.alloc (.cells (madeCells (Value.cells (.agg zeroObjH)) (n * 18)) 42)) := by
  obtain ⟨i, hi, hz0, hz1, hz2⟩ := info_parts info_objH
  have := run_make (P := Tryz.prog) (w := w) 22 42 i (.agg zeroObjH) Tryz.underlying22 hi hz0 .i64 .i64 (n : Int) (n : Int) (by omega) (by omega) (by rw [hz2]; omega) (by omega)
  rw [this, Int.toNat_natCast, hz1]

set_option maxHeartbeats 8000000 in
set_option maxRecDepth 100000 in
theorem twinH_any (h : HI) (hv : Value) (w : World) (hr : RdH h hv w) (hl : ∀ e ∈ h, e.2.length ≤ 4096) (hm : h.length ≤ 9000) : Calls Tryz.prog 16 #[.agg #[hv]] w (TwQ h w) := by
  have HRD := hidB hr
  have HLL := hidB hl
  obtain ⟨⟨pa, c, rfl, h1, h2, h3⟩, hpr⟩ := hr
  unfold maxLen at h2
  have hlm : h.length ≤ 9223372036854775807 := by omega
  have HPR := hidB hpr
  clear h3 hpr hl
  have Y := hidB (show Bk ((w.alloc (.cells (#[(.slice pa h.length c)]) 24)).alloc (.cells (#[.slice none 0 0]) 24)) (w.heap.size) 24 (#[(.slice pa h.length c)]) from (Bk.new w _ _).alloc _)
  have R := hidB (show Bk ((w.alloc (.cells (#[(.slice pa h.length c)]) 24)).alloc (.cells (#[.slice none 0 0]) 24)) (w.heap.size + 1) 24 (#[.slice none 0 0]) from Bk.new2 w _ _ _)
  have B := hidB (show Below w.heap.size w ((w.alloc (.cells (#[(.slice pa h.length c)]) 24)).alloc (.cells (#[.slice none 0 0]) 24)) from (box_one w _).alloc (by simp) _)
  go_enter Tryz.func16, Tryz.ntmps16
  go_upto_region 1 with fail
  generalize hW : ((w.alloc (.cells (#[(.slice pa h.length c)]) 24)).alloc (.cells (#[.slice none 0 0]) 24)) = w1 at *
  have hs1 : w1.heap.size = w.heap.size + 2 := by rw [← hW]; simp
  clear hW
  have y0 : w1.cell? ⟨w.heap.size, 0, none⟩ = some (.slice pa h.length c) := Y.out.cell 0
  have hmk := run_makeO h.length hm w1
  rw [hs1] at hmk
  have MD := hidB (madeO h.length)
  generalize madeCells (Value.cells (.agg zeroObjH)) (h.length * 18) = mc at *
  go_upto_region 2 with fail
  clear hmk y0
  have G2 := hidB (show Bk (w1.alloc (.cells mc 42)) (w.heap.size + 2) 42 mc from hs1 ▸ Bk.new w1 _ _)
  have Y2 := hidB (show Bk (w1.alloc (.cells mc 42)) w.heap.size 24 #[(.slice pa h.length c)] from Y.out.alloc _)
  have R2 := hidB (show Bk (w1.alloc (.cells mc 42)) (w.heap.size + 1) 24 #[.slice none 0 0] from R.out.alloc _)
  have B2 := hidB (show Below w.heap.size w (w1.alloc (.cells mc 42)) from B.out.alloc B.out.size _)
  clear Y R B hs1
  generalize (w1.alloc (.cells mc 42)) = w2 at *
  have y2 : w2.cell? ⟨w.heap.size, 0, none⟩ = some (.slice pa h.length c) := Y2.out.cell 0
  have ONE := hidB (flatH_one (h := h) (fun e he => (HPR.out e he).one))
  go_upto_region 3 with (refine wpList_copy_all (by rfl) (.tmp 9) (.tmp 11) _ _ (by rfl) 42 Tryz.underlying22 18 (by kernel_rfl) (w.heap.size + 2) h.length h.length c pa (by rfl) (by rfl) mc 42 G2.out (flatH h) (flatH_len h) MD.out (fun h0 => rd_flat (HRD.out.on B2.out) h0) ONE.out ?_)
  have TW := hidB (show TwinH w.heap.size 0 h h (w.heap.size + 2) (w2.setRow (w.heap.size + 2) (flatH h).toArray) from ⟨rfl, by omega, G2.out.setRow _, fun j hj => (((HPR.out _ (List.getElem_mem hj)).old (Nat.le_refl _)).on B2.out).far G2.out (by decide) (by omega) (by simp [World.setRow]) (fun b hb => setRow_other w2 _ b _ hb)⟩)
  have R3 := hidB (show Bk (w2.setRow (w.heap.size + 2) (flatH h).toArray) (w.heap.size + 1) 24 #[.slice none 0 0] from R2.out.setRow_far (by omega) _)
  have B3 := hidB (show Below w.heap.size w (w2.setRow (w.heap.size + 2) (flatH h).toArray) from below_setRow B2.out (by omega) _)
  clear y2 Y2 R2 B2 G2 MD
  generalize (w2.setRow (w.heap.size + 2) (flatH h).toArray) = w3 at *
  go_wp2_with fail
  go_loopg [15] h.length (fun n s15 wr => TwR h w n s15 wr)
  case atStart => exact ⟨0, h, rfl, Nat.zero_le _, rfl, TW.out, R3.out, B3.out⟩
  case round =>
    clear TW R3 B3
    obtain ⟨i, h', rfl, hi, rfl, htw, hR, hb⟩ := hrel
    have TW := hidB htw
    have R := hidB hR
    have B := hidB hb
    clear htw hR hb
    have hi0 : (0 : Int) ≤ (i : Int) := by omega
    by_cases hlt : i < h.length
    rotate_left
    · obtain rfl : i = h.length := by omega
      have hx4 : ¬ ((h.length : Int) < (h.length : Int)) := by omega
      have r1 : wr.cell? ⟨w.heap.size + 1, 0, none⟩ = some (.slice none 0 0) := R.out.cell 0
      have f1 : wr.frozen? ⟨w.heap.size + 1, 0, none⟩ = false := R.out.free 0
      go_wp2_with fail
      exact bodyPost_ret (v := .agg (#[(.slice (some ⟨w.heap.size + 2, 0, none⟩) h.length h.length)])) (results_cell_row Tryz.results16 _ _ (w.heap.size + 1) 24 (#[(.slice (some ⟨w.heap.size + 2, 0, none⟩) h.length h.length)]) (0, 0) _ rfl (R.out.set 0 _) Tryz.underlying24 rfl (by kernel_rfl)) rfl (⟨h', _, rfl, TW.out.far R.out (by decide) (by decide) (by omega) (by simp [World.setCell]) (fun b hb => Below.heap_setCell wr _ _ b hb), B.out.setCell (Nat.le_succ _) _⟩)
    have hi1 : (i : Int) < (h.length : Int) := by omega
    have hil : i < h'.length := by rw [bareH_length TW.out.bare]; exact hlt
    have HBE := hidB (bareH_at TW.out.bare hil hlt)
    have hlen : (h'[i]'hil).2.length ≤ 4096 := by
      have e1 : (h'[i]'hil).2 = (h[i]'hlt).2 := (congrArg Prod.snd HBE.out : (bareE (h'[i]'hil)).2 = (bareE (h[i]'hlt)).2)
      rw [e1]; exact HLL.out _ (List.getElem_mem hlt)
    have PRD := hidB (TW.out.props i hil).1
    have HRG := hidB (show wr.rangeAt (w.heap.size + 2) (i * 18) (h'[i]'hil).1.cs.toList from Bk.mid TW.out.blk (i * 18) _ (flat_drop objF_len h' i hil))
    have HLEN := hidB hlen
    clear hlen
    have HSET := hidB (fun x => flat_set objF_len h' i x hil)
    generalize (h'[i]'hil) = e0 at *
    go_wp2_with (first | ((with_reducible refine ldId 42 (.tmp 22) ?_); refine wpList_load_mid (by rfl) 42 (.tmp 22) (by rfl) (w.heap.size + 2) (i * 18) (by rfl) e0.1.cs.toList _ (by exact HRG.out) Tryz.underlying42 (by rfl) (by kernel_rfl) ?_))
    refine (one_any e0.1 e0.2 _ PRD.out HLEN.out).mono ?_; rintro e w4 ⟨pv, rfl, hown, hb⟩
    have HO := hidB hown
    replace TW := hidB (TW.out.on hb)
    replace R := hidB (R.out.on hb)
    have hsz := B.out.size
    replace B := hidB (B.out.trans (hb.mono B.out.size))
    clear hb hown HRG PRD
    have G5 := hidB (show Bk (w4.setCells (w.heap.size + 2) (i * 18) ({ e0.1 with props := pv } : OJ).cs.toList) (w.heap.size + 2) 42 (flatH (h'.set i (({ e0.1 with props := pv } : OJ), e0.2))).toArray from Bk.setCells2 TW.out.blk _ _ (by rw [List.size_toArray, flatH_len]; show i * 18 + 18 ≤ _; omega) (HSET.out (({ e0.1 with props := pv } : OJ), e0.2)))
    have HBR := hidB (bareH_set TW.out.bare hlt (x := (({ e0.1 with props := pv } : OJ), e0.2)) HBE.out)
    have far5 := setCells_heap w4 (w.heap.size + 2) (i * 18) ({ e0.1 with props := pv } : OJ).cs.toList
    have PR5 := hidB (TwinH.put hil (w := (w4.setCells (w.heap.size + 2) (i * 18) ({ e0.1 with props := pv } : OJ).cs.toList)) (x := (({ e0.1 with props := pv } : OJ), e0.2)) (fun j hj => (TW.out.props j hj).far TW.out.blk (by decide) (by split <;> omega) (Nat.le_of_eq far5.1.symm) far5.2) ((RdY.own HO.out).far TW.out.blk (by decide) (Nat.zero_le _) (Nat.le_of_eq far5.1.symm) far5.2))
    have R5 := hidB (show Bk (w4.setCells (w.heap.size + 2) (i * 18) ({ e0.1 with props := pv } : OJ).cs.toList) (w.heap.size + 1) 24 #[.slice none 0 0] from (far5.2 _ (by omega)).trans R.out)
    have B5 := hidB (show Below w.heap.size w (w4.setCells (w.heap.size + 2) (i * 18) ({ e0.1 with props := pv } : OJ).cs.toList) from below_setCells (by omega) _ _ B.out)
    have V1 := hidB (own_oneH HO.out)
    have THR := hidB (Bk.there TW.out.blk (i * 18) 18 (by rw [List.size_toArray, flatH_len]; omega))
    clear far5
    have TW5 := hidB (show TwinH w.heap.size (i + 1) h (h'.set i (({ e0.1 with props := pv } : OJ), e0.2)) (w.heap.size + 2) (w4.setCells (w.heap.size + 2) (i * 18) ({ e0.1 with props := pv } : OJ).cs.toList) from ⟨HBR.out, by omega, G5.out, PR5.out⟩)
    clear TW R B HO G5 HBR PR5 HSET HBE HLEN hsz
    go_upto_region 7 with (refine wpList_store_mid (by rfl) 42 (.tmp 25) (.tmp 24) (by rfl) (w.heap.size + 2) (i * 18) ({ e0.1 with props := pv } : OJ).cs (by rfl) (by rfl) (by exact THR.out) (by kernel_rfl) (by exact OJ.one _ V1.out) ?_)
    generalize (w4.setCells (w.heap.size + 2) (i * 18) ({ e0.1 with props := pv } : OJ).cs.toList) = w5 at *
    go_wp2_with fail
    go_roundg (h.length - (i + 1))
    case measure => omega
    case rel => exact ⟨i + 1, _, rfl, by omega, by go_num, TW5.out, R5.out, B5.out⟩

end Go.Proofs.YtbmaodlghglopaaGreatDoor
