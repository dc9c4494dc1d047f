/-
  What the law needs beside a task: rows that are overwritten, appends of what came in, how wants look in memory.
-/
import Derived.Test.YtbkjbpefbdoenaaCBegun
import Derived.Test.YtbkjbpefbdoenaaCOpenB
import Derived.Laws.OwnMore
namespace Go.Proofs.Ytbkjbpefbdoenaa
open Go.RowKit

/-! ### rows of values that are overwritten -/
abbrev zC : List Value := [.int .u8 77, .float .f64 0, .string ⟨#[]⟩, .int .i64 0]
theorem putAt_size : ∀ (vs : List Value) (o : Nat) (cs : Array Value), (putAt cs o vs).size = cs.size
  | [], _, _ => rfl
  | v :: r, o, cs => by rw [putAt, putAt_size r]; simp
theorem setCells_heapC (w : World) (g o : Nat) (vs : List Value) : (w.setCells g o vs).heap.size = w.heap.size ∧ ∀ b, b ≠ g → (w.setCells g o vs).heap[b]? = w.heap[b]? := by
  induction vs generalizing w o with
  | nil => exact ⟨rfl, fun _ _ => rfl⟩
  | cons v r ih =>
    rw [World.setCells]
    have := ih (w.setCell ⟨g, o, none⟩ v) (o + 1)
    refine ⟨this.1.trans (by simp [World.setCell]), fun b hb => (this.2 b hb).trans (Below.heap_setCell w _ _ b hb)⟩
/-- A row of values that may be stored to, in a block from lo to hi. -/
def OwnZ (n : Nat) (q : Option Addr) (lo hi : Nat) (w : World) : Prop := 0 < n → ∃ g cur, q = some ⟨g, 0, none⟩ ∧ lo ≤ g ∧ g < hi ∧ Bk w g 24 cur ∧ n * 4 ≤ cur.size
theorem OwnZ.none (q : Option Addr) (lo hi : Nat) (w : World) : OwnZ 0 q lo hi w := fun h => absurd h (Nat.lt_irrefl 0)
theorem OwnZ.of {w : World} {base hi n c : Nat} {q : Option Addr} {xs : List Value} (h : w.ownsRow base 24 4 (.slice q n c) n xs) (hh : w.heap.size ≤ hi) : OwnZ n q base hi w := fun h0 => by
  have hlt := h.lt
  rcases h.2 with ⟨hv, hz⟩ | ⟨g, cap, cur, hv, hb, hg, hc, hm, hs, ht⟩
  · omega
  · simp only [Value.slice.injEq] at hv
    obtain ⟨rfl, _, rfl⟩ := hv
    exact ⟨g, cur, rfl, hb, Nat.lt_of_lt_of_le (hlt g rfl).2 hh, hg, by rw [hs]; exact Nat.mul_le_mul_right 4 hc⟩
theorem OwnZ.set {n lo hi : Nat} {q : Option Addr} {w : World} (h : OwnZ n q lo hi w) (g o : Nat) (vs : List Value) : OwnZ n q lo hi (w.setCells g o vs) := fun h0 => by
  obtain ⟨g', cur, e, a, b, c, d⟩ := h h0
  by_cases hg : g' = g
  · subst hg
    exact ⟨g', _, e, a, b, Bk.setCells vs o c, by rw [putAt_size]; exact d⟩
  · exact ⟨g', cur, e, a, b, Bk.setCells_far hg vs o c, d⟩
theorem OwnZ.keep {n lo hi : Nat} {q : Option Addr} {w w' : World} (h : OwnZ n q lo hi w) (hb : ∀ k, lo ≤ k → k < hi → w'.heap[k]? = w.heap[k]?) : OwnZ n q lo hi w' := fun h0 => by
  obtain ⟨g', cur, e, a, b, c, d⟩ := h h0
  exact ⟨g', cur, e, a, b, (hb g' a b).trans c, d⟩
theorem OwnZ.there {w : World} {g i n : Nat} {cur : Array Value} (h : Bk w g 24 cur) (hs : n * 4 ≤ cur.size) (hi : i < n) : w.there g (i * 4) 4 := Bk.there h (i * 4) 4 (by omega)
/-- Two rows that are overwritten; all else stays. -/
structure ZW (lo hi n1 : Nat) (q1 : Option Addr) (n2 : Nat) (q2 : Option Addr) (w0 w : World) : Prop where
  k : Kept (fun b => lo ≤ b ∧ b < hi) w0 w
  r1 : OwnZ n1 q1 lo hi w
  r2 : OwnZ n2 q2 lo hi w
theorem ZW.set {lo hi n1 n2 : Nat} {q1 q2 : Option Addr} {w0 w : World} (h : ZW lo hi n1 q1 n2 q2 w0 w) {g : Nat} (hg : lo ≤ g ∧ g < hi) (o : Nat) (vs : List Value) : ZW lo hi n1 q1 n2 q2 w0 (w.setCells g o vs) :=
  ⟨Kept.setCells (S := fun b => lo ≤ b ∧ b < hi) (.inl hg) vs o h.k, h.r1.set g o vs, h.r2.set g o vs⟩

/-! ### wants in memory -/
theorem want_rows {r : Res} {args : List VI} {L : List (OI × List KI)} {mid : Nat} {wt : WI} {w : World} (hf : Fair args r L) (h : WantR r.strip mid wt w) : ∃ q1 n1 c1 q2 n2 c2, wt.args = .slice q1 n1 c1 ∧ wt.ask.args = .slice q2 n2 c2 ∧ n1 ≤ args.length ∧ n2 ≤ args.length ∧ OwnZ n1 q1 mid w.heap.size w ∧ OwnZ n2 q2 mid w.heap.size w := by
  cases r with
  | want W l =>
    obtain ⟨a, rfl, ho⟩ := h
    rcases hf with ⟨rfl, t, _, hW⟩ | ⟨rfl, t, _, hW⟩ | ⟨rfl, t, _, hW⟩
    · obtain ⟨q, c, rfl⟩ := own_slice ho
      exact ⟨none, 0, 0, q, _, c, by rw [hW], by rw [hW], Nat.zero_le _, Nat.le_refl _, OwnZ.none _ _ _ _, OwnZ.of ho (Nat.le_refl _)⟩
    · obtain ⟨q, c, rfl⟩ := own_slice ho
      exact ⟨q, _, c, none, 0, 0, by rw [hW], by rw [hW], Nat.le_refl _, Nat.zero_le _, OwnZ.of ho (Nat.le_refl _), OwnZ.none _ _ _ _⟩
    · exact ⟨none, 0, 0, none, 0, 0, by rw [hW], by rw [hW], Nat.zero_le _, Nat.zero_le _, OwnZ.none _ _ _ _, OwnZ.none _ _ _ _⟩
  | out y ks =>
    obtain ⟨_, _, kv, rfl, ho⟩ := h
    exact ⟨none, 0, 0, none, 0, 0, rfl, rfl, Nat.zero_le _, Nat.zero_le _, OwnZ.none _ _ _ _, OwnZ.none _ _ _ _⟩
theorem ask_kd {m : Int} {f th : VI} {args : List VI} {L : List (OI × List KI)} {W : Value → WI} {l : List VI} (h : askR m f th args L = .want W l) (a : Value) : (W a).kd ≠ 7 := by
  cases L with
  | nil => injection h with h1 h2; subst h1; show (1 : Int) ≠ 7; decide
  | cons e r =>
    change onlyR e = _ at h
    unfold onlyR at h
    split at h <;> cases h
theorem step_kd {L : List (OI × List KI)} {k : Nat} {W0 : Value → WI} {l0 : List VI} {c : VI → Res} {W : Value → WI} {l : List VI} (h : stepS L k W0 l0 c = .want W l) (a : Value) (h0 : (W0 a).kd ≠ 7) (hc : ∀ v, c v = .want W l → (W a).kd ≠ 7) : (W a).kd ≠ 7 := by
  unfold stepS at h
  split at h
  · injection h with h1 h2; subst h1; exact h0
  · split at h
    · exact hc _ h
    · cases h
theorem want_kd {kd : Int} {f v pr : VI} {args : List VI} {L : List (OI × List KI)} {W : Value → WI} {l : List VI} (h : taskS kd f v pr args L = .want W l) (a : Value) : (W a).kd ≠ 7 := by
  unfold taskS at h
  split at h
  · unfold startS at h
    split at h
    · exact ask_kd h a
    · cases h
  · split at h
    · unfold makeS at h
      split at h
      · exact ask_kd h a
      · cases h
    · unfold bodyS at h
      refine step_kd h a (show (1 : Int) ≠ 7 by decide) fun b hb => step_kd hb a (show (4 : Int) ≠ 7 by decide) fun c hc => step_kd hc a (show (2 : Int) ≠ 7 by decide) fun d hd => by cases hd
theorem lastW_end {r : Res} {av : Value} (h : ¬ r.isWant) : (lastW r av).kd = 7 := by
  cases r with
  | want W l => exact absurd trivial h
  | out y ks => rfl

/-! ### appends -/
theorem run_append_none {P : Program} {w : World} (base : Nat) (t ty e : TypeId) (i : TypeInfo) (size c : Nat) (ht : P.underlying t = some (.slice e)) (hi : P.info? e = some i)
    (v : Value) (n : Nat) (xs : List Value) (hown : w.ownsRow base e size v n xs) :
    (Builtin.append_ #[t, t] ty #[v, .slice none 0 c]).run P w = .ok v w := by
  rcases hown.2 with ⟨rfl, rfl⟩ | ⟨g, cap, cur, rfl, _, _, hnc, _⟩
  · simp [Builtin.append_, run_underlying ht, sizeOf, typeInfo, hi, Builtin.lenOf, Builtin.firstCells]
  · simp [Builtin.append_, run_underlying ht, sizeOf, typeInfo, hi, Builtin.lenOf, Builtin.firstCells, hnc, storeCells]
theorem grown_refl (w : World) (row : Option Nat) : w.grownBy w row := World.grownBy.refl _ _
theorem wp_append_rd {P : Program} {w : World} {o : Oper} {a : Act} {K : Act → World → Prop} {Q : Exit → Act → World → Prop} {α : Type} {f : α → List Value} {size : Nat} (hf : ∀ x, (f x).length = size) (hone : ∀ x, ∀ u ∈ f x, u.oneCell' = true) (l : List α) (xv : Value) (hr : RdL f size l xv w)
    (s x : Operand) (t : TypeId) (ho : o.op = .call { callee := .builtin .append, args := #[s, x], argTypes := #[t, t] }) (base : Nat) (e : TypeId) (i : TypeInfo) (z : Value) (bytes : Nat) (ht : P.underlying t = some (.slice e)) (hi : P.info? e = some i) (hz : i.zero = some z)
    (hsize : i.size = size) (hby : i.bytes = bytes) (hzs : z.cells.size = size) (hsz : 0 < size) (v : Value) (n : Nat) (xs : List Value) (hs : a.eval s = v) (hx : a.eval x = xv) (hown : w.ownsRow base e size v n xs)
    (h63 : n + l.length ≤ maxLen) (hbytes : (n + l.length) * bytes ≤ 140737488355328) (hbase : base ≤ w.heap.size)
    (h : ∀ v' w', w'.ownsRow base e size v' (n + l.length) (xs ++ l.flatMap f) → w.grownBy w' v.ownBlock → (∀ k, v'.ownBlock = some k → v.ownBlock = some k ∨ w.heap.size ≤ k) → K (a.put o.dst v') w') : o.wp P a w K Q := by
  obtain ⟨pa, c, rfl, h1, h2, h3⟩ := hr
  cases pa with
  | none =>
    have h0 : l = [] := by
      cases l with
      | nil => rfl
      | cons a r => obtain ⟨g, o, e, _⟩ := h3 (by simp); cases e
    subst h0
    have hrun := run_append_none (P := P) (w := w) base t o.type e i size c ht hi v n xs hown
    unfold Oper.wp execOp
    simp only [ho, resolve, invoke, builtin, Sem.run_bind, Sem.run_pure, Result.andThen_ok, List.map_toArray, List.map_cons, List.map_nil, hs, hx, List.length_nil, hrun]
    exact h v w (by simpa using hown) (grown_refl w _) fun k hk => .inl hk
  | some ad =>
    refine wp_append_in (P := P) s x t ho base e i z size bytes ht hi hz hsize hby hzs hsz v n xs hs hown ad l.length c (l.flatMap f) hx (flat_length f size hf l) ?_ (flat_one hone l) h63 hbytes hbase h
    intro j u hj
    have hne : 0 < l.length := by
      cases l with
      | nil => simp at hj
      | cons a r => simp
    obtain ⟨g, o, e, hg, hcl⟩ := h3 hne
    cases e
    exact flat_cells hf hsz hcl j u hj
theorem wpList_append_rd {P : Program} {w : World} {ops : Array Oper} {rest : List Oper} {o : Oper} {a : Act} {Q : Exit → Act → World → Prop} (hgd : o.guard = none) {α : Type} {f : α → List Value} {size : Nat} (hf : ∀ x, (f x).length = size) (hone : ∀ x, ∀ u ∈ f x, u.oneCell' = true) (l : List α) (xv : Value) (hr : RdL f size l xv w)
    (s x : Operand) (t : TypeId) (ho : o.op = .call { callee := .builtin .append, args := #[s, x], argTypes := #[t, t] }) (base : Nat) (e : TypeId) (i : TypeInfo) (z : Value) (bytes : Nat) (ht : P.underlying t = some (.slice e)) (hi : P.info? e = some i) (hz : i.zero = some z)
    (hsize : i.size = size) (hby : i.bytes = bytes) (hzs : z.cells.size = size) (hsz : 0 < size) (v : Value) (n : Nat) (xs : List Value) (hs : a.eval s = v) (hx : a.eval x = xv) (hown : w.ownsRow base e size v n xs)
    (h63 : n + l.length ≤ maxLen) (hbytes : (n + l.length) * bytes ≤ 140737488355328) (hbase : base ≤ w.heap.size)
    (h : ∀ v' w', w'.ownsRow base e size v' (n + l.length) (xs ++ l.flatMap f) → w.grownBy w' v.ownBlock → (∀ k, v'.ownBlock = some k → v.ownBlock = some k ∨ w.heap.size ≤ k) → wpList P ops Q rest (a.put o.dst v') w') : wpList P ops Q (o :: rest) a w :=
  wpList_plain hgd fun _ hK => wp_append_rd hf hone l xv hr s x t ho base e i z bytes ht hi hz hsize hby hzs hsz v n xs hs hx hown h63 hbytes hbase fun v' w' a b c => hK _ _ (h v' w' a b c)

end Go.Proofs.Ytbkjbpefbdoenaa
