/-
  The walk of CallNames.
-/
import Derived.Test.YtbkjbpefbdoenaaMakesPlain
import Derived.Test.YtbkjbpefbdoenaaMakesWalk
namespace Go.Proofs.Ytbkjbpefbdoenaa
open Go.RowKit

def xs1 : List OI := [doneI (nuI 4619567317775286272)]
def xs2 : List OI := [doneI (nuI 4619567317775286272), doneI (thI 20)]
theorem goes0 : Goes [] := fun k h => absurd h (by simp)
theorem goes1 : Goes xs1 := by
  intro k h
  have hk : k < 1 := h
  obtain rfl : k = 0 := by omega
  exact goA0
theorem goes2 : Goes xs2 := by
  intro k h
  have hk : k < 2 := h
  obtain rfl | rfl : k = 0 ∨ k = 1 := by omega
  · exact goA0
  · exact goA1
theorem ok1 : ∀ x ∈ xs1, x.keys = vNil ∧ x.d.ok ∧ 0 ≤ x.v.k := fun x hx => okA x (by simp only [xs1, List.mem_cons, List.not_mem_nil, or_false] at hx; subst hx; simp [xsA])
theorem ok2 : ∀ x ∈ xs2, x.keys = vNil ∧ x.d.ok ∧ 0 ≤ x.v.k := fun x hx => okA x (by simp only [xs2, List.mem_cons, List.not_mem_nil, or_false] at hx; rcases hx with rfl | rfl <;> simp [xsA])
theorem s20_0 : S20 (Lof []) = .want (fun _ => methW (getA (mkI 6) protoK)) [] := rfl
theorem s20_1 : S20 (Lof xs1) = .want (fun _ => madeW (objI (thI 0))) [] := rfl
theorem s20_2 : S20 (Lof xs2) = .want (fun av => callW (mkI 5) (thI 20) av) [nuI 4607182418800017408] := rfl
def cells1 : Array Value := (xs1.flatMap fun x => x.cs.toList).toArray
def cells2 : Array Value := (xs2.flatMap fun x => x.cs.toList).toArray
def fuI (n : Int) : VI := ⟨7, 0, ⟨#[]⟩, n⟩
theorem w_start0 : wrongE [] [nuI 4619567317775286272, VI.zero] = 0 := by kernel_rfl
theorem w_make0 : makeE (fuI 3) (mkI 4) [] = 0 := by kernel_rfl
theorem w_start1 : wrongE [nuI 4620693217682128896] [fuI 3, nuI 4619567317775286272] = 0 := by kernel_rfl
theorem w_make9 : makeE (mkI 3) (fuI 4) [] = 9 := by kernel_rfl
theorem w_body9 : bodyE (fuI 5) (mkI 6) (thI 0) [] = 9 := by kernel_rfl
def many : List VI := List.replicate 65 VI.zero
def manyC : Array Value := (many.flatMap VI.cells).toArray
theorem run_many (W : World) : (Instr.makeSlice 25 (.int .i64 65) (.int .i64 65)).run Try.prog W = .ok (.slice (some ⟨W.heap.size, 0, none⟩) 65 65) (W.alloc (.cells manyC 24)) := by kernel_rfl
theorem okV_many : okV many := fun v hv => by rw [List.eq_of_mem_replicate hv]; decide
theorem w_start4 : wrongE many [nuI 4619567317775286272, VI.zero] = 4 := by kernel_rfl
theorem s_7 : startS (nuI 4619567317775286272) VI.zero [] [] = .out typeI [] := rfl
theorem s_m : makeS (fuI 3) (mkI 4) [] [] = .out typeI [] := rfl
theorem s_x : startS (fuI 3) (nuI 4619567317775286272) [nuI 4620693217682128896] [] = .want (fun av => methW (callA 12 (fuI 3) (nuI 4619567317775286272) av)) [nuI 4620693217682128896] := rfl
theorem s_y : startS (fuI 3) (nuI 4619567317775286272) [nuI 4620693217682128896] [(doneI (nuI 4621256167635550208), [])] = .out (doneI (nuI 4621256167635550208)) [] := rfl
theorem n_y : nextQ (startS (fuI 3) (nuI 4619567317775286272) [nuI 4620693217682128896]) (doneI (nuI 4621256167635550208)) [] (.wait []) = some [(doneI (nuI 4621256167635550208), [])] := by kernel_rfl
theorem numI_any (x : Nat) (w : World) : Calls Try.prog 17 #[.float .f64 x] w fun e w' => e = .returned (nuI x).a ∧ Below w.heap.size w w' := num_any x w
theorem okV_nil : okV [] := fun v hv => by cases hv
theorem okV_one {v : VI} (h : 0 ≤ v.k) : okV [v] := fun u hu => by simp only [List.mem_cons, List.not_mem_nil, or_false] at hu; subst hu; exact h
/-- A task, none of it in blocks of N, all of it from lo on. -/
def TK (S : List (OI × List KI) → Res) (T : Nat) (q : Q) (lo : Nat) (N : Nat → Prop) (w : World) : Prop := ∃ A, TaskW S T q A w ∧ (∀ k, N k → ¬ A k) ∧ ∀ k, A k → lo ≤ k
theorem TK.fresh {S : List (OI × List KI) → Res} {T : Nat} {A : Nat → Prop} {w : World} {lo hi : Nat} (h : TaskW S T .fresh A w) (hl : ∀ k, A k → lo ≤ k) (hh : w.heap.size = hi) : TK S T .fresh lo (fun k => k < lo ∨ hi ≤ k) w :=
  ⟨A, h, fun k hk ha => by have := h.lt k ha; have := hl k ha; omega, hl⟩
theorem TK.kept {S : List (OI × List KI) → Res} {T : Nat} {q : Q} {lo : Nat} {N U : Nat → Prop} {w w' : World} (h : TK S T q lo N w) (hk : Kept U w w') (hd : ∀ k, lo ≤ k → k < w.heap.size → ¬ U k) : TK S T q lo N w' := by
  obtain ⟨A, h1, h2, h3⟩ := h
  exact ⟨A, h1.keep hk.size fun k ha => hk.block k (h1.lt k ha) (hd k (h3 k ha) (h1.lt k ha)), h2, h3⟩
theorem TK.on {S : List (OI × List KI) → Res} {T : Nat} {q : Q} {lo : Nat} {N : Nat → Prop} {w w' : World} (h : TK S T q lo N w) (hb : Below w.heap.size w w') : TK S T q lo N w' :=
  h.kept (Kept.below (S := fun _ => False) hb) fun _ _ _ h => h
def TKR (S : List (OI × List KI) → Res) (T : Nat) (q : Q) (lo : Nat) (N : Nat → Prop) (x : OI) (w : World) (wt : WI) (n : Int) (w' : World) : Prop := match nextQ S x [] q with
  | none => n = 160
  | some L => n = 0 ∧ WantR (S L) 0 wt w' ∧ TK S T ((S L).q L) lo (fun k => (N k ∧ k < w.heap.size) ∨ w'.heap.size ≤ k) w'
theorem tk_next (S : List (OI × List KI) → Res) (T : Nat) (q : Q) (lo : Nat) (N : Nat → Prop) (x : OI) (w : World) (h : TK S T q lo N w) (hlo : lo ≤ w.heap.size) (hq : q.few) (hx : x.d.ok) (h0 : 0 ≤ x.v.k) (hr : x.keys = vNil) : Calls Try.prog 9 #[ptr T, x.a] w fun e w' => ∃ (wt : WI) (n : Int), e = .returned (.tuple #[wt.a, .int .i64 n]) ∧ wt.cs.all (·.oneCell') = true ∧ Kept (fun k => ¬ N k ∧ lo ≤ k) w w' ∧ TKR S T q lo N x w wt n w' := by
  obtain ⟨A, h1, h2, h3⟩ := h
  refine (task_next S T q A x [] w h1 hq hx h0 (by rw [hr]; exact RdL.nil _ _ _)).mono ?_
  rintro e w' ⟨wt, n, he, hone, hc⟩
  refine ⟨wt, n, he, hone, ?_⟩
  unfold TNextC at hc
  unfold TKR
  cases hn : nextQ S x [] q with
  | none =>
    rw [hn] at hc
    exact ⟨Kept.below hc.2.2, hc.1⟩
  | some L =>
    rw [hn] at hc
    obtain ⟨hn0, mid, hm, hw, hk, hT⟩ := hc
    refine ⟨hk.wider fun k _ ha => ⟨fun hN => h2 k hN ha, h3 k ha⟩, hn0, hw.lower (Nat.zero_le _), _, hT, ?_, ?_⟩
    · intro k hN ha
      have := hT.lt k ha
      rcases ha with ha | ha
      · rcases hN with hN | hN
        · exact h2 k hN.1 ha
        · omega
      · omega
    · intro k ha
      rcases ha with ha | ha
      · exact h3 k ha
      · omega
/-- Two tasks apart. -/
theorem TaskW.kept2 {S : List (OI × List KI) → Res} {T : Nat} {q : Q} {A U : Nat → Prop} {w w' : World} (h : TaskW S T q A w) (hk : Kept U w w') (hd : ∀ k, A k → ¬ U k) : TaskW S T q A w' := h.keep hk.size fun k ha => hk.block k (h.lt k ha) (hd k ha)

set_option maxHeartbeats 8000000 in
set_option maxRecDepth 100000 in
theorem task_nil (x : OI) (w : World) : Calls Try.prog 9 #[.pointer none, x.a] w fun e w' => e = .returned (.tuple #[WI.zero.a, .int .i64 1]) ∧ Below w.heap.size w w' := by
  have X := hidB (show Bk ((w.alloc (.cells (x.cs) 36)).alloc (.cells (Try.zeroCells45) 45)) (w.heap.size) 36 (x.cs) from (Bk.new w _ _).alloc _)
  have R := hidB (show Bk ((w.alloc (.cells (x.cs) 36)).alloc (.cells (Try.zeroCells45) 45)) (w.heap.size + 1) 45 (WI.zero.cs) from Bk.new2 w _ _ _)
  have B := hidB (show Below w.heap.size w ((w.alloc (.cells (x.cs) 36)).alloc (.cells (Try.zeroCells45) 45)) from (box_one w _).alloc (by simp) _)
  go_enter Try.func9, Try.ntmps9
  go_upto_region 1 with fail
  generalize hW : ((w.alloc (.cells (x.cs) 36)).alloc (.cells (Try.zeroCells45) 45)) = w1 at *
  clear hW
  go_wp2_with (first | ((with_reducible refine wpId ?_); refine wpList_build_to (by rfl) 45 _ (by rfl) (WI.zero.cs) (by kernel_rfl) ?_) | ((with_reducible refine stId 45 (.tmp 4) (.tmp 8) ?_); refine wpList_store_row (by rfl) 45 (.tmp 4) (.tmp 8) (by rfl) (w.heap.size + 1) (WI.zero.cs) (by rfl) (by rfl) 45 (WI.zero.cs) (by exact R.out) (by kernel_rfl) (by rfl) (by exact WI.one _ rfl rfl rfl rfl) ?_))
  exact bodyPost_ret (v := .tuple #[.agg (WI.zero.cs), .int .i64 1]) (results_row2 Try.results9 _ _ (w.heap.size + 1) 45 (WI.zero.cs) (0, 0) _ rfl (R.out.setRow _) Try.underlying45 rfl (by kernel_rfl)) rfl ⟨rfl, below_setRow B.out (Nat.le_succ _) _⟩
set_option maxHeartbeats 8000000 in
set_option maxRecDepth 100000 in
theorem law_cnames (w : World) : Calls Try.prog 5 #[] w fun e w' => e = .returned (.bool true) ∧ Below w.heap.size w w' := by
  go_enter Try.func5, Try.ntmps5
  have B := hidB (Below.refl w.heap.size w)
  go_wp2_with fail
  refine (body20_any [] vNil w (RdL.nil _ _ _) (fun x hx => by cases hx) goes0 (by decide)).mono ?_; rintro e u1 ⟨wt, rfl, hw, hb⟩
  rw [s20_0] at hw
  obtain ⟨av0, hwt, _⟩ := hw
  subst hwt
  replace B := hidB (B.out.trans (hb.mono B.out.size))
  clear hb
  go_wp2_with fail
  refine (num_any 4619567317775286272 _).mono ?_; rintro e u2 ⟨rfl, hb⟩
  replace B := hidB (B.out.trans (hb.mono B.out.size))
  clear hb
  go_wp2_with fail
  refine (given_any (nuI 4619567317775286272) _).mono ?_; rintro e u3 ⟨rfl, hb⟩
  replace B := hidB (B.out.trans (hb.mono B.out.size))
  clear hb
  have XA := hidB (Bk.new u3 36 cells1)
  have BY := hidB (body20_any xs1 (.slice (some ⟨u3.heap.size, 0, none⟩) 1 1) (u3.alloc (.cells cells1 36)) (rd_bk OI.cells_len XA.out (by show 1 ≤ maxLen; unfold maxLen; decide)) ok1 goes1 (by decide))
  go_wp2_with (first | ((with_reducible refine wpId ?_); refine wpList_mkSlice (by rfl) 26 36 1 26 _ (by rfl) [(0, (doneI (nuI 4619567317775286272)).a)] (by kernel_rfl) (.agg OI.zero.cs) cells1 Try.underlying26 (by kernel_rfl) (by decide) (by decide) (by kernel_rfl) ?_))
  refine BY.out.mono ?_; rintro e u4 ⟨wt, rfl, hw, hb⟩
  rw [s20_1] at hw
  obtain ⟨av, hwt, hown⟩ := hw
  replace B := hidB ((B.out.trans ((box_one u3 (.cells cells1 36)).mono B.out.size)).trans (hb.mono (Nat.le_trans B.out.size (by simp))))
  clear hb BY XA
  subst hwt
  clear hown
  go_wp2_with fail
  refine (num_any 4619567317775286272 _).mono ?_; rintro e u5 ⟨rfl, hb⟩
  replace B := hidB (B.out.trans (hb.mono B.out.size))
  clear hb
  go_wp2_with fail
  refine (given_any (nuI 4619567317775286272) _).mono ?_; rintro e u6 ⟨rfl, hb⟩
  replace B := hidB (B.out.trans (hb.mono B.out.size))
  clear hb
  go_wp2_with fail
  refine (thing_any 20 _).mono ?_; rintro e u7 ⟨rfl, hb⟩
  replace B := hidB (B.out.trans (hb.mono B.out.size))
  clear hb
  go_wp2_with fail
  refine (given_any (thI 20) _).mono ?_; rintro e u8 ⟨rfl, hb⟩
  replace B := hidB (B.out.trans (hb.mono B.out.size))
  clear hb
  have XA := hidB (Bk.new u8 36 cells2)
  have BY := hidB (body20_any xs2 (.slice (some ⟨u8.heap.size, 0, none⟩) 2 2) (u8.alloc (.cells cells2 36)) (rd_bk OI.cells_len XA.out (by show 2 ≤ maxLen; unfold maxLen; decide)) ok2 goes2 (by decide))
  go_wp2_with (first | ((with_reducible refine wpId ?_); refine wpList_mkSlice (by rfl) 26 36 2 26 _ (by rfl) [(0, (doneI (nuI 4619567317775286272)).a), (1, (doneI (thI 20)).a)] (by kernel_rfl) (.agg OI.zero.cs) cells2 Try.underlying26 (by kernel_rfl) (by decide) (by decide) (by kernel_rfl) ?_))
  refine BY.out.mono ?_; rintro e u9 ⟨wt, rfl, hw, hb⟩
  rw [s20_2] at hw
  obtain ⟨av, hwt, hown⟩ := hw
  replace B := hidB ((B.out.trans ((box_one u8 (.cells cells2 36)).mono B.out.size)).trans (hb.mono (Nat.le_trans B.out.size (by simp))))
  clear hb BY XA
  subst hwt
  obtain ⟨q3, c3, hav⟩ := own_slice hown
  subst hav
  clear hown
  have R1 := hidB (show Bk (((u9.alloc (.cells Try.zeroCells45 45)).alloc (.cells Try.zeroCells45 45)).alloc (.cells Try.zeroCells45 45)) (u9.heap.size) 45 WI.zero.cs from ((Bk.new u9 _ _).alloc _).alloc _)
  have R2 := hidB (show Bk ((((u9.alloc (.cells Try.zeroCells45 45)).alloc (.cells Try.zeroCells45 45)).alloc (.cells Try.zeroCells45 45)).setRow (u9.heap.size) (methW (getA (mkI 6) protoK)).cs) (u9.heap.size + 1) 45 WI.zero.cs from ((Bk.new2 u9 _ _ _).alloc _).setRow_far (by omega) _)
  have R3 := hidB (show Bk (((((u9.alloc (.cells Try.zeroCells45 45)).alloc (.cells Try.zeroCells45 45)).alloc (.cells Try.zeroCells45 45)).setRow (u9.heap.size) (methW (getA (mkI 6) protoK)).cs).setRow (u9.heap.size + 1) (madeW (objI (thI 0))).cs) (u9.heap.size + 1 + 1) 45 WI.zero.cs from ((Bk.new3 u9 _ _ _ _).setRow_far (by omega) _).setRow_far (by omega) _)
  go_upto_region 2 with (first | ((with_reducible refine stId 45 (.tmp 1) (.tmp 31) ?_); refine wpList_store_row (by rfl) 45 (.tmp 1) (.tmp 31) (by rfl) (u9.heap.size) ((methW (getA (mkI 6) protoK)).cs) (by rfl) (by rfl) 45 (WI.zero.cs) (by exact R1.out) (by kernel_rfl) (by rfl) (by exact WI.one _ rfl rfl rfl rfl) ?_) | ((with_reducible refine stId 45 (.tmp 2) (.tmp 35) ?_); refine wpList_store_row (by rfl) 45 (.tmp 2) (.tmp 35) (by rfl) (u9.heap.size + 1) ((madeW (objI (thI 0))).cs) (by rfl) (by rfl) 45 (WI.zero.cs) (by exact R2.out) (by kernel_rfl) (by rfl) (by exact WI.one _ rfl rfl rfl rfl) ?_) | ((with_reducible refine stId 45 (.tmp 3) (.tmp 41) ?_); refine wpList_store_row (by rfl) 45 (.tmp 3) (.tmp 41) (by rfl) (u9.heap.size + 1 + 1) ((callW (mkI 5) (thI 20) (.slice q3 1 c3)).cs) (by rfl) (by rfl) 45 (WI.zero.cs) (by exact R3.out) (by kernel_rfl) (by rfl) (by exact WI.one _ rfl rfl rfl rfl) ?_))
  have W1 := hidB (show Bk ((((((u9.alloc (.cells Try.zeroCells45 45)).alloc (.cells Try.zeroCells45 45)).alloc (.cells Try.zeroCells45 45)).setRow (u9.heap.size) (methW (getA (mkI 6) protoK)).cs).setRow (u9.heap.size + 1) (madeW (objI (thI 0))).cs).setRow (u9.heap.size + 1 + 1) (callW (mkI 5) (thI 20) (.slice q3 1 c3)).cs) (u9.heap.size) 45 (methW (getA (mkI 6) protoK)).cs from ((R1.out.setRow _).setRow_far (by omega) _).setRow_far (by omega) _)
  have W2 := hidB (show Bk ((((((u9.alloc (.cells Try.zeroCells45 45)).alloc (.cells Try.zeroCells45 45)).alloc (.cells Try.zeroCells45 45)).setRow (u9.heap.size) (methW (getA (mkI 6) protoK)).cs).setRow (u9.heap.size + 1) (madeW (objI (thI 0))).cs).setRow (u9.heap.size + 1 + 1) (callW (mkI 5) (thI 20) (.slice q3 1 c3)).cs) (u9.heap.size + 1) 45 (madeW (objI (thI 0))).cs from (R2.out.setRow _).setRow_far (by omega) _)
  have W3 := hidB (show Bk ((((((u9.alloc (.cells Try.zeroCells45 45)).alloc (.cells Try.zeroCells45 45)).alloc (.cells Try.zeroCells45 45)).setRow (u9.heap.size) (methW (getA (mkI 6) protoK)).cs).setRow (u9.heap.size + 1) (madeW (objI (thI 0))).cs).setRow (u9.heap.size + 1 + 1) (callW (mkI 5) (thI 20) (.slice q3 1 c3)).cs) (u9.heap.size + 1 + 1) 45 (callW (mkI 5) (thI 20) (.slice q3 1 c3)).cs from R3.out.setRow _)
  replace B := hidB (show Below w.heap.size w ((((((u9.alloc (.cells Try.zeroCells45 45)).alloc (.cells Try.zeroCells45 45)).alloc (.cells Try.zeroCells45 45)).setRow (u9.heap.size) (methW (getA (mkI 6) protoK)).cs).setRow (u9.heap.size + 1) (madeW (objI (thI 0))).cs).setRow (u9.heap.size + 1 + 1) (callW (mkI 5) (thI 20) (.slice q3 1 c3)).cs) from below_setRow (below_setRow (below_setRow (((B.out.alloc B.out.size _).alloc (by have := B.out.size; simp; omega) _).alloc (by have := B.out.size; simp; omega) _) B.out.size _) (by have := B.out.size; omega) _) (by have := B.out.size; omega) _)
  clear R1 R2 R3
  generalize hW : ((((((u9.alloc (.cells Try.zeroCells45 45)).alloc (.cells Try.zeroCells45 45)).alloc (.cells Try.zeroCells45 45)).setRow (u9.heap.size) (methW (getA (mkI 6) protoK)).cs).setRow (u9.heap.size + 1) (madeW (objI (thI 0))).cs).setRow (u9.heap.size + 1 + 1) (callW (mkI 5) (thI 20) (.slice q3 1 c3)).cs) = t1 at *
  clear hW
  generalize hG : u9.heap.size = g1 at *
  clear hG
  have z1 : Try.prog.eqGuardType Try.prog.depth 24 = false := by kernel_rfl
  have V1 : ∀ W : World, (Op.equalIn 10000 24 (thI 0).a (thI 0).a).run Try.prog W = .ok true W := fun W => (equal_val 9998 (thI 0).k (thI 0).k (thI 0).x (thI 0).x (thI 0).s (thI 0).s (thI 0).r (thI 0).r W).trans (by kernel_rfl)
  have V2 : ∀ W : World, (Op.equalIn 10000 24 (mkI 5).a (mkI 5).a).run Try.prog W = .ok true W := fun W => (equal_val 9998 (mkI 5).k (mkI 5).k (mkI 5).x (mkI 5).x (mkI 5).s (mkI 5).s (mkI 5).r (mkI 5).r W).trans (by kernel_rfl)
  have V3 : ∀ W : World, (Op.equalIn 10000 24 (thI 20).a (thI 20).a).run Try.prog W = .ok true W := fun W => (equal_val 9998 (thI 20).k (thI 20).k (thI 20).x (thI 20).x (thI 20).s (thI 20).s (thI 20).r (thI 20).r W).trans (by kernel_rfl)
  have V4 : ∀ W : World, (Op.equalIn 10000 24 (nuI 4619567317775286272).a (nuI 4619567317775286272).a).run Try.prog W = .ok true W := fun W => (equal_val 9998 (nuI 4619567317775286272).k (nuI 4619567317775286272).k (nuI 4619567317775286272).x (nuI 4619567317775286272).x (nuI 4619567317775286272).s (nuI 4619567317775286272).s (nuI 4619567317775286272).r (nuI 4619567317775286272).r W).trans (by kernel_rfl)
  have V5 : ∀ W : World, (Op.equalIn 10000 24 (nuI 4621256167635550208).a (nuI 4621256167635550208).a).run Try.prog W = .ok true W := fun W => (equal_val 9998 (nuI 4621256167635550208).k (nuI 4621256167635550208).k (nuI 4621256167635550208).x (nuI 4621256167635550208).x (nuI 4621256167635550208).s (nuI 4621256167635550208).s (nuI 4621256167635550208).r (nuI 4621256167635550208).r W).trans (by kernel_rfl)
  simp only [Act.put]
  go_cut [4] from 42 to 109 (fun s4 wx => s4 = .bool true ∧ Below w.heap.size w wx)
  case first => as_aux_lemma =>
    refine wp_region_noPanic ?_
    refine wp_region_held_drew (S := fun W => Bk W g1 45 (methW (getA (mkI 6) protoK)).cs ∧ Bk W (g1 + 1) 45 (madeW (objI (thI 0))).cs ∧ Bk W (g1 + 1 + 1) 45 (callW (mkI 5) (thI 20) (.slice q3 1 c3)).cs) (by kernel_rfl) ?_ (fun hHeld => ?_)
    · exact ⟨W1.out.drew, W2.out.drew, W3.out.drew⟩
    replace B := hidB (show Below w.heap.size w t1.drew from B.out.drew)
    generalize hWd : t1.drew = wd at *
    clear hWd
    first | (refine wpAnyH_take (i := 0) (v := undef) (by simp only [List.getElem?_toArray]; exact rfl) (by kernel_rfl) (by kernel_rfl) (by kernel_rfl) (fun _ _ _ h => h) (Or.inr ⟨?_, rfl⟩) (by assumption) ?_; (rfl); try simp only [Act.put, List.setIfInBounds_toArray, List.set_cons_zero, List.set_cons_succ]) | (refine wpAnyH_take (i := 0) (v := ?_) (by simp only [List.getElem?_toArray]; exact rfl) (by kernel_rfl) (by kernel_rfl) (by kernel_rfl) (fun _ _ _ h => h) (Or.inl ⟨?_, ?_⟩) (by assumption) ?_; rotate_left; (rfl); (focus (intro w hSw; (try dsimp only at hSw); go_simp; try with_reducible rfl)); try simp only [Act.put, List.setIfInBounds_toArray, List.set_cons_zero, List.set_cons_succ])
    first | (refine wpAnyH_take (i := 1) (v := undef) (by simp only [List.getElem?_toArray]; exact rfl) (by kernel_rfl) (by kernel_rfl) (by kernel_rfl) (fun _ _ _ h => h) (Or.inr ⟨?_, rfl⟩) (by assumption) ?_; (rfl); try simp only [Act.put, List.setIfInBounds_toArray, List.set_cons_zero, List.set_cons_succ]) | (refine wpAnyH_take (i := 1) (v := ?_) (by simp only [List.getElem?_toArray]; exact rfl) (by kernel_rfl) (by kernel_rfl) (by kernel_rfl) (fun _ _ _ h => h) (Or.inl ⟨?_, ?_⟩) (by assumption) ?_; rotate_left; (rfl); (focus (intro W hSw; have hc0 := (show W.cell? ⟨g1, 0, none⟩ = some (.int .u8 1) from hSw.1.cell 0); clear hSw; go_simp; try with_reducible rfl)); try simp only [Act.put, List.setIfInBounds_toArray, List.set_cons_zero, List.set_cons_succ])
    first | (refine wpAnyH_take (i := 2) (v := undef) (by simp only [List.getElem?_toArray]; exact rfl) (by kernel_rfl) (by kernel_rfl) (by kernel_rfl) (fun _ _ _ h => h) (Or.inr ⟨?_, rfl⟩) (by assumption) ?_; (rfl); try simp only [Act.put, List.setIfInBounds_toArray, List.set_cons_zero, List.set_cons_succ]) | (refine wpAnyH_take (i := 2) (v := ?_) (by simp only [List.getElem?_toArray]; exact rfl) (by kernel_rfl) (by kernel_rfl) (by kernel_rfl) (fun _ _ _ h => h) (Or.inl ⟨?_, ?_⟩) (by assumption) ?_; rotate_left; (rfl); (focus (intro w hSw; (try dsimp only at hSw); go_simp; try with_reducible rfl)); try simp only [Act.put, List.setIfInBounds_toArray, List.set_cons_zero, List.set_cons_succ])
    first | (refine wpAnyH_take (i := 3) (v := undef) (by simp only [List.getElem?_toArray]; exact rfl) (by kernel_rfl) (by kernel_rfl) (by kernel_rfl) (fun _ _ _ h => h) (Or.inr ⟨?_, rfl⟩) (by assumption) ?_; (rfl); try simp only [Act.put, List.setIfInBounds_toArray, List.set_cons_zero, List.set_cons_succ]) | (refine wpAnyH_take (i := 3) (v := ?_) (by simp only [List.getElem?_toArray]; exact rfl) (by kernel_rfl) (by kernel_rfl) (by kernel_rfl) (fun _ _ _ h => h) (Or.inl ⟨?_, ?_⟩) (by assumption) ?_; rotate_left; (rfl); (focus (intro w hSw; (try dsimp only at hSw); go_simp; try with_reducible rfl)); try simp only [Act.put, List.setIfInBounds_toArray, List.set_cons_zero, List.set_cons_succ])
    first | (refine wpAnyH_take (i := 4) (v := undef) (by simp only [List.getElem?_toArray]; exact rfl) (by kernel_rfl) (by kernel_rfl) (by kernel_rfl) (fun _ _ _ h => h) (Or.inr ⟨?_, rfl⟩) (by assumption) ?_; (rfl); try simp only [Act.put, List.setIfInBounds_toArray, List.set_cons_zero, List.set_cons_succ]) | (refine wpAnyH_take (i := 4) (v := ?_) (by simp only [List.getElem?_toArray]; exact rfl) (by kernel_rfl) (by kernel_rfl) (by kernel_rfl) (fun _ _ _ h => h) (Or.inl ⟨?_, ?_⟩) (by assumption) ?_; rotate_left; (rfl); (focus (intro w hSw; (try dsimp only at hSw); go_simp; try with_reducible rfl)); try simp only [Act.put, List.setIfInBounds_toArray, List.set_cons_zero, List.set_cons_succ])
    first | (refine wpAnyH_take (i := 5) (v := undef) (by simp only [List.getElem?_toArray]; exact rfl) (by kernel_rfl) (by kernel_rfl) (by kernel_rfl) (fun _ _ _ h => h) (Or.inr ⟨?_, rfl⟩) (by assumption) ?_; (rfl); try simp only [Act.put, List.setIfInBounds_toArray, List.set_cons_zero, List.set_cons_succ]) | (refine wpAnyH_take (i := 5) (v := ?_) (by simp only [List.getElem?_toArray]; exact rfl) (by kernel_rfl) (by kernel_rfl) (by kernel_rfl) (fun _ _ _ h => h) (Or.inl ⟨?_, ?_⟩) (by assumption) ?_; rotate_left; (rfl); (focus (intro w hSw; (try dsimp only at hSw); go_simp; try with_reducible rfl)); try simp only [Act.put, List.setIfInBounds_toArray, List.set_cons_zero, List.set_cons_succ])
    first | (refine wpAnyH_take (i := 6) (v := undef) (by simp only [List.getElem?_toArray]; exact rfl) (by kernel_rfl) (by kernel_rfl) (by kernel_rfl) (fun _ _ _ h => h) (Or.inr ⟨?_, rfl⟩) (by assumption) ?_; (rfl); try simp only [Act.put, List.setIfInBounds_toArray, List.set_cons_zero, List.set_cons_succ]) | (refine wpAnyH_take (i := 6) (v := ?_) (by simp only [List.getElem?_toArray]; exact rfl) (by kernel_rfl) (by kernel_rfl) (by kernel_rfl) (fun _ _ _ h => h) (Or.inl ⟨?_, ?_⟩) (by assumption) ?_; rotate_left; (rfl); (focus (intro W hSw; have hc0 := (show W.cell? ⟨g1, 1, none⟩ = some (.int .u8 8) from hSw.1.cell 1); clear hSw; go_simp; try with_reducible rfl)); try simp only [Act.put, List.setIfInBounds_toArray, List.set_cons_zero, List.set_cons_succ])
    first | (refine wpAnyH_take (i := 7) (v := undef) (by simp only [List.getElem?_toArray]; exact rfl) (by kernel_rfl) (by kernel_rfl) (by kernel_rfl) (fun _ _ _ h => h) (Or.inr ⟨?_, rfl⟩) (by assumption) ?_; (rfl); try simp only [Act.put, List.setIfInBounds_toArray, List.set_cons_zero, List.set_cons_succ]) | (refine wpAnyH_take (i := 7) (v := ?_) (by simp only [List.getElem?_toArray]; exact rfl) (by kernel_rfl) (by kernel_rfl) (by kernel_rfl) (fun _ _ _ h => h) (Or.inl ⟨?_, ?_⟩) (by assumption) ?_; rotate_left; (rfl); (focus (intro w hSw; (try dsimp only at hSw); go_simp; try with_reducible rfl)); try simp only [Act.put, List.setIfInBounds_toArray, List.set_cons_zero, List.set_cons_succ])
    first | (refine wpAnyH_take (i := 8) (v := undef) (by simp only [List.getElem?_toArray]; exact rfl) (by kernel_rfl) (by kernel_rfl) (by kernel_rfl) (fun _ _ _ h => h) (Or.inr ⟨?_, rfl⟩) (by assumption) ?_; (rfl); try simp only [Act.put, List.setIfInBounds_toArray, List.set_cons_zero, List.set_cons_succ]) | (refine wpAnyH_take (i := 8) (v := ?_) (by simp only [List.getElem?_toArray]; exact rfl) (by kernel_rfl) (by kernel_rfl) (by kernel_rfl) (fun _ _ _ h => h) (Or.inl ⟨?_, ?_⟩) (by assumption) ?_; rotate_left; (rfl); (focus (intro w hSw; (try dsimp only at hSw); go_simp; try with_reducible rfl)); try simp only [Act.put, List.setIfInBounds_toArray, List.set_cons_zero, List.set_cons_succ])
    first | (refine wpAnyH_take (i := 9) (v := undef) (by simp only [List.getElem?_toArray]; exact rfl) (by kernel_rfl) (by kernel_rfl) (by kernel_rfl) (fun _ _ _ h => h) (Or.inr ⟨?_, rfl⟩) (by assumption) ?_; (rfl); try simp only [Act.put, List.setIfInBounds_toArray, List.set_cons_zero, List.set_cons_succ]) | (refine wpAnyH_take (i := 9) (v := ?_) (by simp only [List.getElem?_toArray]; exact rfl) (by kernel_rfl) (by kernel_rfl) (by kernel_rfl) (fun _ _ _ h => h) (Or.inl ⟨?_, ?_⟩) (by assumption) ?_; rotate_left; (rfl); (focus (intro w hSw; (try dsimp only at hSw); go_simp; try with_reducible rfl)); try simp only [Act.put, List.setIfInBounds_toArray, List.set_cons_zero, List.set_cons_succ])
    first | (refine wpAnyH_take (i := 10) (v := undef) (by simp only [List.getElem?_toArray]; exact rfl) (by kernel_rfl) (by kernel_rfl) (by kernel_rfl) (fun _ _ _ h => h) (Or.inr ⟨?_, rfl⟩) (by assumption) ?_; (rfl); try simp only [Act.put, List.setIfInBounds_toArray, List.set_cons_zero, List.set_cons_succ]) | (refine wpAnyH_take (i := 10) (v := ?_) (by simp only [List.getElem?_toArray]; exact rfl) (by kernel_rfl) (by kernel_rfl) (by kernel_rfl) (fun _ _ _ h => h) (Or.inl ⟨?_, ?_⟩) (by assumption) ?_; rotate_left; (rfl); (focus (intro w hSw; (try dsimp only at hSw); go_simp; try with_reducible rfl)); try simp only [Act.put, List.setIfInBounds_toArray, List.set_cons_zero, List.set_cons_succ])
    first | (refine wpAnyH_take (i := 11) (v := undef) (by simp only [List.getElem?_toArray]; exact rfl) (by kernel_rfl) (by kernel_rfl) (by kernel_rfl) (fun _ _ _ h => h) (Or.inr ⟨?_, rfl⟩) (by assumption) ?_; (rfl); try simp only [Act.put, List.setIfInBounds_toArray, List.set_cons_zero, List.set_cons_succ]) | (refine wpAnyH_take (i := 11) (v := ?_) (by simp only [List.getElem?_toArray]; exact rfl) (by kernel_rfl) (by kernel_rfl) (by kernel_rfl) (fun _ _ _ h => h) (Or.inl ⟨?_, ?_⟩) (by assumption) ?_; rotate_left; (rfl); (focus (intro w hSw; (try dsimp only at hSw); go_simp; try with_reducible rfl)); try simp only [Act.put, List.setIfInBounds_toArray, List.set_cons_zero, List.set_cons_succ])
    first | (refine wpAnyH_take (i := 12) (v := undef) (by simp only [List.getElem?_toArray]; exact rfl) (by kernel_rfl) (by kernel_rfl) (by kernel_rfl) (fun _ _ _ h => h) (Or.inr ⟨?_, rfl⟩) (by assumption) ?_; (rfl); try simp only [Act.put, List.setIfInBounds_toArray, List.set_cons_zero, List.set_cons_succ]) | (refine wpAnyH_take (i := 12) (v := ?_) (by simp only [List.getElem?_toArray]; exact rfl) (by kernel_rfl) (by kernel_rfl) (by kernel_rfl) (fun _ _ _ h => h) (Or.inl ⟨?_, ?_⟩) (by assumption) ?_; rotate_left; (rfl); (focus (intro W hSw; have hc0 := (show W.cell? ⟨g1, 2, none⟩ = some (.int .i64 6) from hSw.1.cell 2); clear hSw; go_simp; try with_reducible rfl)); try simp only [Act.put, List.setIfInBounds_toArray, List.set_cons_zero, List.set_cons_succ])
    first | (refine wpAnyH_take (i := 13) (v := undef) (by simp only [List.getElem?_toArray]; exact rfl) (by kernel_rfl) (by kernel_rfl) (by kernel_rfl) (fun _ _ _ h => h) (Or.inr ⟨?_, rfl⟩) (by assumption) ?_; (rfl); try simp only [Act.put, List.setIfInBounds_toArray, List.set_cons_zero, List.set_cons_succ]) | (refine wpAnyH_take (i := 13) (v := ?_) (by simp only [List.getElem?_toArray]; exact rfl) (by kernel_rfl) (by kernel_rfl) (by kernel_rfl) (fun _ _ _ h => h) (Or.inl ⟨?_, ?_⟩) (by assumption) ?_; rotate_left; (rfl); (focus (intro w hSw; (try dsimp only at hSw); go_simp; try with_reducible rfl)); try simp only [Act.put, List.setIfInBounds_toArray, List.set_cons_zero, List.set_cons_succ])
    first | (refine wpAnyH_take (i := 14) (v := undef) (by simp only [List.getElem?_toArray]; exact rfl) (by kernel_rfl) (by kernel_rfl) (by kernel_rfl) (fun _ _ _ h => h) (Or.inr ⟨?_, rfl⟩) (by assumption) ?_; (rfl); try simp only [Act.put, List.setIfInBounds_toArray, List.set_cons_zero, List.set_cons_succ]) | (refine wpAnyH_take (i := 14) (v := ?_) (by simp only [List.getElem?_toArray]; exact rfl) (by kernel_rfl) (by kernel_rfl) (by kernel_rfl) (fun _ _ _ h => h) (Or.inl ⟨?_, ?_⟩) (by assumption) ?_; rotate_left; (rfl); (focus (intro w hSw; (try dsimp only at hSw); go_simp; try with_reducible rfl)); try simp only [Act.put, List.setIfInBounds_toArray, List.set_cons_zero, List.set_cons_succ])
    first | (refine wpAnyH_take (i := 15) (v := undef) (by simp only [List.getElem?_toArray]; exact rfl) (by kernel_rfl) (by kernel_rfl) (by kernel_rfl) (fun _ _ _ h => h) (Or.inr ⟨?_, rfl⟩) (by assumption) ?_; (rfl); try simp only [Act.put, List.setIfInBounds_toArray, List.set_cons_zero, List.set_cons_succ]) | (refine wpAnyH_take (i := 15) (v := ?_) (by simp only [List.getElem?_toArray]; exact rfl) (by kernel_rfl) (by kernel_rfl) (by kernel_rfl) (fun _ _ _ h => h) (Or.inl ⟨?_, ?_⟩) (by assumption) ?_; rotate_left; (rfl); (focus (intro w hSw; (try dsimp only at hSw); go_simp; try with_reducible rfl)); try simp only [Act.put, List.setIfInBounds_toArray, List.set_cons_zero, List.set_cons_succ])
    first | (refine wpAnyH_take (i := 16) (v := undef) (by simp only [List.getElem?_toArray]; exact rfl) (by kernel_rfl) (by kernel_rfl) (by kernel_rfl) (fun _ _ _ h => h) (Or.inr ⟨?_, rfl⟩) (by assumption) ?_; (rfl); try simp only [Act.put, List.setIfInBounds_toArray, List.set_cons_zero, List.set_cons_succ]) | (refine wpAnyH_take (i := 16) (v := ?_) (by simp only [List.getElem?_toArray]; exact rfl) (by kernel_rfl) (by kernel_rfl) (by kernel_rfl) (fun _ _ _ h => h) (Or.inl ⟨?_, ?_⟩) (by assumption) ?_; rotate_left; (rfl); (focus (intro w hSw; (try dsimp only at hSw); go_simp; try with_reducible rfl)); try simp only [Act.put, List.setIfInBounds_toArray, List.set_cons_zero, List.set_cons_succ])
    first | (refine wpAnyH_take (i := 17) (v := undef) (by simp only [List.getElem?_toArray]; exact rfl) (by kernel_rfl) (by kernel_rfl) (by kernel_rfl) (fun _ _ _ h => h) (Or.inr ⟨?_, rfl⟩) (by assumption) ?_; (rfl); try simp only [Act.put, List.setIfInBounds_toArray, List.set_cons_zero, List.set_cons_succ]) | (refine wpAnyH_take (i := 17) (v := ?_) (by simp only [List.getElem?_toArray]; exact rfl) (by kernel_rfl) (by kernel_rfl) (by kernel_rfl) (fun _ _ _ h => h) (Or.inl ⟨?_, ?_⟩) (by assumption) ?_; rotate_left; (rfl); (focus (intro w hSw; (try dsimp only at hSw); go_simp; try with_reducible rfl)); try simp only [Act.put, List.setIfInBounds_toArray, List.set_cons_zero, List.set_cons_succ])
    first | (refine wpAnyH_take (i := 18) (v := undef) (by simp only [List.getElem?_toArray]; exact rfl) (by kernel_rfl) (by kernel_rfl) (by kernel_rfl) (fun _ _ _ h => h) (Or.inr ⟨?_, rfl⟩) (by assumption) ?_; (rfl); try simp only [Act.put, List.setIfInBounds_toArray, List.set_cons_zero, List.set_cons_succ]) | (refine wpAnyH_take (i := 18) (v := ?_) (by simp only [List.getElem?_toArray]; exact rfl) (by kernel_rfl) (by kernel_rfl) (by kernel_rfl) (fun _ _ _ h => h) (Or.inl ⟨?_, ?_⟩) (by assumption) ?_; rotate_left; (rfl); (focus (intro w hSw; (try dsimp only at hSw); go_simp; try with_reducible rfl)); try simp only [Act.put, List.setIfInBounds_toArray, List.set_cons_zero, List.set_cons_succ])
    first | (refine wpAnyH_take (i := 19) (v := undef) (by simp only [List.getElem?_toArray]; exact rfl) (by kernel_rfl) (by kernel_rfl) (by kernel_rfl) (fun _ _ _ h => h) (Or.inr ⟨?_, rfl⟩) (by assumption) ?_; (rfl); try simp only [Act.put, List.setIfInBounds_toArray, List.set_cons_zero, List.set_cons_succ]) | (refine wpAnyH_take (i := 19) (v := ?_) (by simp only [List.getElem?_toArray]; exact rfl) (by kernel_rfl) (by kernel_rfl) (by kernel_rfl) (fun _ _ _ h => h) (Or.inl ⟨?_, ?_⟩) (by assumption) ?_; rotate_left; (rfl); (focus (intro W hSw; have hc0 := (show W.cell? ⟨g1, 3, none⟩ = some (.string ⟨#[112, 114, 111, 116, 111, 116, 121, 112, 101]⟩) from hSw.1.cell 3); clear hSw; go_simp; try with_reducible rfl)); try simp only [Act.put, List.setIfInBounds_toArray, List.set_cons_zero, List.set_cons_succ])
    first | (refine wpAnyH_take (i := 20) (v := undef) (by simp only [List.getElem?_toArray]; exact rfl) (by kernel_rfl) (by kernel_rfl) (by kernel_rfl) (fun _ _ _ h => h) (Or.inr ⟨?_, rfl⟩) (by assumption) ?_; (rfl); try simp only [Act.put, List.setIfInBounds_toArray, List.set_cons_zero, List.set_cons_succ]) | (refine wpAnyH_take (i := 20) (v := ?_) (by simp only [List.getElem?_toArray]; exact rfl) (by kernel_rfl) (by kernel_rfl) (by kernel_rfl) (fun _ _ _ h => h) (Or.inl ⟨?_, ?_⟩) (by assumption) ?_; rotate_left; (rfl); (focus (intro w hSw; (try dsimp only at hSw); go_simp; try with_reducible rfl)); try simp only [Act.put, List.setIfInBounds_toArray, List.set_cons_zero, List.set_cons_succ])
    first | (refine wpAnyH_take (i := 21) (v := undef) (by simp only [List.getElem?_toArray]; exact rfl) (by kernel_rfl) (by kernel_rfl) (by kernel_rfl) (fun _ _ _ h => h) (Or.inr ⟨?_, rfl⟩) (by assumption) ?_; (rfl); try simp only [Act.put, List.setIfInBounds_toArray, List.set_cons_zero, List.set_cons_succ]) | (refine wpAnyH_take (i := 21) (v := ?_) (by simp only [List.getElem?_toArray]; exact rfl) (by kernel_rfl) (by kernel_rfl) (by kernel_rfl) (fun _ _ _ h => h) (Or.inl ⟨?_, ?_⟩) (by assumption) ?_; rotate_left; (rfl); (focus (intro w hSw; (try dsimp only at hSw); go_simp; try with_reducible rfl)); try simp only [Act.put, List.setIfInBounds_toArray, List.set_cons_zero, List.set_cons_succ])
    first | (refine wpAnyH_take (i := 22) (v := undef) (by simp only [List.getElem?_toArray]; exact rfl) (by kernel_rfl) (by kernel_rfl) (by kernel_rfl) (fun _ _ _ h => h) (Or.inr ⟨?_, rfl⟩) (by assumption) ?_; (rfl); try simp only [Act.put, List.setIfInBounds_toArray, List.set_cons_zero, List.set_cons_succ]) | (refine wpAnyH_take (i := 22) (v := ?_) (by simp only [List.getElem?_toArray]; exact rfl) (by kernel_rfl) (by kernel_rfl) (by kernel_rfl) (fun _ _ _ h => h) (Or.inl ⟨?_, ?_⟩) (by assumption) ?_; rotate_left; (rfl); (focus (intro w hSw; (try dsimp only at hSw); go_simp; try with_reducible rfl)); try simp only [Act.put, List.setIfInBounds_toArray, List.set_cons_zero, List.set_cons_succ])
    first | (refine wpAnyH_take (i := 23) (v := undef) (by simp only [List.getElem?_toArray]; exact rfl) (by kernel_rfl) (by kernel_rfl) (by kernel_rfl) (fun _ _ _ h => h) (Or.inr ⟨?_, rfl⟩) (by assumption) ?_; (rfl); try simp only [Act.put, List.setIfInBounds_toArray, List.set_cons_zero, List.set_cons_succ]) | (refine wpAnyH_take (i := 23) (v := ?_) (by simp only [List.getElem?_toArray]; exact rfl) (by kernel_rfl) (by kernel_rfl) (by kernel_rfl) (fun _ _ _ h => h) (Or.inl ⟨?_, ?_⟩) (by assumption) ?_; rotate_left; (rfl); (focus (intro w hSw; (try dsimp only at hSw); go_simp; try with_reducible rfl)); try simp only [Act.put, List.setIfInBounds_toArray, List.set_cons_zero, List.set_cons_succ])
    first | (refine wpAnyH_take (i := 24) (v := undef) (by simp only [List.getElem?_toArray]; exact rfl) (by kernel_rfl) (by kernel_rfl) (by kernel_rfl) (fun _ _ _ h => h) (Or.inr ⟨?_, rfl⟩) (by assumption) ?_; (rfl); try simp only [Act.put, List.setIfInBounds_toArray, List.set_cons_zero, List.set_cons_succ]) | (refine wpAnyH_take (i := 24) (v := ?_) (by simp only [List.getElem?_toArray]; exact rfl) (by kernel_rfl) (by kernel_rfl) (by kernel_rfl) (fun _ _ _ h => h) (Or.inl ⟨?_, ?_⟩) (by assumption) ?_; rotate_left; (rfl); (focus (intro W hSw; have hc0 := (show W.cell? ⟨g1 + 1, 0, none⟩ = some (.int .u8 4) from hSw.2.1.cell 0); clear hSw; go_simp; try with_reducible rfl)); try simp only [Act.put, List.setIfInBounds_toArray, List.set_cons_zero, List.set_cons_succ])
    first | (refine wpAnyH_take (i := 25) (v := undef) (by simp only [List.getElem?_toArray]; exact rfl) (by kernel_rfl) (by kernel_rfl) (by kernel_rfl) (fun _ _ _ h => h) (Or.inr ⟨?_, rfl⟩) (by assumption) ?_; (rfl); try simp only [Act.put, List.setIfInBounds_toArray, List.set_cons_zero, List.set_cons_succ]) | (refine wpAnyH_take (i := 25) (v := ?_) (by simp only [List.getElem?_toArray]; exact rfl) (by kernel_rfl) (by kernel_rfl) (by kernel_rfl) (fun _ _ _ h => h) (Or.inl ⟨?_, ?_⟩) (by assumption) ?_; rotate_left; (rfl); (focus (intro w hSw; (try dsimp only at hSw); go_simp; try with_reducible rfl)); try simp only [Act.put, List.setIfInBounds_toArray, List.set_cons_zero, List.set_cons_succ])
    first | (refine wpAnyH_take (i := 26) (v := undef) (by simp only [List.getElem?_toArray]; exact rfl) (by kernel_rfl) (by kernel_rfl) (by kernel_rfl) (fun _ _ _ h => h) (Or.inr ⟨?_, rfl⟩) (by assumption) ?_; (rfl); try simp only [Act.put, List.setIfInBounds_toArray, List.set_cons_zero, List.set_cons_succ]) | (refine wpAnyH_take (i := 26) (v := ?_) (by simp only [List.getElem?_toArray]; exact rfl) (by kernel_rfl) (by kernel_rfl) (by kernel_rfl) (fun _ _ _ h => h) (Or.inl ⟨?_, ?_⟩) (by assumption) ?_; rotate_left; (rfl); (focus (intro w hSw; (try dsimp only at hSw); go_simp; try with_reducible rfl)); try simp only [Act.put, List.setIfInBounds_toArray, List.set_cons_zero, List.set_cons_succ])
    first | (refine wpAnyH_take (i := 27) (v := undef) (by simp only [List.getElem?_toArray]; exact rfl) (by kernel_rfl) (by kernel_rfl) (by kernel_rfl) (fun _ _ _ h => h) (Or.inr ⟨?_, rfl⟩) (by assumption) ?_; (rfl); try simp only [Act.put, List.setIfInBounds_toArray, List.set_cons_zero, List.set_cons_succ]) | (refine wpAnyH_take (i := 27) (v := ?_) (by simp only [List.getElem?_toArray]; exact rfl) (by kernel_rfl) (by kernel_rfl) (by kernel_rfl) (fun _ _ _ h => h) (Or.inl ⟨?_, ?_⟩) (by assumption) ?_; rotate_left; (rfl); (focus (intro w hSw; (try dsimp only at hSw); go_simp; try with_reducible rfl)); try simp only [Act.put, List.setIfInBounds_toArray, List.set_cons_zero, List.set_cons_succ])
    first | (refine wpAnyH_take (i := 28) (v := undef) (by simp only [List.getElem?_toArray]; exact rfl) (by kernel_rfl) (by kernel_rfl) (by kernel_rfl) (fun _ _ _ h => h) (Or.inr ⟨?_, rfl⟩) (by assumption) ?_; (rfl); try simp only [Act.put, List.setIfInBounds_toArray, List.set_cons_zero, List.set_cons_succ]) | (refine wpAnyH_take (i := 28) (v := ?_) (by simp only [List.getElem?_toArray]; exact rfl) (by kernel_rfl) (by kernel_rfl) (by kernel_rfl) (fun _ _ _ h => h) (Or.inl ⟨?_, ?_⟩) (by assumption) ?_; rotate_left; (rfl); (focus (intro w hSw; (try dsimp only at hSw); go_simp; try with_reducible rfl)); try simp only [Act.put, List.setIfInBounds_toArray, List.set_cons_zero, List.set_cons_succ])
    first | (refine wpAnyH_take (i := 29) (v := undef) (by simp only [List.getElem?_toArray]; exact rfl) (by kernel_rfl) (by kernel_rfl) (by kernel_rfl) (fun _ _ _ h => h) (Or.inr ⟨?_, rfl⟩) (by assumption) ?_; (rfl); try simp only [Act.put, List.setIfInBounds_toArray, List.set_cons_zero, List.set_cons_succ]) | (refine wpAnyH_take (i := 29) (v := ?_) (by simp only [List.getElem?_toArray]; exact rfl) (by kernel_rfl) (by kernel_rfl) (by kernel_rfl) (fun _ _ _ h => h) (Or.inl ⟨?_, ?_⟩) (by assumption) ?_; rotate_left; (rfl); (focus (intro w hSw; (try dsimp only at hSw); go_simp; try with_reducible rfl)); try simp only [Act.put, List.setIfInBounds_toArray, List.set_cons_zero, List.set_cons_succ])
    first | (refine wpAnyH_take (i := 30) (v := undef) (by simp only [List.getElem?_toArray]; exact rfl) (by kernel_rfl) (by kernel_rfl) (by kernel_rfl) (fun _ _ _ h => h) (Or.inr ⟨?_, rfl⟩) (by assumption) ?_; (rfl); try simp only [Act.put, List.setIfInBounds_toArray, List.set_cons_zero, List.set_cons_succ]) | (refine wpAnyH_take (i := 30) (v := ?_) (by simp only [List.getElem?_toArray]; exact rfl) (by kernel_rfl) (by kernel_rfl) (by kernel_rfl) (fun _ _ _ h => h) (Or.inl ⟨?_, ?_⟩) (by assumption) ?_; rotate_left; (rfl); (focus (intro W hSw; have hc0 := (show W.cell? ⟨g1 + 1, 43, none⟩ = some (.int .u8 1) from hSw.2.1.cell 43); clear hSw; go_simp; try with_reducible rfl)); try simp only [Act.put, List.setIfInBounds_toArray, List.set_cons_zero, List.set_cons_succ])
    first | (refine wpAnyH_take (i := 31) (v := undef) (by simp only [List.getElem?_toArray]; exact rfl) (by kernel_rfl) (by kernel_rfl) (by kernel_rfl) (fun _ _ _ h => h) (Or.inr ⟨?_, rfl⟩) (by assumption) ?_; (rfl); try simp only [Act.put, List.setIfInBounds_toArray, List.set_cons_zero, List.set_cons_succ]) | (refine wpAnyH_take (i := 31) (v := ?_) (by simp only [List.getElem?_toArray]; exact rfl) (by kernel_rfl) (by kernel_rfl) (by kernel_rfl) (fun _ _ _ h => h) (Or.inl ⟨?_, ?_⟩) (by assumption) ?_; rotate_left; (rfl); (focus (intro w hSw; (try dsimp only at hSw); go_simp; try with_reducible rfl)); try simp only [Act.put, List.setIfInBounds_toArray, List.set_cons_zero, List.set_cons_succ])
    first | (refine wpAnyH_take (i := 32) (v := undef) (by simp only [List.getElem?_toArray]; exact rfl) (by kernel_rfl) (by kernel_rfl) (by kernel_rfl) (fun _ _ _ h => h) (Or.inr ⟨?_, rfl⟩) (by assumption) ?_; (rfl); try simp only [Act.put, List.setIfInBounds_toArray, List.set_cons_zero, List.set_cons_succ]) | (refine wpAnyH_take (i := 32) (v := ?_) (by simp only [List.getElem?_toArray]; exact rfl) (by kernel_rfl) (by kernel_rfl) (by kernel_rfl) (fun _ _ _ h => h) (Or.inl ⟨?_, ?_⟩) (by assumption) ?_; rotate_left; (rfl); (focus (intro w hSw; (try dsimp only at hSw); go_simp; try with_reducible rfl)); try simp only [Act.put, List.setIfInBounds_toArray, List.set_cons_zero, List.set_cons_succ])
    first | (refine wpAnyH_take (i := 33) (v := undef) (by simp only [List.getElem?_toArray]; exact rfl) (by kernel_rfl) (by kernel_rfl) (by kernel_rfl) (fun _ _ _ h => h) (Or.inr ⟨?_, rfl⟩) (by assumption) ?_; (rfl); try simp only [Act.put, List.setIfInBounds_toArray, List.set_cons_zero, List.set_cons_succ]) | (refine wpAnyH_take (i := 33) (v := ?_) (by simp only [List.getElem?_toArray]; exact rfl) (by kernel_rfl) (by kernel_rfl) (by kernel_rfl) (fun _ _ _ h => h) (Or.inl ⟨?_, ?_⟩) (by assumption) ?_; rotate_left; (rfl); (focus (intro w hSw; (try dsimp only at hSw); go_simp; try with_reducible rfl)); try simp only [Act.put, List.setIfInBounds_toArray, List.set_cons_zero, List.set_cons_succ])
    first | (refine wpAnyH_take (i := 34) (v := undef) (by simp only [List.getElem?_toArray]; exact rfl) (by kernel_rfl) (by kernel_rfl) (by kernel_rfl) (fun _ _ _ h => h) (Or.inr ⟨?_, rfl⟩) (by assumption) ?_; (rfl); try simp only [Act.put, List.setIfInBounds_toArray, List.set_cons_zero, List.set_cons_succ]) | (refine wpAnyH_take (i := 34) (v := ?_) (by simp only [List.getElem?_toArray]; exact rfl) (by kernel_rfl) (by kernel_rfl) (by kernel_rfl) (fun _ _ _ h => h) (Or.inl ⟨?_, ?_⟩) (by assumption) ?_; rotate_left; (rfl); (focus (intro w hSw; (try dsimp only at hSw); go_simp; try with_reducible rfl)); try simp only [Act.put, List.setIfInBounds_toArray, List.set_cons_zero, List.set_cons_succ])
    first | (refine wpAnyH_take (i := 35) (v := undef) (by simp only [List.getElem?_toArray]; exact rfl) (by kernel_rfl) (by kernel_rfl) (by kernel_rfl) (fun _ _ _ h => h) (Or.inr ⟨?_, rfl⟩) (by assumption) ?_; (rfl); try simp only [Act.put, List.setIfInBounds_toArray, List.set_cons_zero, List.set_cons_succ]) | (refine wpAnyH_take (i := 35) (v := ?_) (by simp only [List.getElem?_toArray]; exact rfl) (by kernel_rfl) (by kernel_rfl) (by kernel_rfl) (fun _ _ _ h => h) (Or.inl ⟨?_, ?_⟩) (by assumption) ?_; rotate_left; (rfl); (focus (intro w hSw; (try dsimp only at hSw); go_simp; try with_reducible rfl)); try simp only [Act.put, List.setIfInBounds_toArray, List.set_cons_zero, List.set_cons_succ])
    (refine wpAnyH_take (i := 36) (v := (thI 0).a) (by simp only [List.getElem?_toArray]; exact rfl) (by kernel_rfl) (by kernel_rfl) (by kernel_rfl) (fun _ _ _ h => h) (yieldsIf_load_mid (by rfl) 24 (.tmp 77) (by rfl) (g1 + 1) (44) (by rfl) ((thI 0).cells) _ (fun W hS => Bk.mid hS.2.1 44 _ rfl) Try.underlying24 (by rfl) (by kernel_rfl)) (by assumption) ?_; try simp only [Act.put, List.setIfInBounds_toArray, List.set_cons_zero, List.set_cons_succ])
    refine wpAnyH_ready (rs := [37]) (by kernel_rfl) (by simp) ?_
    refine AllReadyH.cons rfl (fun K hK => ?_) AllReadyH.nil
    go_simp
    refine (thing_any 0 _).mono ?_; rintro e t2 ⟨rfl, hb⟩
    replace B := hidB (B.out.trans (hb.mono B.out.size))
    replace hHeld := And.intro (hHeld.1.on hb) (And.intro (hHeld.2.1.on hb) (hHeld.2.2.on hb))
    clear hb
    refine hK.out _ _ hHeld (fun _ => ?_)
    clear hK K
    try simp only [Act.put, List.setIfInBounds_toArray, List.set_cons_zero, List.set_cons_succ]
    first | (refine wpAnyH_take (i := 38) (v := undef) (by simp only [List.getElem?_toArray]; exact rfl) (by kernel_rfl) (by kernel_rfl) (by kernel_rfl) (fun _ _ _ h => h) (Or.inr ⟨?_, rfl⟩) (by assumption) ?_; (rfl); try simp only [Act.put, List.setIfInBounds_toArray, List.set_cons_zero, List.set_cons_succ]) | (refine wpAnyH_take (i := 38) (v := ?_) (by simp only [List.getElem?_toArray]; exact rfl) (by kernel_rfl) (by kernel_rfl) (by kernel_rfl) (fun _ _ _ h => h) (Or.inl ⟨?_, ?_⟩) (by assumption) ?_; rotate_left; (rfl); (focus (intro w hSw; (try dsimp only at hSw); go_simp; try with_reducible rfl)); try simp only [Act.put, List.setIfInBounds_toArray, List.set_cons_zero, List.set_cons_succ])
    first | (refine wpAnyH_take (i := 39) (v := undef) (by simp only [List.getElem?_toArray]; exact rfl) (by kernel_rfl) (by kernel_rfl) (by kernel_rfl) (fun _ _ _ h => h) (Or.inr ⟨?_, rfl⟩) (by assumption) ?_; (rfl); try simp only [Act.put, List.setIfInBounds_toArray, List.set_cons_zero, List.set_cons_succ]) | (refine wpAnyH_take (i := 39) (v := ?_) (by simp only [List.getElem?_toArray]; exact rfl) (by kernel_rfl) (by kernel_rfl) (by kernel_rfl) (fun _ _ _ h => h) (Or.inl ⟨?_, ?_⟩) (by assumption) ?_; rotate_left; (rfl); (focus (intro w hSw; (try dsimp only at hSw); go_simp; try with_reducible rfl)); try simp only [Act.put, List.setIfInBounds_toArray, List.set_cons_zero, List.set_cons_succ])
    first | (refine wpAnyH_take (i := 40) (v := undef) (by simp only [List.getElem?_toArray]; exact rfl) (by kernel_rfl) (by kernel_rfl) (by kernel_rfl) (fun _ _ _ h => h) (Or.inr ⟨?_, rfl⟩) (by assumption) ?_; (rfl); try simp only [Act.put, List.setIfInBounds_toArray, List.set_cons_zero, List.set_cons_succ]) | (refine wpAnyH_take (i := 40) (v := ?_) (by simp only [List.getElem?_toArray]; exact rfl) (by kernel_rfl) (by kernel_rfl) (by kernel_rfl) (fun _ _ _ h => h) (Or.inl ⟨?_, ?_⟩) (by assumption) ?_; rotate_left; (rfl); (focus (intro w hSw; (try dsimp only at hSw); go_simp; try with_reducible rfl)); try simp only [Act.put, List.setIfInBounds_toArray, List.set_cons_zero, List.set_cons_succ])
    first | (refine wpAnyH_take (i := 41) (v := undef) (by simp only [List.getElem?_toArray]; exact rfl) (by kernel_rfl) (by kernel_rfl) (by kernel_rfl) (fun _ _ _ h => h) (Or.inr ⟨?_, rfl⟩) (by assumption) ?_; (rfl); try simp only [Act.put, List.setIfInBounds_toArray, List.set_cons_zero, List.set_cons_succ]) | (refine wpAnyH_take (i := 41) (v := ?_) (by simp only [List.getElem?_toArray]; exact rfl) (by kernel_rfl) (by kernel_rfl) (by kernel_rfl) (fun _ _ _ h => h) (Or.inl ⟨?_, ?_⟩) (by assumption) ?_; rotate_left; (rfl); (focus (intro w hSw; (try dsimp only at hSw); go_simp; try with_reducible rfl)); try simp only [Act.put, List.setIfInBounds_toArray, List.set_cons_zero, List.set_cons_succ])
    first | (refine wpAnyH_take (i := 42) (v := undef) (by simp only [List.getElem?_toArray]; exact rfl) (by kernel_rfl) (by kernel_rfl) (by kernel_rfl) (fun _ _ _ h => h) (Or.inr ⟨?_, rfl⟩) (by assumption) ?_; (rfl); try simp only [Act.put, List.setIfInBounds_toArray, List.set_cons_zero, List.set_cons_succ]) | (refine wpAnyH_take (i := 42) (v := ?_) (by simp only [List.getElem?_toArray]; exact rfl) (by kernel_rfl) (by kernel_rfl) (by kernel_rfl) (fun _ _ _ h => h) (Or.inl ⟨?_, ?_⟩) (by assumption) ?_; rotate_left; (rfl); (focus (intro w hSw; (try dsimp only at hSw); go_simp; try with_reducible rfl)); try simp only [Act.put, List.setIfInBounds_toArray, List.set_cons_zero, List.set_cons_succ])
    first | (refine wpAnyH_take (i := 43) (v := undef) (by simp only [List.getElem?_toArray]; exact rfl) (by kernel_rfl) (by kernel_rfl) (by kernel_rfl) (fun _ _ _ h => h) (Or.inr ⟨?_, rfl⟩) (by assumption) ?_; (rfl); try simp only [Act.put, List.setIfInBounds_toArray, List.set_cons_zero, List.set_cons_succ]) | (refine wpAnyH_take (i := 43) (v := ?_) (by simp only [List.getElem?_toArray]; exact rfl) (by kernel_rfl) (by kernel_rfl) (by kernel_rfl) (fun _ _ _ h => h) (Or.inl ⟨?_, ?_⟩) (by assumption) ?_; rotate_left; (rfl); (focus (intro W hSw; have hc0 := (show W.cell? ⟨g1 + 1, 48, none⟩ = some (.bool true) from hSw.2.1.cell 48); clear hSw; go_simp; try with_reducible rfl)); try simp only [Act.put, List.setIfInBounds_toArray, List.set_cons_zero, List.set_cons_succ])
    first | (refine wpAnyH_take (i := 44) (v := undef) (by simp only [List.getElem?_toArray]; exact rfl) (by kernel_rfl) (by kernel_rfl) (by kernel_rfl) (fun _ _ _ h => h) (Or.inr ⟨?_, rfl⟩) (by assumption) ?_; (rfl); try simp only [Act.put, List.setIfInBounds_toArray, List.set_cons_zero, List.set_cons_succ]) | (refine wpAnyH_take (i := 44) (v := ?_) (by simp only [List.getElem?_toArray]; exact rfl) (by kernel_rfl) (by kernel_rfl) (by kernel_rfl) (fun _ _ _ h => h) (Or.inl ⟨?_, ?_⟩) (by assumption) ?_; rotate_left; (rfl); (focus (intro w hSw; (try dsimp only at hSw); go_simp; try with_reducible rfl)); try simp only [Act.put, List.setIfInBounds_toArray, List.set_cons_zero, List.set_cons_succ])
    first | (refine wpAnyH_take (i := 45) (v := undef) (by simp only [List.getElem?_toArray]; exact rfl) (by kernel_rfl) (by kernel_rfl) (by kernel_rfl) (fun _ _ _ h => h) (Or.inr ⟨?_, rfl⟩) (by assumption) ?_; (rfl); try simp only [Act.put, List.setIfInBounds_toArray, List.set_cons_zero, List.set_cons_succ]) | (refine wpAnyH_take (i := 45) (v := ?_) (by simp only [List.getElem?_toArray]; exact rfl) (by kernel_rfl) (by kernel_rfl) (by kernel_rfl) (fun _ _ _ h => h) (Or.inl ⟨?_, ?_⟩) (by assumption) ?_; rotate_left; (rfl); (focus (intro w hSw; (try dsimp only at hSw); go_simp; try with_reducible rfl)); try simp only [Act.put, List.setIfInBounds_toArray, List.set_cons_zero, List.set_cons_succ])
    first | (refine wpAnyH_take (i := 46) (v := undef) (by simp only [List.getElem?_toArray]; exact rfl) (by kernel_rfl) (by kernel_rfl) (by kernel_rfl) (fun _ _ _ h => h) (Or.inr ⟨?_, rfl⟩) (by assumption) ?_; (rfl); try simp only [Act.put, List.setIfInBounds_toArray, List.set_cons_zero, List.set_cons_succ]) | (refine wpAnyH_take (i := 46) (v := ?_) (by simp only [List.getElem?_toArray]; exact rfl) (by kernel_rfl) (by kernel_rfl) (by kernel_rfl) (fun _ _ _ h => h) (Or.inl ⟨?_, ?_⟩) (by assumption) ?_; rotate_left; (rfl); (focus (intro w hSw; (try dsimp only at hSw); go_simp; try with_reducible rfl)); try simp only [Act.put, List.setIfInBounds_toArray, List.set_cons_zero, List.set_cons_succ])
    first | (refine wpAnyH_take (i := 47) (v := undef) (by simp only [List.getElem?_toArray]; exact rfl) (by kernel_rfl) (by kernel_rfl) (by kernel_rfl) (fun _ _ _ h => h) (Or.inr ⟨?_, rfl⟩) (by assumption) ?_; (rfl); try simp only [Act.put, List.setIfInBounds_toArray, List.set_cons_zero, List.set_cons_succ]) | (refine wpAnyH_take (i := 47) (v := ?_) (by simp only [List.getElem?_toArray]; exact rfl) (by kernel_rfl) (by kernel_rfl) (by kernel_rfl) (fun _ _ _ h => h) (Or.inl ⟨?_, ?_⟩) (by assumption) ?_; rotate_left; (rfl); (focus (intro W hSw; have hc0 := (show W.cell? ⟨g1 + 1 + 1, 0, none⟩ = some (.int .u8 2) from hSw.2.2.cell 0); clear hSw; go_simp; try with_reducible rfl)); try simp only [Act.put, List.setIfInBounds_toArray, List.set_cons_zero, List.set_cons_succ])
    first | (refine wpAnyH_take (i := 48) (v := undef) (by simp only [List.getElem?_toArray]; exact rfl) (by kernel_rfl) (by kernel_rfl) (by kernel_rfl) (fun _ _ _ h => h) (Or.inr ⟨?_, rfl⟩) (by assumption) ?_; (rfl); try simp only [Act.put, List.setIfInBounds_toArray, List.set_cons_zero, List.set_cons_succ]) | (refine wpAnyH_take (i := 48) (v := ?_) (by simp only [List.getElem?_toArray]; exact rfl) (by kernel_rfl) (by kernel_rfl) (by kernel_rfl) (fun _ _ _ h => h) (Or.inl ⟨?_, ?_⟩) (by assumption) ?_; rotate_left; (rfl); (focus (intro w hSw; (try dsimp only at hSw); go_simp; try with_reducible rfl)); try simp only [Act.put, List.setIfInBounds_toArray, List.set_cons_zero, List.set_cons_succ])
    first | (refine wpAnyH_take (i := 49) (v := undef) (by simp only [List.getElem?_toArray]; exact rfl) (by kernel_rfl) (by kernel_rfl) (by kernel_rfl) (fun _ _ _ h => h) (Or.inr ⟨?_, rfl⟩) (by assumption) ?_; (rfl); try simp only [Act.put, List.setIfInBounds_toArray, List.set_cons_zero, List.set_cons_succ]) | (refine wpAnyH_take (i := 49) (v := ?_) (by simp only [List.getElem?_toArray]; exact rfl) (by kernel_rfl) (by kernel_rfl) (by kernel_rfl) (fun _ _ _ h => h) (Or.inl ⟨?_, ?_⟩) (by assumption) ?_; rotate_left; (rfl); (focus (intro w hSw; (try dsimp only at hSw); go_simp; try with_reducible rfl)); try simp only [Act.put, List.setIfInBounds_toArray, List.set_cons_zero, List.set_cons_succ])
    first | (refine wpAnyH_take (i := 50) (v := undef) (by simp only [List.getElem?_toArray]; exact rfl) (by kernel_rfl) (by kernel_rfl) (by kernel_rfl) (fun _ _ _ h => h) (Or.inr ⟨?_, rfl⟩) (by assumption) ?_; (rfl); try simp only [Act.put, List.setIfInBounds_toArray, List.set_cons_zero, List.set_cons_succ]) | (refine wpAnyH_take (i := 50) (v := ?_) (by simp only [List.getElem?_toArray]; exact rfl) (by kernel_rfl) (by kernel_rfl) (by kernel_rfl) (fun _ _ _ h => h) (Or.inl ⟨?_, ?_⟩) (by assumption) ?_; rotate_left; (rfl); (focus (intro w hSw; (try dsimp only at hSw); go_simp; try with_reducible rfl)); try simp only [Act.put, List.setIfInBounds_toArray, List.set_cons_zero, List.set_cons_succ])
    first | (refine wpAnyH_take (i := 51) (v := undef) (by simp only [List.getElem?_toArray]; exact rfl) (by kernel_rfl) (by kernel_rfl) (by kernel_rfl) (fun _ _ _ h => h) (Or.inr ⟨?_, rfl⟩) (by assumption) ?_; (rfl); try simp only [Act.put, List.setIfInBounds_toArray, List.set_cons_zero, List.set_cons_succ]) | (refine wpAnyH_take (i := 51) (v := ?_) (by simp only [List.getElem?_toArray]; exact rfl) (by kernel_rfl) (by kernel_rfl) (by kernel_rfl) (fun _ _ _ h => h) (Or.inl ⟨?_, ?_⟩) (by assumption) ?_; rotate_left; (rfl); (focus (intro w hSw; (try dsimp only at hSw); go_simp; try with_reducible rfl)); try simp only [Act.put, List.setIfInBounds_toArray, List.set_cons_zero, List.set_cons_succ])
    (refine wpAnyH_take (i := 52) (v := (mkI 5).a) (by simp only [List.getElem?_toArray]; exact rfl) (by kernel_rfl) (by kernel_rfl) (by kernel_rfl) (fun _ _ _ h => h) (yieldsIf_load_mid (by rfl) 24 (.tmp 93) (by rfl) (g1 + 1 + 1) (30) (by rfl) ((mkI 5).cells) _ (fun W hS => Bk.mid hS.2.2 30 _ rfl) Try.underlying24 (by rfl) (by kernel_rfl)) (by assumption) ?_; try simp only [Act.put, List.setIfInBounds_toArray, List.set_cons_zero, List.set_cons_succ])
    refine wpAnyH_ready (rs := [53]) (by kernel_rfl) (by simp) ?_
    refine AllReadyH.cons rfl (fun K hK => ?_) AllReadyH.nil
    go_simp
    refine (maker_any 5 _).mono ?_; rintro e t3 ⟨rfl, hb⟩
    replace B := hidB (B.out.trans (hb.mono B.out.size))
    replace hHeld := And.intro (hHeld.1.on hb) (And.intro (hHeld.2.1.on hb) (hHeld.2.2.on hb))
    clear hb
    refine hK.out _ _ hHeld (fun _ => ?_)
    clear hK K
    try simp only [Act.put, List.setIfInBounds_toArray, List.set_cons_zero, List.set_cons_succ]
    first | (refine wpAnyH_take (i := 54) (v := undef) (by simp only [List.getElem?_toArray]; exact rfl) (by kernel_rfl) (by kernel_rfl) (by kernel_rfl) (fun _ _ _ h => h) (Or.inr ⟨?_, rfl⟩) (by assumption) ?_; (rfl); try simp only [Act.put, List.setIfInBounds_toArray, List.set_cons_zero, List.set_cons_succ]) | (refine wpAnyH_take (i := 54) (v := ?_) (by simp only [List.getElem?_toArray]; exact rfl) (by kernel_rfl) (by kernel_rfl) (by kernel_rfl) (fun _ _ _ h => h) (Or.inl ⟨?_, ?_⟩) (by assumption) ?_; rotate_left; (rfl); (focus (intro w hSw; (try dsimp only at hSw); go_simp; try with_reducible rfl)); try simp only [Act.put, List.setIfInBounds_toArray, List.set_cons_zero, List.set_cons_succ])
    first | (refine wpAnyH_take (i := 55) (v := undef) (by simp only [List.getElem?_toArray]; exact rfl) (by kernel_rfl) (by kernel_rfl) (by kernel_rfl) (fun _ _ _ h => h) (Or.inr ⟨?_, rfl⟩) (by assumption) ?_; (rfl); try simp only [Act.put, List.setIfInBounds_toArray, List.set_cons_zero, List.set_cons_succ]) | (refine wpAnyH_take (i := 55) (v := ?_) (by simp only [List.getElem?_toArray]; exact rfl) (by kernel_rfl) (by kernel_rfl) (by kernel_rfl) (fun _ _ _ h => h) (Or.inl ⟨?_, ?_⟩) (by assumption) ?_; rotate_left; (rfl); (focus (intro w hSw; (try dsimp only at hSw); go_simp; try with_reducible rfl)); try simp only [Act.put, List.setIfInBounds_toArray, List.set_cons_zero, List.set_cons_succ])
    first | (refine wpAnyH_take (i := 56) (v := undef) (by simp only [List.getElem?_toArray]; exact rfl) (by kernel_rfl) (by kernel_rfl) (by kernel_rfl) (fun _ _ _ h => h) (Or.inr ⟨?_, rfl⟩) (by assumption) ?_; (rfl); try simp only [Act.put, List.setIfInBounds_toArray, List.set_cons_zero, List.set_cons_succ]) | (refine wpAnyH_take (i := 56) (v := ?_) (by simp only [List.getElem?_toArray]; exact rfl) (by kernel_rfl) (by kernel_rfl) (by kernel_rfl) (fun _ _ _ h => h) (Or.inl ⟨?_, ?_⟩) (by assumption) ?_; rotate_left; (rfl); (focus (intro w hSw; (try dsimp only at hSw); go_simp; try with_reducible rfl)); try simp only [Act.put, List.setIfInBounds_toArray, List.set_cons_zero, List.set_cons_succ])
    first | (refine wpAnyH_take (i := 57) (v := undef) (by simp only [List.getElem?_toArray]; exact rfl) (by kernel_rfl) (by kernel_rfl) (by kernel_rfl) (fun _ _ _ h => h) (Or.inr ⟨?_, rfl⟩) (by assumption) ?_; (rfl); try simp only [Act.put, List.setIfInBounds_toArray, List.set_cons_zero, List.set_cons_succ]) | (refine wpAnyH_take (i := 57) (v := ?_) (by simp only [List.getElem?_toArray]; exact rfl) (by kernel_rfl) (by kernel_rfl) (by kernel_rfl) (fun _ _ _ h => h) (Or.inl ⟨?_, ?_⟩) (by assumption) ?_; rotate_left; (rfl); (focus (intro w hSw; (try dsimp only at hSw); go_simp; try with_reducible rfl)); try simp only [Act.put, List.setIfInBounds_toArray, List.set_cons_zero, List.set_cons_succ])
    (refine wpAnyH_take (i := 58) (v := (thI 20).a) (by simp only [List.getElem?_toArray]; exact rfl) (by kernel_rfl) (by kernel_rfl) (by kernel_rfl) (fun _ _ _ h => h) (yieldsIf_load_mid (by rfl) 24 (.tmp 99) (by rfl) (g1 + 1 + 1) (34) (by rfl) ((thI 20).cells) _ (fun W hS => Bk.mid hS.2.2 34 _ rfl) Try.underlying24 (by rfl) (by kernel_rfl)) (by assumption) ?_; try simp only [Act.put, List.setIfInBounds_toArray, List.set_cons_zero, List.set_cons_succ])
    refine wpAnyH_ready (rs := [59]) (by kernel_rfl) (by simp) ?_
    refine AllReadyH.cons rfl (fun K hK => ?_) AllReadyH.nil
    go_simp
    refine (thing_any 20 _).mono ?_; rintro e t4 ⟨rfl, hb⟩
    replace B := hidB (B.out.trans (hb.mono B.out.size))
    replace hHeld := And.intro (hHeld.1.on hb) (And.intro (hHeld.2.1.on hb) (hHeld.2.2.on hb))
    clear hb
    refine hK.out _ _ hHeld (fun _ => ?_)
    clear hK K
    try simp only [Act.put, List.setIfInBounds_toArray, List.set_cons_zero, List.set_cons_succ]
    first | (refine wpAnyH_take (i := 60) (v := undef) (by simp only [List.getElem?_toArray]; exact rfl) (by kernel_rfl) (by kernel_rfl) (by kernel_rfl) (fun _ _ _ h => h) (Or.inr ⟨?_, rfl⟩) (by assumption) ?_; (rfl); try simp only [Act.put, List.setIfInBounds_toArray, List.set_cons_zero, List.set_cons_succ]) | (refine wpAnyH_take (i := 60) (v := ?_) (by simp only [List.getElem?_toArray]; exact rfl) (by kernel_rfl) (by kernel_rfl) (by kernel_rfl) (fun _ _ _ h => h) (Or.inl ⟨?_, ?_⟩) (by assumption) ?_; rotate_left; (rfl); (focus (intro w hSw; (try dsimp only at hSw); go_simp; try with_reducible rfl)); try simp only [Act.put, List.setIfInBounds_toArray, List.set_cons_zero, List.set_cons_succ])
    first | (refine wpAnyH_take (i := 61) (v := undef) (by simp only [List.getElem?_toArray]; exact rfl) (by kernel_rfl) (by kernel_rfl) (by kernel_rfl) (fun _ _ _ h => h) (Or.inr ⟨?_, rfl⟩) (by assumption) ?_; (rfl); try simp only [Act.put, List.setIfInBounds_toArray, List.set_cons_zero, List.set_cons_succ]) | (refine wpAnyH_take (i := 61) (v := ?_) (by simp only [List.getElem?_toArray]; exact rfl) (by kernel_rfl) (by kernel_rfl) (by kernel_rfl) (fun _ _ _ h => h) (Or.inl ⟨?_, ?_⟩) (by assumption) ?_; rotate_left; (rfl); (focus (intro w hSw; (try dsimp only at hSw); go_simp; try with_reducible rfl)); try simp only [Act.put, List.setIfInBounds_toArray, List.set_cons_zero, List.set_cons_succ])
    first | (refine wpAnyH_take (i := 62) (v := undef) (by simp only [List.getElem?_toArray]; exact rfl) (by kernel_rfl) (by kernel_rfl) (by kernel_rfl) (fun _ _ _ h => h) (Or.inr ⟨?_, rfl⟩) (by assumption) ?_; (rfl); try simp only [Act.put, List.setIfInBounds_toArray, List.set_cons_zero, List.set_cons_succ]) | (refine wpAnyH_take (i := 62) (v := ?_) (by simp only [List.getElem?_toArray]; exact rfl) (by kernel_rfl) (by kernel_rfl) (by kernel_rfl) (fun _ _ _ h => h) (Or.inl ⟨?_, ?_⟩) (by assumption) ?_; rotate_left; (rfl); (focus (intro w hSw; (try dsimp only at hSw); go_simp; try with_reducible rfl)); try simp only [Act.put, List.setIfInBounds_toArray, List.set_cons_zero, List.set_cons_succ])
    first | (refine wpAnyH_take (i := 63) (v := undef) (by simp only [List.getElem?_toArray]; exact rfl) (by kernel_rfl) (by kernel_rfl) (by kernel_rfl) (fun _ _ _ h => h) (Or.inr ⟨?_, rfl⟩) (by assumption) ?_; (rfl); try simp only [Act.put, List.setIfInBounds_toArray, List.set_cons_zero, List.set_cons_succ]) | (refine wpAnyH_take (i := 63) (v := ?_) (by simp only [List.getElem?_toArray]; exact rfl) (by kernel_rfl) (by kernel_rfl) (by kernel_rfl) (fun _ _ _ h => h) (Or.inl ⟨?_, ?_⟩) (by assumption) ?_; rotate_left; (rfl); (focus (intro w hSw; (try dsimp only at hSw); go_simp; try with_reducible rfl)); try simp only [Act.put, List.setIfInBounds_toArray, List.set_cons_zero, List.set_cons_succ])
    first | (refine wpAnyH_take (i := 64) (v := undef) (by simp only [List.getElem?_toArray]; exact rfl) (by kernel_rfl) (by kernel_rfl) (by kernel_rfl) (fun _ _ _ h => h) (Or.inr ⟨?_, rfl⟩) (by assumption) ?_; (rfl); try simp only [Act.put, List.setIfInBounds_toArray, List.set_cons_zero, List.set_cons_succ]) | (refine wpAnyH_take (i := 64) (v := ?_) (by simp only [List.getElem?_toArray]; exact rfl) (by kernel_rfl) (by kernel_rfl) (by kernel_rfl) (fun _ _ _ h => h) (Or.inl ⟨?_, ?_⟩) (by assumption) ?_; rotate_left; (rfl); (focus (intro W hSw; have hc0 := (show W.cell? ⟨g1 + 1 + 1, 42, none⟩ = some (.slice q3 1 c3) from hSw.2.2.cell 42); clear hSw; go_simp; try with_reducible rfl)); try simp only [Act.put, List.setIfInBounds_toArray, List.set_cons_zero, List.set_cons_succ])
    first | (refine wpAnyH_take (i := 65) (v := undef) (by simp only [List.getElem?_toArray]; exact rfl) (by kernel_rfl) (by kernel_rfl) (by kernel_rfl) (fun _ _ _ h => h) (Or.inr ⟨?_, rfl⟩) (by assumption) ?_; (rfl); try simp only [Act.put, List.setIfInBounds_toArray, List.set_cons_zero, List.set_cons_succ]) | (refine wpAnyH_take (i := 65) (v := ?_) (by simp only [List.getElem?_toArray]; exact rfl) (by kernel_rfl) (by kernel_rfl) (by kernel_rfl) (fun _ _ _ h => h) (Or.inl ⟨?_, ?_⟩) (by assumption) ?_; rotate_left; (rfl); (focus (intro w hSw; (try dsimp only at hSw); go_simp; try with_reducible rfl)); try simp only [Act.put, List.setIfInBounds_toArray, List.set_cons_zero, List.set_cons_succ])
    first | (refine wpAnyH_take (i := 66) (v := undef) (by simp only [List.getElem?_toArray]; exact rfl) (by kernel_rfl) (by kernel_rfl) (by kernel_rfl) (fun _ _ _ h => h) (Or.inr ⟨?_, rfl⟩) (by assumption) ?_; (rfl); try simp only [Act.put, List.setIfInBounds_toArray, List.set_cons_zero, List.set_cons_succ]) | (refine wpAnyH_take (i := 66) (v := ?_) (by simp only [List.getElem?_toArray]; exact rfl) (by kernel_rfl) (by kernel_rfl) (by kernel_rfl) (fun _ _ _ h => h) (Or.inl ⟨?_, ?_⟩) (by assumption) ?_; rotate_left; (rfl); (focus (intro w hSw; (try dsimp only at hSw); go_simp; try with_reducible rfl)); try simp only [Act.put, List.setIfInBounds_toArray, List.set_cons_zero, List.set_cons_succ])
    first | (refine wpAnyH_take (i := 67) (v := undef) (by simp only [List.getElem?_toArray]; exact rfl) (by kernel_rfl) (by kernel_rfl) (by kernel_rfl) (fun _ _ _ h => h) (Or.inr ⟨?_, rfl⟩) (by assumption) ?_; (rfl); try simp only [Act.put, List.setIfInBounds_toArray, List.set_cons_zero, List.set_cons_succ]) | (refine wpAnyH_take (i := 67) (v := ?_) (by simp only [List.getElem?_toArray]; exact rfl) (by kernel_rfl) (by kernel_rfl) (by kernel_rfl) (fun _ _ _ h => h) (Or.inl ⟨?_, ?_⟩) (by assumption) ?_; rotate_left; (rfl); (focus (intro w hSw; (try dsimp only at hSw); go_simp; try with_reducible rfl)); try simp only [Act.put, List.setIfInBounds_toArray, List.set_cons_zero, List.set_cons_succ])
    first | (refine wpAnyH_take (i := 68) (v := undef) (by simp only [List.getElem?_toArray]; exact rfl) (by kernel_rfl) (by kernel_rfl) (by kernel_rfl) (fun _ _ _ h => h) (Or.inr ⟨?_, rfl⟩) (by assumption) ?_; (rfl); try simp only [Act.put, List.setIfInBounds_toArray, List.set_cons_zero, List.set_cons_succ]) | (refine wpAnyH_take (i := 68) (v := ?_) (by simp only [List.getElem?_toArray]; exact rfl) (by kernel_rfl) (by kernel_rfl) (by kernel_rfl) (fun _ _ _ h => h) (Or.inl ⟨?_, ?_⟩) (by assumption) ?_; rotate_left; (rfl); (focus (intro w hSw; (try dsimp only at hSw); go_simp; try with_reducible rfl)); try simp only [Act.put, List.setIfInBounds_toArray, List.set_cons_zero, List.set_cons_succ])
    refine wpAnyH_done (by kernel_rfl) ?_ _
    refine NoPanic.normal ?_
    go_wp2_with fail
    go_meet
    case rel => exact ⟨rfl, B.out⟩
  case rest =>
  obtain ⟨rfl, hb⟩ := hcut
  replace B := hidB hb
  clear hb W1 W2 W3
  go_wp2_with fail
  refine (num_any 4619567317775286272 _).mono ?_; rintro e u10 ⟨rfl, hb⟩
  replace B := hidB (B.out.trans (hb.mono B.out.size))
  clear hb
  go_wp2_with (first | ((with_reducible refine wpId ?_); refine wpList_build_to (by rfl) 24 _ (by rfl) (VI.zero.cells.toArray) (by kernel_rfl) ?_))
  have HW5 := hidB B.out.size
  refine (start_any (nuI 4619567317775286272) VI.zero [] (by decide) (by decide) okV_nil vNil _ (RdL.nil _ _ _)).mono ?_; rintro e u11 (⟨h1, _⟩ | ⟨_, T5, A5, rfl, hT, hb, hA⟩)
  · exact absurd w_start0 h1
  have HT5 := hidB (TK.fresh hT hA rfl)
  have HL5 := hidB hb.size
  clear hT hA
  replace B := hidB (B.out.trans (hb.mono B.out.size))
  clear hb
  have HQ5 := hidB (Nat.le_refl u11.heap.size)
  go_wp2_with (first | ((with_reducible refine wpId ?_); refine wpList_build_to (by rfl) 24 _ (by rfl) ((fuI 3).cells.toArray) (by kernel_rfl) ?_))
  refine (maker_any 4 _).mono ?_; rintro e u12 ⟨rfl, hb⟩
  replace HT5 := hidB (HT5.out.on hb)
  replace HQ5 := hidB (Nat.le_trans HQ5.out hb.size)
  replace B := hidB (B.out.trans (hb.mono B.out.size))
  clear hb
  go_wp2_with fail
  have HW7 := hidB B.out.size
  have HI5_7 := hidB HQ5.out
  refine (make_any (fuI 3) (mkI 4) [] (by decide) (by decide) okV_nil vNil _ (RdL.nil _ _ _)).mono ?_; rintro e u13 (⟨h1, _⟩ | ⟨_, T7, A7, rfl, hT, hb, hA⟩)
  · exact absurd w_make0 h1
  have HT7 := hidB (TK.fresh hT hA rfl)
  have HL7 := hidB hb.size
  clear hT hA
  replace HT5 := hidB (HT5.out.on hb)
  replace HQ5 := hidB (Nat.le_trans HQ5.out hb.size)
  replace B := hidB (B.out.trans (hb.mono B.out.size))
  clear hb
  have HQ7 := hidB (Nat.le_refl u13.heap.size)
  go_wp2_with (first | ((with_reducible refine wpId ?_); refine wpList_build_to (by rfl) 24 _ (by rfl) ((fuI 3).cells.toArray) (by kernel_rfl) ?_))
  refine (num_any 4619567317775286272 _).mono ?_; rintro e u14 ⟨rfl, hb⟩
  replace HT5 := hidB (HT5.out.on hb)
  replace HT7 := hidB (HT7.out.on hb)
  replace HQ5 := hidB (Nat.le_trans HQ5.out hb.size)
  replace HQ7 := hidB (Nat.le_trans HQ7.out hb.size)
  replace B := hidB (B.out.trans (hb.mono B.out.size))
  clear hb
  go_wp2_with fail
  refine (num_any 4620693217682128896 _).mono ?_; rintro e u15 ⟨rfl, hb⟩
  replace HT5 := hidB (HT5.out.on hb)
  replace HT7 := hidB (HT7.out.on hb)
  replace HQ5 := hidB (Nat.le_trans HQ5.out hb.size)
  replace HQ7 := hidB (Nat.le_trans HQ7.out hb.size)
  replace B := hidB (B.out.trans (hb.mono B.out.size))
  clear hb
  have XA := hidB (Bk.new u15 24 #[.int .u8 3, .float .f64 4620693217682128896, .string ⟨#[]⟩, .int .i64 0])
  have hb := box_one u15 (.cells #[.int .u8 3, .float .f64 4620693217682128896, .string ⟨#[]⟩, .int .i64 0] 24)
  replace HT5 := hidB (HT5.out.on hb)
  replace HT7 := hidB (HT7.out.on hb)
  replace HQ5 := hidB (Nat.le_trans HQ5.out hb.size)
  replace HQ7 := hidB (Nat.le_trans HQ7.out hb.size)
  replace B := hidB (B.out.trans (hb.mono B.out.size))
  clear hb
  have HS9 := hidB (rd_bk VI.cells_len (l := [(nuI 4620693217682128896)]) XA.out (by show 1 ≤ maxLen; unfold maxLen; decide))
  clear XA
  go_wp2_with (first | ((with_reducible refine wpId ?_); refine wpList_mkSlice (by rfl) 25 24 1 4 _ (by rfl) [(0, val 3 4620693217682128896 ⟨#[]⟩ 0)] (by kernel_rfl) (.agg #[.int .u8 0, .float .f64 0, .string ⟨#[]⟩, .int .i64 0]) #[.int .u8 3, .float .f64 4620693217682128896, .string ⟨#[]⟩, .int .i64 0] Try.underlying25 (by kernel_rfl) (by decide) (by decide) (by kernel_rfl) ?_))
  have HW9 := hidB B.out.size
  have HI5_9 := hidB HQ5.out
  have HI7_9 := hidB HQ7.out
  refine (start_any (fuI 3) (nuI 4619567317775286272) [(nuI 4620693217682128896)] (by decide) (by decide) (okV_one (by decide)) (.slice (some ⟨u15.heap.size, 0, none⟩) 1 1) (u15.alloc (.cells #[.int .u8 3, .float .f64 4620693217682128896, .string ⟨#[]⟩, .int .i64 0] 24)) HS9.out).mono ?_; rintro e u16 (⟨h1, _⟩ | ⟨_, T9, A9, rfl, hT, hb, hA⟩)
  · exact absurd w_start1 h1
  have HT9 := hidB (TK.fresh hT hA rfl)
  have HL9 := hidB hb.size
  clear hT hA
  replace HT5 := hidB (HT5.out.on hb)
  replace HT7 := hidB (HT7.out.on hb)
  replace HQ5 := hidB (Nat.le_trans HQ5.out hb.size)
  replace HQ7 := hidB (Nat.le_trans HQ7.out hb.size)
  replace B := hidB (B.out.trans (hb.mono B.out.size))
  clear hb
  have HQ9 := hidB (Nat.le_refl u16.heap.size)
  clear HS9
  go_upto_region 8 with fail
  go_wp2_with (first | ((with_reducible refine wpId ?_); refine wpList_build_to (by rfl) 36 _ (by rfl) (OI.zero.cs) (by kernel_rfl) ?_))
  refine (tk_next (startS (nuI 4619567317775286272) VI.zero []) T5 (.fresh) _ (fun k => k < u10.heap.size ∨ u11.heap.size ≤ k) OI.zero u16 HT5.out (by have := HL5.out; have := HQ5.out; omega) trivial ⟨show (0 : Int) ≤ 0 by decide, show (0 : Int) ≤ 0 by decide, show (0 : Int) ≤ 0 by decide⟩ (by decide) rfl).mono ?_; rintro e u17 ⟨wt, n, rfl, hone, hk, hr⟩
  have HONE := hidB hone
  clear hone
  replace HT7 := hidB (HT7.out.kept hk (fun k h1 h2 h => h.1 (.inr (Nat.le_trans HI5_7.out h1))))
  replace HT9 := hidB (HT9.out.kept hk (fun k h1 h2 h => h.1 (.inr (Nat.le_trans HI5_9.out h1))))
  replace B := hidB (B.out.trans (hk.toBelow B.out.size (fun k h => Nat.le_trans HW5.out h.2)))
  replace HQ5 := hidB (Nat.le_trans HQ5.out hk.size)
  replace HQ7 := hidB (Nat.le_trans HQ7.out hk.size)
  replace HQ9 := hidB (Nat.le_trans HQ9.out hk.size)
  have HKS := hidB hk.size
  clear hk
  unfold TKR at hr
  rw [show nextQ (startS (nuI 4619567317775286272) VI.zero []) OI.zero [] .fresh = some [] from rfl] at hr
  obtain ⟨rfl, hw, hT⟩ := hr
  rw [s_7] at hw hT
  obtain ⟨_, _, kv, hwt, hown⟩ := hw
  subst hwt
  obtain ⟨qk11, ck11, hav⟩ := own_slice hown
  subst hav
  clear hown
  have R := hidB (show Bk (u17.alloc (.cells Try.zeroCells45 45)) u17.heap.size 45 WI.zero.cs from Bk.new u17 _ _)
  have HFE := hidB (show Kept (fun k => k = u17.heap.size) u17 ((u17.alloc (.cells Try.zeroCells45 45)).setRow u17.heap.size (endW (typeI.put (.slice qk11 0 ck11))).cs) from ((Kept.refl (fun k => k = u17.heap.size) u17).alloc _).setRow (.inl rfl) _)
  go_upto_region 9 with (first | ((with_reducible refine stId 45 (.tmp 11) (.tmp 156) ?_); refine wpList_store_row (by rfl) 45 (.tmp 11) (.tmp 156) (by rfl) (u17.heap.size) ((endW (typeI.put (.slice qk11 0 ck11))).cs) (by rfl) (by rfl) 45 (WI.zero.cs) (by exact R.out) (by kernel_rfl) (by rfl) (by exact HONE.out) ?_))
  have P11 := hidB (show Bk ((u17.alloc (.cells Try.zeroCells45 45)).setRow u17.heap.size (endW (typeI.put (.slice qk11 0 ck11))).cs) u17.heap.size 45 (endW (typeI.put (.slice qk11 0 ck11))).cs from R.out.setRow _)
  replace HT7 := hidB (HT7.out.kept HFE.out (fun k _ h => Nat.ne_of_lt h))
  replace HT9 := hidB (HT9.out.kept HFE.out (fun k _ h => Nat.ne_of_lt h))
  clear hT HT5
  have HNP11_7 := hidB (show (fun k => k < u12.heap.size ∨ u13.heap.size ≤ k) u17.heap.size from .inr HQ7.out)
  have HNP11_9 := hidB (show (fun k => k < (u15.alloc (.cells #[.int .u8 3, .float .f64 4620693217682128896, .string ⟨#[]⟩, .int .i64 0] 24)).heap.size ∨ u16.heap.size ≤ k) u17.heap.size from .inr HQ9.out)
  replace B := hidB (show Below w.heap.size w ((u17.alloc (.cells Try.zeroCells45 45)).setRow u17.heap.size (endW (typeI.put (.slice qk11 0 ck11))).cs) from below_setRow (B.out.alloc B.out.size _) B.out.size _)
  replace HQ5 := hidB (Nat.le_trans HQ5.out HFE.out.size)
  replace HQ7 := hidB (Nat.le_trans HQ7.out HFE.out.size)
  replace HQ9 := hidB (Nat.le_trans HQ9.out HFE.out.size)
  clear R HFE HONE HKS 
  generalize hW : ((u17.alloc (.cells Try.zeroCells45 45)).setRow u17.heap.size (endW (typeI.put (.slice qk11 0 ck11))).cs) = u18 at *
  clear hW
  generalize hG : u17.heap.size = g11 at *
  clear hG
  go_wp2_with (first | ((with_reducible refine wpId ?_); refine wpList_build_to (by rfl) 36 _ (by rfl) (OI.zero.cs) (by kernel_rfl) ?_))
  have HLCP11 := hidB P11.out.lt
  refine (tk_next (makeS (fuI 3) (mkI 4) []) T7 (.fresh) _ (fun k => k < u12.heap.size ∨ u13.heap.size ≤ k) OI.zero u18 HT7.out (by have := HL7.out; have := HQ7.out; omega) trivial ⟨show (0 : Int) ≤ 0 by decide, show (0 : Int) ≤ 0 by decide, show (0 : Int) ≤ 0 by decide⟩ (by decide) rfl).mono ?_; rintro e u19 ⟨wt, n, rfl, hone, hk, hr⟩
  have HONE := hidB hone
  clear hone
  replace P11 := hidB (P11.out.kept hk (fun h => h.1 HNP11_7.out))
  replace HT9 := hidB (HT9.out.kept hk (fun k h1 h2 h => h.1 (.inr (Nat.le_trans HI7_9.out h1))))
  replace B := hidB (B.out.trans (hk.toBelow B.out.size (fun k h => Nat.le_trans HW7.out h.2)))
  replace HQ5 := hidB (Nat.le_trans HQ5.out hk.size)
  replace HQ7 := hidB (Nat.le_trans HQ7.out hk.size)
  replace HQ9 := hidB (Nat.le_trans HQ9.out hk.size)
  have HKS := hidB hk.size
  clear hk
  unfold TKR at hr
  rw [show nextQ (makeS (fuI 3) (mkI 4) []) OI.zero [] .fresh = some [] from rfl] at hr
  obtain ⟨rfl, hw, hT⟩ := hr
  rw [s_m] at hw hT
  obtain ⟨_, _, kv, hwt, hown⟩ := hw
  subst hwt
  obtain ⟨qk13, ck13, hav⟩ := own_slice hown
  subst hav
  clear hown
  have R := hidB (show Bk (u19.alloc (.cells Try.zeroCells45 45)) u19.heap.size 45 WI.zero.cs from Bk.new u19 _ _)
  have HFE := hidB (show Kept (fun k => k = u19.heap.size) u19 ((u19.alloc (.cells Try.zeroCells45 45)).setRow u19.heap.size (endW (typeI.put (.slice qk13 0 ck13))).cs) from ((Kept.refl (fun k => k = u19.heap.size) u19).alloc _).setRow (.inl rfl) _)
  go_upto_region 10 with (first | ((with_reducible refine stId 45 (.tmp 13) (.tmp 162) ?_); refine wpList_store_row (by rfl) 45 (.tmp 13) (.tmp 162) (by rfl) (u19.heap.size) ((endW (typeI.put (.slice qk13 0 ck13))).cs) (by rfl) (by rfl) 45 (WI.zero.cs) (by exact R.out) (by kernel_rfl) (by rfl) (by exact HONE.out) ?_))
  replace P11 := hidB (P11.out.kept HFE.out (Nat.ne_of_lt P11.out.lt))
  have P13 := hidB (show Bk ((u19.alloc (.cells Try.zeroCells45 45)).setRow u19.heap.size (endW (typeI.put (.slice qk13 0 ck13))).cs) u19.heap.size 45 (endW (typeI.put (.slice qk13 0 ck13))).cs from R.out.setRow _)
  replace HT9 := hidB (HT9.out.kept HFE.out (fun k _ h => Nat.ne_of_lt h))
  clear hT HT7
  have HNP13_9 := hidB (show (fun k => k < (u15.alloc (.cells #[.int .u8 3, .float .f64 4620693217682128896, .string ⟨#[]⟩, .int .i64 0] 24)).heap.size ∨ u16.heap.size ≤ k) u19.heap.size from .inr HQ9.out)
  replace B := hidB (show Below w.heap.size w ((u19.alloc (.cells Try.zeroCells45 45)).setRow u19.heap.size (endW (typeI.put (.slice qk13 0 ck13))).cs) from below_setRow (B.out.alloc B.out.size _) B.out.size _)
  replace HQ5 := hidB (Nat.le_trans HQ5.out HFE.out.size)
  replace HQ7 := hidB (Nat.le_trans HQ7.out HFE.out.size)
  replace HQ9 := hidB (Nat.le_trans HQ9.out HFE.out.size)
  clear R HFE HONE HKS HLCP11
  generalize hW : ((u19.alloc (.cells Try.zeroCells45 45)).setRow u19.heap.size (endW (typeI.put (.slice qk13 0 ck13))).cs) = u20 at *
  clear hW
  generalize hG : u19.heap.size = g13 at *
  clear hG
  go_wp2_with (first | ((with_reducible refine wpId ?_); refine wpList_build_to (by rfl) 36 _ (by rfl) (OI.zero.cs) (by kernel_rfl) ?_))
  have HLCP11 := hidB P11.out.lt
  have HLCP13 := hidB P13.out.lt
  refine (tk_next (startS (fuI 3) (nuI 4619567317775286272) [(nuI 4620693217682128896)]) T9 (.fresh) _ (fun k => k < (u15.alloc (.cells #[.int .u8 3, .float .f64 4620693217682128896, .string ⟨#[]⟩, .int .i64 0] 24)).heap.size ∨ u16.heap.size ≤ k) OI.zero u20 HT9.out (by have := HL9.out; have := HQ9.out; omega) trivial ⟨show (0 : Int) ≤ 0 by decide, show (0 : Int) ≤ 0 by decide, show (0 : Int) ≤ 0 by decide⟩ (by decide) rfl).mono ?_; rintro e u21 ⟨wt, n, rfl, hone, hk, hr⟩
  have HONE := hidB hone
  clear hone
  replace P11 := hidB (P11.out.kept hk (fun h => h.1 HNP11_9.out))
  replace P13 := hidB (P13.out.kept hk (fun h => h.1 HNP13_9.out))
  replace B := hidB (B.out.trans (hk.toBelow B.out.size (fun k h => Nat.le_trans HW9.out h.2)))
  replace HQ5 := hidB (Nat.le_trans HQ5.out hk.size)
  replace HQ7 := hidB (Nat.le_trans HQ7.out hk.size)
  replace HQ9 := hidB (Nat.le_trans HQ9.out hk.size)
  have HKS := hidB hk.size
  clear hk
  unfold TKR at hr
  rw [show nextQ (startS (fuI 3) (nuI 4619567317775286272) [(nuI 4620693217682128896)]) OI.zero [] .fresh = some [] from rfl] at hr
  obtain ⟨rfl, hw, hT⟩ := hr
  rw [s_x] at hw hT
  obtain ⟨av, hwt, hown⟩ := hw
  subst hwt
  obtain ⟨q9, c9, hav⟩ := own_slice hown
  subst hav
  clear hown
  have R := hidB (show Bk (u21.alloc (.cells Try.zeroCells45 45)) u21.heap.size 45 WI.zero.cs from Bk.new u21 _ _)
  have HFE := hidB (show Kept (fun k => k = u21.heap.size) u21 ((u21.alloc (.cells Try.zeroCells45 45)).setRow u21.heap.size (methW (callA 12 (fuI 3) (nuI 4619567317775286272) (.slice q9 1 c9))).cs) from ((Kept.refl (fun k => k = u21.heap.size) u21).alloc _).setRow (.inl rfl) _)
  go_upto_region 11 with (first | ((with_reducible refine stId 45 (.tmp 15) (.tmp 168) ?_); refine wpList_store_row (by rfl) 45 (.tmp 15) (.tmp 168) (by rfl) (u21.heap.size) ((methW (callA 12 (fuI 3) (nuI 4619567317775286272) (.slice q9 1 c9))).cs) (by rfl) (by rfl) 45 (WI.zero.cs) (by exact R.out) (by kernel_rfl) (by rfl) (by exact HONE.out) ?_))
  replace P11 := hidB (P11.out.kept HFE.out (Nat.ne_of_lt P11.out.lt))
  replace P13 := hidB (P13.out.kept HFE.out (Nat.ne_of_lt P13.out.lt))
  have P15 := hidB (show Bk ((u21.alloc (.cells Try.zeroCells45 45)).setRow u21.heap.size (methW (callA 12 (fuI 3) (nuI 4619567317775286272) (.slice q9 1 c9))).cs) u21.heap.size 45 (methW (callA 12 (fuI 3) (nuI 4619567317775286272) (.slice q9 1 c9))).cs from R.out.setRow _)
  have hT2 := hT.kept HFE.out (fun k _ h => Nat.ne_of_lt h)
  clear HT9 hT
  have HT9 := hidB hT2
  clear hT2
  replace HNP11_9 := hidB (show ((fun k => k < (u15.alloc (.cells #[.int .u8 3, .float .f64 4620693217682128896, .string ⟨#[]⟩, .int .i64 0] 24)).heap.size ∨ u16.heap.size ≤ k) g11 ∧ g11 < u20.heap.size) ∨ u21.heap.size ≤ g11 from .inl ⟨HNP11_9.out, HLCP11.out⟩)
  replace HNP13_9 := hidB (show ((fun k => k < (u15.alloc (.cells #[.int .u8 3, .float .f64 4620693217682128896, .string ⟨#[]⟩, .int .i64 0] 24)).heap.size ∨ u16.heap.size ≤ k) g13 ∧ g13 < u20.heap.size) ∨ u21.heap.size ≤ g13 from .inl ⟨HNP13_9.out, HLCP13.out⟩)
  have HNP15_9 := hidB (show ((fun k => k < (u15.alloc (.cells #[.int .u8 3, .float .f64 4620693217682128896, .string ⟨#[]⟩, .int .i64 0] 24)).heap.size ∨ u16.heap.size ≤ k) u21.heap.size ∧ u21.heap.size < u20.heap.size) ∨ u21.heap.size ≤ u21.heap.size from .inr (Nat.le_refl _))
  replace B := hidB (show Below w.heap.size w ((u21.alloc (.cells Try.zeroCells45 45)).setRow u21.heap.size (methW (callA 12 (fuI 3) (nuI 4619567317775286272) (.slice q9 1 c9))).cs) from below_setRow (B.out.alloc B.out.size _) B.out.size _)
  replace HQ5 := hidB (Nat.le_trans HQ5.out HFE.out.size)
  replace HQ7 := hidB (Nat.le_trans HQ7.out HFE.out.size)
  replace HQ9 := hidB (Nat.le_trans HQ9.out HFE.out.size)
  clear R HFE HONE HKS HLCP11 HLCP13
  generalize hW : ((u21.alloc (.cells Try.zeroCells45 45)).setRow u21.heap.size (methW (callA 12 (fuI 3) (nuI 4619567317775286272) (.slice q9 1 c9))).cs) = u22 at *
  clear hW
  generalize hG : u21.heap.size = g15 at *
  clear hG
  go_wp2_with fail
  refine (num_any 4621256167635550208 _).mono ?_; rintro e u23 ⟨rfl, hb⟩
  replace HT9 := hidB (HT9.out.on hb)
  replace P11 := hidB (P11.out.on hb)
  replace P13 := hidB (P13.out.on hb)
  replace P15 := hidB (P15.out.on hb)
  replace HQ5 := hidB (Nat.le_trans HQ5.out hb.size)
  replace HQ7 := hidB (Nat.le_trans HQ7.out hb.size)
  replace HQ9 := hidB (Nat.le_trans HQ9.out hb.size)
  replace B := hidB (B.out.trans (hb.mono B.out.size))
  clear hb
  go_wp2_with fail
  refine (given_any (nuI 4621256167635550208) _).mono ?_; rintro e u24 ⟨rfl, hb⟩
  replace HT9 := hidB (HT9.out.on hb)
  replace P11 := hidB (P11.out.on hb)
  replace P13 := hidB (P13.out.on hb)
  replace P15 := hidB (P15.out.on hb)
  replace HQ5 := hidB (Nat.le_trans HQ5.out hb.size)
  replace HQ7 := hidB (Nat.le_trans HQ7.out hb.size)
  replace HQ9 := hidB (Nat.le_trans HQ9.out hb.size)
  replace B := hidB (B.out.trans (hb.mono B.out.size))
  clear hb
  go_wp2_with fail
  have HLCP11 := hidB P11.out.lt
  have HLCP13 := hidB P13.out.lt
  have HLCP15 := hidB P15.out.lt
  refine (tk_next (startS (fuI 3) (nuI 4619567317775286272) [(nuI 4620693217682128896)]) T9 (.wait []) _ (fun k => ((fun k => k < (u15.alloc (.cells #[.int .u8 3, .float .f64 4620693217682128896, .string ⟨#[]⟩, .int .i64 0] 24)).heap.size ∨ u16.heap.size ≤ k) k ∧ k < u20.heap.size) ∨ g15 ≤ k) (doneI (nuI 4621256167635550208)) u24 HT9.out (by have := HL9.out; have := HQ9.out; omega) (show (0 : Nat) < 899 by decide) ⟨show (0 : Int) ≤ 0 by decide, show (0 : Int) ≤ 0 by decide, show (0 : Int) ≤ 0 by decide⟩ (by decide) rfl).mono ?_; rintro e u25 ⟨wt, n, rfl, hone, hk, hr⟩
  have HONE := hidB hone
  clear hone
  replace P11 := hidB (P11.out.kept hk (fun h => h.1 HNP11_9.out))
  replace P13 := hidB (P13.out.kept hk (fun h => h.1 HNP13_9.out))
  replace P15 := hidB (P15.out.kept hk (fun h => h.1 HNP15_9.out))
  replace B := hidB (B.out.trans (hk.toBelow B.out.size (fun k h => Nat.le_trans HW9.out h.2)))
  replace HQ5 := hidB (Nat.le_trans HQ5.out hk.size)
  replace HQ7 := hidB (Nat.le_trans HQ7.out hk.size)
  replace HQ9 := hidB (Nat.le_trans HQ9.out hk.size)
  have HKS := hidB hk.size
  clear hk
  unfold TKR at hr
  rw [n_y] at hr
  obtain ⟨rfl, hw, hT⟩ := hr
  rw [s_y] at hw hT
  obtain ⟨_, _, kv, hwt, hown⟩ := hw
  subst hwt
  obtain ⟨qk17, ck17, hav⟩ := own_slice hown
  subst hav
  clear hown
  have R := hidB (show Bk (u25.alloc (.cells Try.zeroCells45 45)) u25.heap.size 45 WI.zero.cs from Bk.new u25 _ _)
  have HFE := hidB (show Kept (fun k => k = u25.heap.size) u25 ((u25.alloc (.cells Try.zeroCells45 45)).setRow u25.heap.size (endW ((doneI (nuI 4621256167635550208)).put (.slice qk17 0 ck17))).cs) from ((Kept.refl (fun k => k = u25.heap.size) u25).alloc _).setRow (.inl rfl) _)
  go_upto_region 12 with (first | ((with_reducible refine stId 45 (.tmp 17) (.tmp 175) ?_); refine wpList_store_row (by rfl) 45 (.tmp 17) (.tmp 175) (by rfl) (u25.heap.size) ((endW ((doneI (nuI 4621256167635550208)).put (.slice qk17 0 ck17))).cs) (by rfl) (by rfl) 45 (WI.zero.cs) (by exact R.out) (by kernel_rfl) (by rfl) (by exact HONE.out) ?_))
  replace P11 := hidB (P11.out.kept HFE.out (Nat.ne_of_lt P11.out.lt))
  replace P13 := hidB (P13.out.kept HFE.out (Nat.ne_of_lt P13.out.lt))
  replace P15 := hidB (P15.out.kept HFE.out (Nat.ne_of_lt P15.out.lt))
  have P17 := hidB (show Bk ((u25.alloc (.cells Try.zeroCells45 45)).setRow u25.heap.size (endW ((doneI (nuI 4621256167635550208)).put (.slice qk17 0 ck17))).cs) u25.heap.size 45 (endW ((doneI (nuI 4621256167635550208)).put (.slice qk17 0 ck17))).cs from R.out.setRow _)
  have hT2 := hT.kept HFE.out (fun k _ h => Nat.ne_of_lt h)
  clear HT9 hT
  have HT9 := hidB hT2
  clear hT2
  replace HNP11_9 := hidB (show ((fun k => ((fun k => k < (u15.alloc (.cells #[.int .u8 3, .float .f64 4620693217682128896, .string ⟨#[]⟩, .int .i64 0] 24)).heap.size ∨ u16.heap.size ≤ k) k ∧ k < u20.heap.size) ∨ g15 ≤ k) g11 ∧ g11 < u24.heap.size) ∨ u25.heap.size ≤ g11 from .inl ⟨HNP11_9.out, HLCP11.out⟩)
  replace HNP13_9 := hidB (show ((fun k => ((fun k => k < (u15.alloc (.cells #[.int .u8 3, .float .f64 4620693217682128896, .string ⟨#[]⟩, .int .i64 0] 24)).heap.size ∨ u16.heap.size ≤ k) k ∧ k < u20.heap.size) ∨ g15 ≤ k) g13 ∧ g13 < u24.heap.size) ∨ u25.heap.size ≤ g13 from .inl ⟨HNP13_9.out, HLCP13.out⟩)
  replace HNP15_9 := hidB (show ((fun k => ((fun k => k < (u15.alloc (.cells #[.int .u8 3, .float .f64 4620693217682128896, .string ⟨#[]⟩, .int .i64 0] 24)).heap.size ∨ u16.heap.size ≤ k) k ∧ k < u20.heap.size) ∨ g15 ≤ k) g15 ∧ g15 < u24.heap.size) ∨ u25.heap.size ≤ g15 from .inl ⟨HNP15_9.out, HLCP15.out⟩)
  have HNP17_9 := hidB (show ((fun k => ((fun k => k < (u15.alloc (.cells #[.int .u8 3, .float .f64 4620693217682128896, .string ⟨#[]⟩, .int .i64 0] 24)).heap.size ∨ u16.heap.size ≤ k) k ∧ k < u20.heap.size) ∨ g15 ≤ k) u25.heap.size ∧ u25.heap.size < u24.heap.size) ∨ u25.heap.size ≤ u25.heap.size from .inr (Nat.le_refl _))
  replace B := hidB (show Below w.heap.size w ((u25.alloc (.cells Try.zeroCells45 45)).setRow u25.heap.size (endW ((doneI (nuI 4621256167635550208)).put (.slice qk17 0 ck17))).cs) from below_setRow (B.out.alloc B.out.size _) B.out.size _)
  replace HQ5 := hidB (Nat.le_trans HQ5.out HFE.out.size)
  replace HQ7 := hidB (Nat.le_trans HQ7.out HFE.out.size)
  replace HQ9 := hidB (Nat.le_trans HQ9.out HFE.out.size)
  clear R HFE HONE HKS HLCP11 HLCP13 HLCP15
  generalize hW : ((u25.alloc (.cells Try.zeroCells45 45)).setRow u25.heap.size (endW ((doneI (nuI 4621256167635550208)).put (.slice qk17 0 ck17))).cs) = u26 at *
  clear hW
  generalize hG : u25.heap.size = g17 at *
  clear hG
  go_wp2_with fail
  refine (num_any 4621256167635550208 _).mono ?_; rintro e u27 ⟨rfl, hb⟩
  replace HT9 := hidB (HT9.out.on hb)
  replace P11 := hidB (P11.out.on hb)
  replace P13 := hidB (P13.out.on hb)
  replace P15 := hidB (P15.out.on hb)
  replace P17 := hidB (P17.out.on hb)
  replace HQ5 := hidB (Nat.le_trans HQ5.out hb.size)
  replace HQ7 := hidB (Nat.le_trans HQ7.out hb.size)
  replace HQ9 := hidB (Nat.le_trans HQ9.out hb.size)
  replace B := hidB (B.out.trans (hb.mono B.out.size))
  clear hb
  go_wp2_with fail
  refine (given_any (nuI 4621256167635550208) _).mono ?_; rintro e u28 ⟨rfl, hb⟩
  replace HT9 := hidB (HT9.out.on hb)
  replace P11 := hidB (P11.out.on hb)
  replace P13 := hidB (P13.out.on hb)
  replace P15 := hidB (P15.out.on hb)
  replace P17 := hidB (P17.out.on hb)
  replace HQ5 := hidB (Nat.le_trans HQ5.out hb.size)
  replace HQ7 := hidB (Nat.le_trans HQ7.out hb.size)
  replace HQ9 := hidB (Nat.le_trans HQ9.out hb.size)
  replace B := hidB (B.out.trans (hb.mono B.out.size))
  clear hb
  go_wp2_with fail
  have HLCP11 := hidB P11.out.lt
  have HLCP13 := hidB P13.out.lt
  have HLCP15 := hidB P15.out.lt
  have HLCP17 := hidB P17.out.lt
  refine (tk_next (startS (fuI 3) (nuI 4619567317775286272) [(nuI 4620693217682128896)]) T9 (.over) _ (fun k => ((fun k => ((fun k => k < (u15.alloc (.cells #[.int .u8 3, .float .f64 4620693217682128896, .string ⟨#[]⟩, .int .i64 0] 24)).heap.size ∨ u16.heap.size ≤ k) k ∧ k < u20.heap.size) ∨ g15 ≤ k) k ∧ k < u24.heap.size) ∨ g17 ≤ k) (doneI (nuI 4621256167635550208)) u28 HT9.out (by have := HL9.out; have := HQ9.out; omega) trivial ⟨show (0 : Int) ≤ 0 by decide, show (0 : Int) ≤ 0 by decide, show (0 : Int) ≤ 0 by decide⟩ (by decide) rfl).mono ?_; rintro e u29 ⟨wt, n, rfl, hone, hk, hr⟩
  have HONE := hidB hone
  clear hone
  replace P11 := hidB (P11.out.kept hk (fun h => h.1 HNP11_9.out))
  replace P13 := hidB (P13.out.kept hk (fun h => h.1 HNP13_9.out))
  replace P15 := hidB (P15.out.kept hk (fun h => h.1 HNP15_9.out))
  replace P17 := hidB (P17.out.kept hk (fun h => h.1 HNP17_9.out))
  replace B := hidB (B.out.trans (hk.toBelow B.out.size (fun k h => Nat.le_trans HW9.out h.2)))
  replace HQ5 := hidB (Nat.le_trans HQ5.out hk.size)
  replace HQ7 := hidB (Nat.le_trans HQ7.out hk.size)
  replace HQ9 := hidB (Nat.le_trans HQ9.out hk.size)
  have HKS := hidB hk.size
  clear hk
  unfold TKR at hr
  rw [show nextQ (startS (fuI 3) (nuI 4619567317775286272) [(nuI 4620693217682128896)]) (doneI (nuI 4621256167635550208)) [] .over = none from rfl] at hr
  obtain rfl : n = 160 := hr
  clear HT9
  have R := hidB (show Bk (u29.alloc (.cells Try.zeroCells45 45)) u29.heap.size 45 WI.zero.cs from Bk.new u29 _ _)
  have HFE := hidB (show Kept (fun k => k = u29.heap.size) u29 ((u29.alloc (.cells Try.zeroCells45 45)).setRow u29.heap.size wt.cs) from ((Kept.refl (fun k => k = u29.heap.size) u29).alloc _).setRow (.inl rfl) _)
  go_upto_region 13 with (first | ((with_reducible refine stId 45 (.tmp 19) (.tmp 182) ?_); refine wpList_store_row (by rfl) 45 (.tmp 19) (.tmp 182) (by rfl) (u29.heap.size) (wt.cs) (by rfl) (by rfl) 45 (WI.zero.cs) (by exact R.out) (by kernel_rfl) (by rfl) (by exact HONE.out) ?_))
  replace P11 := hidB (P11.out.kept HFE.out (Nat.ne_of_lt P11.out.lt))
  replace P13 := hidB (P13.out.kept HFE.out (Nat.ne_of_lt P13.out.lt))
  replace P15 := hidB (P15.out.kept HFE.out (Nat.ne_of_lt P15.out.lt))
  replace P17 := hidB (P17.out.kept HFE.out (Nat.ne_of_lt P17.out.lt))
  have P19 := hidB (show Bk ((u29.alloc (.cells Try.zeroCells45 45)).setRow u29.heap.size wt.cs) u29.heap.size 45 wt.cs from R.out.setRow _)
  replace B := hidB (show Below w.heap.size w ((u29.alloc (.cells Try.zeroCells45 45)).setRow u29.heap.size wt.cs) from below_setRow (B.out.alloc B.out.size _) B.out.size _)
  replace HQ5 := hidB (Nat.le_trans HQ5.out HFE.out.size)
  replace HQ7 := hidB (Nat.le_trans HQ7.out HFE.out.size)
  replace HQ9 := hidB (Nat.le_trans HQ9.out HFE.out.size)
  clear R HFE HONE HKS HLCP11 HLCP13 HLCP15 HLCP17
  generalize hW : ((u29.alloc (.cells Try.zeroCells45 45)).setRow u29.heap.size wt.cs) = u30 at *
  clear hW
  generalize hG : u29.heap.size = g19 at *
  clear hG
  try simp only [Act.put]
  go_cut [21] from 184 to 235 (fun s21 wx => s21 = .bool true ∧ Below w.heap.size w wx)
  case first => as_aux_lemma =>
    refine wp_region_noPanic ?_
    refine wp_region_held_drew (S := fun W => Bk W g11 45 (endW (typeI.put (.slice qk11 0 ck11))).cs ∧ Bk W g13 45 (endW (typeI.put (.slice qk13 0 ck13))).cs ∧ Bk W g15 45 (methW (callA 12 (fuI 3) (nuI 4619567317775286272) (.slice q9 1 c9))).cs ∧ Bk W g17 45 (endW ((doneI (nuI 4621256167635550208)).put (.slice qk17 0 ck17))).cs) (by kernel_rfl) ?_ (fun hHeld => ?_)
    · exact ⟨P11.out.drew, P13.out.drew, P15.out.drew, P17.out.drew⟩
    replace B := hidB (show Below w.heap.size w u30.drew from B.out.drew)
    generalize hWd : u30.drew = wd at *
    clear hWd
    first | (refine wpAnyH_take (i := 0) (v := undef) (by simp only [List.getElem?_toArray, List.getElem?_cons_zero]; exact rfl) (by kernel_rfl) (by kernel_rfl) (by kernel_rfl) (fun _ _ _ h => h) (Or.inr ⟨?_, rfl⟩) (by assumption) ?_; (rfl); try simp only [Act.put, List.setIfInBounds_toArray, List.set_cons_zero, List.set_cons_succ]) | (refine wpAnyH_take (i := 0) (v := ?_) (by simp only [List.getElem?_toArray, List.getElem?_cons_zero]; exact rfl) (by kernel_rfl) (by kernel_rfl) (by kernel_rfl) (fun _ _ _ h => h) (Or.inl ⟨?_, ?_⟩) (by assumption) ?_; rotate_left; (rfl); (focus (intro w hSw; (try dsimp only at hSw); go_simp; try with_reducible rfl)); try simp only [Act.put, List.setIfInBounds_toArray, List.set_cons_zero, List.set_cons_succ])
    first | (refine wpAnyH_take (i := 1) (v := undef) (by simp only [List.getElem?_toArray, List.getElem?_cons_succ, List.getElem?_cons_zero]; exact rfl) (by kernel_rfl) (by kernel_rfl) (by kernel_rfl) (fun _ _ _ h => h) (Or.inr ⟨?_, rfl⟩) (by assumption) ?_; (rfl); try simp only [Act.put, List.setIfInBounds_toArray, List.set_cons_zero, List.set_cons_succ]) | (refine wpAnyH_take (i := 1) (v := ?_) (by simp only [List.getElem?_toArray, List.getElem?_cons_succ, List.getElem?_cons_zero]; exact rfl) (by kernel_rfl) (by kernel_rfl) (by kernel_rfl) (fun _ _ _ h => h) (Or.inl ⟨?_, ?_⟩) (by assumption) ?_; rotate_left; (rfl); (focus (intro w hSw; (try dsimp only at hSw); go_simp; try with_reducible rfl)); try simp only [Act.put, List.setIfInBounds_toArray, List.set_cons_zero, List.set_cons_succ])
    first | (refine wpAnyH_take (i := 2) (v := undef) (by simp only [List.getElem?_toArray, List.getElem?_cons_succ, List.getElem?_cons_zero]; exact rfl) (by kernel_rfl) (by kernel_rfl) (by kernel_rfl) (fun _ _ _ h => h) (Or.inr ⟨?_, rfl⟩) (by assumption) ?_; (rfl); try simp only [Act.put, List.setIfInBounds_toArray, List.set_cons_zero, List.set_cons_succ]) | (refine wpAnyH_take (i := 2) (v := ?_) (by simp only [List.getElem?_toArray, List.getElem?_cons_succ, List.getElem?_cons_zero]; exact rfl) (by kernel_rfl) (by kernel_rfl) (by kernel_rfl) (fun _ _ _ h => h) (Or.inl ⟨?_, ?_⟩) (by assumption) ?_; rotate_left; (rfl); (focus (intro W hSw; have hc0 := (show W.cell? ⟨g11, 85, none⟩ = some (.int .u8 1) from hSw.1.cell 85); clear hSw; go_simp; try with_reducible rfl)); try simp only [Act.put, List.setIfInBounds_toArray, List.set_cons_zero, List.set_cons_succ])
    first | (refine wpAnyH_take (i := 3) (v := undef) (by simp only [List.getElem?_toArray, List.getElem?_cons_succ, List.getElem?_cons_zero]; exact rfl) (by kernel_rfl) (by kernel_rfl) (by kernel_rfl) (fun _ _ _ h => h) (Or.inr ⟨?_, rfl⟩) (by assumption) ?_; (rfl); try simp only [Act.put, List.setIfInBounds_toArray, List.set_cons_zero, List.set_cons_succ]) | (refine wpAnyH_take (i := 3) (v := ?_) (by simp only [List.getElem?_toArray, List.getElem?_cons_succ, List.getElem?_cons_zero]; exact rfl) (by kernel_rfl) (by kernel_rfl) (by kernel_rfl) (fun _ _ _ h => h) (Or.inl ⟨?_, ?_⟩) (by assumption) ?_; rotate_left; (rfl); (focus (intro w hSw; (try dsimp only at hSw); go_simp; try with_reducible rfl)); try simp only [Act.put, List.setIfInBounds_toArray, List.set_cons_zero, List.set_cons_succ])
    first | (refine wpAnyH_take (i := 4) (v := undef) (by simp only [List.getElem?_toArray, List.getElem?_cons_succ, List.getElem?_cons_zero]; exact rfl) (by kernel_rfl) (by kernel_rfl) (by kernel_rfl) (fun _ _ _ h => h) (Or.inr ⟨?_, rfl⟩) (by assumption) ?_; (rfl); try simp only [Act.put, List.setIfInBounds_toArray, List.set_cons_zero, List.set_cons_succ]) | (refine wpAnyH_take (i := 4) (v := ?_) (by simp only [List.getElem?_toArray, List.getElem?_cons_succ, List.getElem?_cons_zero]; exact rfl) (by kernel_rfl) (by kernel_rfl) (by kernel_rfl) (fun _ _ _ h => h) (Or.inl ⟨?_, ?_⟩) (by assumption) ?_; rotate_left; (rfl); (focus (intro w hSw; (try dsimp only at hSw); go_simp; try with_reducible rfl)); try simp only [Act.put, List.setIfInBounds_toArray, List.set_cons_zero, List.set_cons_succ])
    first | (refine wpAnyH_take (i := 5) (v := undef) (by simp only [List.getElem?_toArray, List.getElem?_cons_succ, List.getElem?_cons_zero]; exact rfl) (by kernel_rfl) (by kernel_rfl) (by kernel_rfl) (fun _ _ _ h => h) (Or.inr ⟨?_, rfl⟩) (by assumption) ?_; (rfl); try simp only [Act.put, List.setIfInBounds_toArray, List.set_cons_zero, List.set_cons_succ]) | (refine wpAnyH_take (i := 5) (v := ?_) (by simp only [List.getElem?_toArray, List.getElem?_cons_succ, List.getElem?_cons_zero]; exact rfl) (by kernel_rfl) (by kernel_rfl) (by kernel_rfl) (fun _ _ _ h => h) (Or.inl ⟨?_, ?_⟩) (by assumption) ?_; rotate_left; (rfl); (focus (intro w hSw; (try dsimp only at hSw); go_simp; try with_reducible rfl)); try simp only [Act.put, List.setIfInBounds_toArray, List.set_cons_zero, List.set_cons_succ])
    first | (refine wpAnyH_take (i := 6) (v := undef) (by simp only [List.getElem?_toArray, List.getElem?_cons_succ, List.getElem?_cons_zero]; exact rfl) (by kernel_rfl) (by kernel_rfl) (by kernel_rfl) (fun _ _ _ h => h) (Or.inr ⟨?_, rfl⟩) (by assumption) ?_; (rfl); try simp only [Act.put, List.setIfInBounds_toArray, List.set_cons_zero, List.set_cons_succ]) | (refine wpAnyH_take (i := 6) (v := ?_) (by simp only [List.getElem?_toArray, List.getElem?_cons_succ, List.getElem?_cons_zero]; exact rfl) (by kernel_rfl) (by kernel_rfl) (by kernel_rfl) (fun _ _ _ h => h) (Or.inl ⟨?_, ?_⟩) (by assumption) ?_; rotate_left; (rfl); (focus (intro w hSw; (try dsimp only at hSw); go_simp; try with_reducible rfl)); try simp only [Act.put, List.setIfInBounds_toArray, List.set_cons_zero, List.set_cons_succ])
    first | (refine wpAnyH_take (i := 7) (v := undef) (by simp only [List.getElem?_toArray, List.getElem?_cons_succ, List.getElem?_cons_zero]; exact rfl) (by kernel_rfl) (by kernel_rfl) (by kernel_rfl) (fun _ _ _ h => h) (Or.inr ⟨?_, rfl⟩) (by assumption) ?_; (rfl); try simp only [Act.put, List.setIfInBounds_toArray, List.set_cons_zero, List.set_cons_succ]) | (refine wpAnyH_take (i := 7) (v := ?_) (by simp only [List.getElem?_toArray, List.getElem?_cons_succ, List.getElem?_cons_zero]; exact rfl) (by kernel_rfl) (by kernel_rfl) (by kernel_rfl) (fun _ _ _ h => h) (Or.inl ⟨?_, ?_⟩) (by assumption) ?_; rotate_left; (rfl); (focus (intro W hSw; have hc0 := (show W.cell? ⟨g13, 85, none⟩ = some (.int .u8 1) from hSw.2.1.cell 85); clear hSw; go_simp; try with_reducible rfl)); try simp only [Act.put, List.setIfInBounds_toArray, List.set_cons_zero, List.set_cons_succ])
    first | (refine wpAnyH_take (i := 8) (v := undef) (by simp only [List.getElem?_toArray, List.getElem?_cons_succ, List.getElem?_cons_zero]; exact rfl) (by kernel_rfl) (by kernel_rfl) (by kernel_rfl) (fun _ _ _ h => h) (Or.inr ⟨?_, rfl⟩) (by assumption) ?_; (rfl); try simp only [Act.put, List.setIfInBounds_toArray, List.set_cons_zero, List.set_cons_succ]) | (refine wpAnyH_take (i := 8) (v := ?_) (by simp only [List.getElem?_toArray, List.getElem?_cons_succ, List.getElem?_cons_zero]; exact rfl) (by kernel_rfl) (by kernel_rfl) (by kernel_rfl) (fun _ _ _ h => h) (Or.inl ⟨?_, ?_⟩) (by assumption) ?_; rotate_left; (rfl); (focus (intro w hSw; (try dsimp only at hSw); go_simp; try with_reducible rfl)); try simp only [Act.put, List.setIfInBounds_toArray, List.set_cons_zero, List.set_cons_succ])
    first | (refine wpAnyH_take (i := 9) (v := undef) (by simp only [List.getElem?_toArray, List.getElem?_cons_succ, List.getElem?_cons_zero]; exact rfl) (by kernel_rfl) (by kernel_rfl) (by kernel_rfl) (fun _ _ _ h => h) (Or.inr ⟨?_, rfl⟩) (by assumption) ?_; (rfl); try simp only [Act.put, List.setIfInBounds_toArray, List.set_cons_zero, List.set_cons_succ]) | (refine wpAnyH_take (i := 9) (v := ?_) (by simp only [List.getElem?_toArray, List.getElem?_cons_succ, List.getElem?_cons_zero]; exact rfl) (by kernel_rfl) (by kernel_rfl) (by kernel_rfl) (fun _ _ _ h => h) (Or.inl ⟨?_, ?_⟩) (by assumption) ?_; rotate_left; (rfl); (focus (intro w hSw; (try dsimp only at hSw); go_simp; try with_reducible rfl)); try simp only [Act.put, List.setIfInBounds_toArray, List.set_cons_zero, List.set_cons_succ])
    first | (refine wpAnyH_take (i := 10) (v := undef) (by simp only [List.getElem?_toArray, List.getElem?_cons_succ, List.getElem?_cons_zero]; exact rfl) (by kernel_rfl) (by kernel_rfl) (by kernel_rfl) (fun _ _ _ h => h) (Or.inr ⟨?_, rfl⟩) (by assumption) ?_; (rfl); try simp only [Act.put, List.setIfInBounds_toArray, List.set_cons_zero, List.set_cons_succ]) | (refine wpAnyH_take (i := 10) (v := ?_) (by simp only [List.getElem?_toArray, List.getElem?_cons_succ, List.getElem?_cons_zero]; exact rfl) (by kernel_rfl) (by kernel_rfl) (by kernel_rfl) (fun _ _ _ h => h) (Or.inl ⟨?_, ?_⟩) (by assumption) ?_; rotate_left; (rfl); (focus (intro w hSw; (try dsimp only at hSw); go_simp; try with_reducible rfl)); try simp only [Act.put, List.setIfInBounds_toArray, List.set_cons_zero, List.set_cons_succ])
    first | (refine wpAnyH_take (i := 11) (v := undef) (by simp only [List.getElem?_toArray, List.getElem?_cons_succ, List.getElem?_cons_zero]; exact rfl) (by kernel_rfl) (by kernel_rfl) (by kernel_rfl) (fun _ _ _ h => h) (Or.inr ⟨?_, rfl⟩) (by assumption) ?_; (rfl); try simp only [Act.put, List.setIfInBounds_toArray, List.set_cons_zero, List.set_cons_succ]) | (refine wpAnyH_take (i := 11) (v := ?_) (by simp only [List.getElem?_toArray, List.getElem?_cons_succ, List.getElem?_cons_zero]; exact rfl) (by kernel_rfl) (by kernel_rfl) (by kernel_rfl) (fun _ _ _ h => h) (Or.inl ⟨?_, ?_⟩) (by assumption) ?_; rotate_left; (rfl); (focus (intro w hSw; (try dsimp only at hSw); go_simp; try with_reducible rfl)); try simp only [Act.put, List.setIfInBounds_toArray, List.set_cons_zero, List.set_cons_succ])
    first | (refine wpAnyH_take (i := 12) (v := undef) (by simp only [List.getElem?_toArray, List.getElem?_cons_succ, List.getElem?_cons_zero]; exact rfl) (by kernel_rfl) (by kernel_rfl) (by kernel_rfl) (fun _ _ _ h => h) (Or.inr ⟨?_, rfl⟩) (by assumption) ?_; (rfl); try simp only [Act.put, List.setIfInBounds_toArray, List.set_cons_zero, List.set_cons_succ]) | (refine wpAnyH_take (i := 12) (v := ?_) (by simp only [List.getElem?_toArray, List.getElem?_cons_succ, List.getElem?_cons_zero]; exact rfl) (by kernel_rfl) (by kernel_rfl) (by kernel_rfl) (fun _ _ _ h => h) (Or.inl ⟨?_, ?_⟩) (by assumption) ?_; rotate_left; (rfl); (focus (intro w hSw; (try dsimp only at hSw); go_simp; try with_reducible rfl)); try simp only [Act.put, List.setIfInBounds_toArray, List.set_cons_zero, List.set_cons_succ])
    first | (refine wpAnyH_take (i := 13) (v := undef) (by simp only [List.getElem?_toArray, List.getElem?_cons_succ, List.getElem?_cons_zero]; exact rfl) (by kernel_rfl) (by kernel_rfl) (by kernel_rfl) (fun _ _ _ h => h) (Or.inr ⟨?_, rfl⟩) (by assumption) ?_; (rfl); try simp only [Act.put, List.setIfInBounds_toArray, List.set_cons_zero, List.set_cons_succ]) | (refine wpAnyH_take (i := 13) (v := ?_) (by simp only [List.getElem?_toArray, List.getElem?_cons_succ, List.getElem?_cons_zero]; exact rfl) (by kernel_rfl) (by kernel_rfl) (by kernel_rfl) (fun _ _ _ h => h) (Or.inl ⟨?_, ?_⟩) (by assumption) ?_; rotate_left; (rfl); (focus (intro W hSw; have hc0 := (show W.cell? ⟨g15, 1, none⟩ = some (.int .u8 12) from hSw.2.2.1.cell 1); clear hSw; go_simp; try with_reducible rfl)); try simp only [Act.put, List.setIfInBounds_toArray, List.set_cons_zero, List.set_cons_succ])
    first | (refine wpAnyH_take (i := 14) (v := undef) (by simp only [List.getElem?_toArray, List.getElem?_cons_succ, List.getElem?_cons_zero]; exact rfl) (by kernel_rfl) (by kernel_rfl) (by kernel_rfl) (fun _ _ _ h => h) (Or.inr ⟨?_, rfl⟩) (by assumption) ?_; (rfl); try simp only [Act.put, List.setIfInBounds_toArray, List.set_cons_zero, List.set_cons_succ]) | (refine wpAnyH_take (i := 14) (v := ?_) (by simp only [List.getElem?_toArray, List.getElem?_cons_succ, List.getElem?_cons_zero]; exact rfl) (by kernel_rfl) (by kernel_rfl) (by kernel_rfl) (fun _ _ _ h => h) (Or.inl ⟨?_, ?_⟩) (by assumption) ?_; rotate_left; (rfl); (focus (intro w hSw; (try dsimp only at hSw); go_simp; try with_reducible rfl)); try simp only [Act.put, List.setIfInBounds_toArray, List.set_cons_zero, List.set_cons_succ])
    first | (refine wpAnyH_take (i := 15) (v := undef) (by simp only [List.getElem?_toArray, List.getElem?_cons_succ, List.getElem?_cons_zero]; exact rfl) (by kernel_rfl) (by kernel_rfl) (by kernel_rfl) (fun _ _ _ h => h) (Or.inr ⟨?_, rfl⟩) (by assumption) ?_; (rfl); try simp only [Act.put, List.setIfInBounds_toArray, List.set_cons_zero, List.set_cons_succ]) | (refine wpAnyH_take (i := 15) (v := ?_) (by simp only [List.getElem?_toArray, List.getElem?_cons_succ, List.getElem?_cons_zero]; exact rfl) (by kernel_rfl) (by kernel_rfl) (by kernel_rfl) (fun _ _ _ h => h) (Or.inl ⟨?_, ?_⟩) (by assumption) ?_; rotate_left; (rfl); (focus (intro w hSw; (try dsimp only at hSw); go_simp; try with_reducible rfl)); try simp only [Act.put, List.setIfInBounds_toArray, List.set_cons_zero, List.set_cons_succ])
    first | (refine wpAnyH_take (i := 16) (v := undef) (by simp only [List.getElem?_toArray, List.getElem?_cons_succ, List.getElem?_cons_zero]; exact rfl) (by kernel_rfl) (by kernel_rfl) (by kernel_rfl) (fun _ _ _ h => h) (Or.inr ⟨?_, rfl⟩) (by assumption) ?_; (rfl); try simp only [Act.put, List.setIfInBounds_toArray, List.set_cons_zero, List.set_cons_succ]) | (refine wpAnyH_take (i := 16) (v := ?_) (by simp only [List.getElem?_toArray, List.getElem?_cons_succ, List.getElem?_cons_zero]; exact rfl) (by kernel_rfl) (by kernel_rfl) (by kernel_rfl) (fun _ _ _ h => h) (Or.inl ⟨?_, ?_⟩) (by assumption) ?_; rotate_left; (rfl); (focus (intro w hSw; (try dsimp only at hSw); go_simp; try with_reducible rfl)); try simp only [Act.put, List.setIfInBounds_toArray, List.set_cons_zero, List.set_cons_succ])
    first | (refine wpAnyH_take (i := 17) (v := undef) (by simp only [List.getElem?_toArray, List.getElem?_cons_succ, List.getElem?_cons_zero]; exact rfl) (by kernel_rfl) (by kernel_rfl) (by kernel_rfl) (fun _ _ _ h => h) (Or.inr ⟨?_, rfl⟩) (by assumption) ?_; (rfl); try simp only [Act.put, List.setIfInBounds_toArray, List.set_cons_zero, List.set_cons_succ]) | (refine wpAnyH_take (i := 17) (v := ?_) (by simp only [List.getElem?_toArray, List.getElem?_cons_succ, List.getElem?_cons_zero]; exact rfl) (by kernel_rfl) (by kernel_rfl) (by kernel_rfl) (fun _ _ _ h => h) (Or.inl ⟨?_, ?_⟩) (by assumption) ?_; rotate_left; (rfl); (focus (intro w hSw; (try dsimp only at hSw); go_simp; try with_reducible rfl)); try simp only [Act.put, List.setIfInBounds_toArray, List.set_cons_zero, List.set_cons_succ])
    first | (refine wpAnyH_take (i := 18) (v := undef) (by simp only [List.getElem?_toArray, List.getElem?_cons_succ, List.getElem?_cons_zero]; exact rfl) (by kernel_rfl) (by kernel_rfl) (by kernel_rfl) (fun _ _ _ h => h) (Or.inr ⟨?_, rfl⟩) (by assumption) ?_; (rfl); try simp only [Act.put, List.setIfInBounds_toArray, List.set_cons_zero, List.set_cons_succ]) | (refine wpAnyH_take (i := 18) (v := ?_) (by simp only [List.getElem?_toArray, List.getElem?_cons_succ, List.getElem?_cons_zero]; exact rfl) (by kernel_rfl) (by kernel_rfl) (by kernel_rfl) (fun _ _ _ h => h) (Or.inl ⟨?_, ?_⟩) (by assumption) ?_; rotate_left; (rfl); (focus (intro w hSw; (try dsimp only at hSw); go_simp; try with_reducible rfl)); try simp only [Act.put, List.setIfInBounds_toArray, List.set_cons_zero, List.set_cons_succ])
    first | (refine wpAnyH_take (i := 19) (v := undef) (by simp only [List.getElem?_toArray, List.getElem?_cons_succ, List.getElem?_cons_zero]; exact rfl) (by kernel_rfl) (by kernel_rfl) (by kernel_rfl) (fun _ _ _ h => h) (Or.inr ⟨?_, rfl⟩) (by assumption) ?_; (rfl); try simp only [Act.put, List.setIfInBounds_toArray, List.set_cons_zero, List.set_cons_succ]) | (refine wpAnyH_take (i := 19) (v := ?_) (by simp only [List.getElem?_toArray, List.getElem?_cons_succ, List.getElem?_cons_zero]; exact rfl) (by kernel_rfl) (by kernel_rfl) (by kernel_rfl) (fun _ _ _ h => h) (Or.inl ⟨?_, ?_⟩) (by assumption) ?_; rotate_left; (rfl); (focus (intro W hSw; have hc0 := (show W.cell? ⟨g15, 2, none⟩ = some (.int .i64 3) from hSw.2.2.1.cell 2); clear hSw; go_simp; try with_reducible rfl)); try simp only [Act.put, List.setIfInBounds_toArray, List.set_cons_zero, List.set_cons_succ])
    first | (refine wpAnyH_take (i := 20) (v := undef) (by simp only [List.getElem?_toArray, List.getElem?_cons_succ, List.getElem?_cons_zero]; exact rfl) (by kernel_rfl) (by kernel_rfl) (by kernel_rfl) (fun _ _ _ h => h) (Or.inr ⟨?_, rfl⟩) (by assumption) ?_; (rfl); try simp only [Act.put, List.setIfInBounds_toArray, List.set_cons_zero, List.set_cons_succ]) | (refine wpAnyH_take (i := 20) (v := ?_) (by simp only [List.getElem?_toArray, List.getElem?_cons_succ, List.getElem?_cons_zero]; exact rfl) (by kernel_rfl) (by kernel_rfl) (by kernel_rfl) (fun _ _ _ h => h) (Or.inl ⟨?_, ?_⟩) (by assumption) ?_; rotate_left; (rfl); (focus (intro w hSw; (try dsimp only at hSw); go_simp; try with_reducible rfl)); try simp only [Act.put, List.setIfInBounds_toArray, List.set_cons_zero, List.set_cons_succ])
    first | (refine wpAnyH_take (i := 21) (v := undef) (by simp only [List.getElem?_toArray, List.getElem?_cons_succ, List.getElem?_cons_zero]; exact rfl) (by kernel_rfl) (by kernel_rfl) (by kernel_rfl) (fun _ _ _ h => h) (Or.inr ⟨?_, rfl⟩) (by assumption) ?_; (rfl); try simp only [Act.put, List.setIfInBounds_toArray, List.set_cons_zero, List.set_cons_succ]) | (refine wpAnyH_take (i := 21) (v := ?_) (by simp only [List.getElem?_toArray, List.getElem?_cons_succ, List.getElem?_cons_zero]; exact rfl) (by kernel_rfl) (by kernel_rfl) (by kernel_rfl) (fun _ _ _ h => h) (Or.inl ⟨?_, ?_⟩) (by assumption) ?_; rotate_left; (rfl); (focus (intro w hSw; (try dsimp only at hSw); go_simp; try with_reducible rfl)); try simp only [Act.put, List.setIfInBounds_toArray, List.set_cons_zero, List.set_cons_succ])
    first | (refine wpAnyH_take (i := 22) (v := undef) (by simp only [List.getElem?_toArray, List.getElem?_cons_succ, List.getElem?_cons_zero]; exact rfl) (by kernel_rfl) (by kernel_rfl) (by kernel_rfl) (fun _ _ _ h => h) (Or.inr ⟨?_, rfl⟩) (by assumption) ?_; (rfl); try simp only [Act.put, List.setIfInBounds_toArray, List.set_cons_zero, List.set_cons_succ]) | (refine wpAnyH_take (i := 22) (v := ?_) (by simp only [List.getElem?_toArray, List.getElem?_cons_succ, List.getElem?_cons_zero]; exact rfl) (by kernel_rfl) (by kernel_rfl) (by kernel_rfl) (fun _ _ _ h => h) (Or.inl ⟨?_, ?_⟩) (by assumption) ?_; rotate_left; (rfl); (focus (intro w hSw; (try dsimp only at hSw); go_simp; try with_reducible rfl)); try simp only [Act.put, List.setIfInBounds_toArray, List.set_cons_zero, List.set_cons_succ])
    first | (refine wpAnyH_take (i := 23) (v := undef) (by simp only [List.getElem?_toArray, List.getElem?_cons_succ, List.getElem?_cons_zero]; exact rfl) (by kernel_rfl) (by kernel_rfl) (by kernel_rfl) (fun _ _ _ h => h) (Or.inr ⟨?_, rfl⟩) (by assumption) ?_; (rfl); try simp only [Act.put, List.setIfInBounds_toArray, List.set_cons_zero, List.set_cons_succ]) | (refine wpAnyH_take (i := 23) (v := ?_) (by simp only [List.getElem?_toArray, List.getElem?_cons_succ, List.getElem?_cons_zero]; exact rfl) (by kernel_rfl) (by kernel_rfl) (by kernel_rfl) (fun _ _ _ h => h) (Or.inl ⟨?_, ?_⟩) (by assumption) ?_; rotate_left; (rfl); (focus (intro w hSw; (try dsimp only at hSw); go_simp; try with_reducible rfl)); try simp only [Act.put, List.setIfInBounds_toArray, List.set_cons_zero, List.set_cons_succ])
    first | (refine wpAnyH_take (i := 24) (v := undef) (by simp only [List.getElem?_toArray, List.getElem?_cons_succ, List.getElem?_cons_zero]; exact rfl) (by kernel_rfl) (by kernel_rfl) (by kernel_rfl) (fun _ _ _ h => h) (Or.inr ⟨?_, rfl⟩) (by assumption) ?_; (rfl); try simp only [Act.put, List.setIfInBounds_toArray, List.set_cons_zero, List.set_cons_succ]) | (refine wpAnyH_take (i := 24) (v := ?_) (by simp only [List.getElem?_toArray, List.getElem?_cons_succ, List.getElem?_cons_zero]; exact rfl) (by kernel_rfl) (by kernel_rfl) (by kernel_rfl) (fun _ _ _ h => h) (Or.inl ⟨?_, ?_⟩) (by assumption) ?_; rotate_left; (rfl); (focus (intro w hSw; (try dsimp only at hSw); go_simp; try with_reducible rfl)); try simp only [Act.put, List.setIfInBounds_toArray, List.set_cons_zero, List.set_cons_succ])
    (refine wpAnyH_take (i := 25) (v := (nuI 4619567317775286272).a) (by simp only [List.getElem?_toArray, List.getElem?_cons_succ, List.getElem?_cons_zero]; exact rfl) (by kernel_rfl) (by kernel_rfl) (by kernel_rfl) (fun _ _ _ h => h) (yieldsIf_load_mid (by rfl) 24 (.tmp 208) (by rfl) (g15) (21) (by rfl) ((nuI 4619567317775286272).cells) _ (fun W hS => Bk.mid hS.2.2.1 21 _ rfl) Try.underlying24 (by rfl) (by kernel_rfl)) (by assumption) ?_; try simp only [Act.put, List.setIfInBounds_toArray, List.set_cons_zero, List.set_cons_succ])
    refine wpAnyH_ready (rs := [26]) (by kernel_rfl) (by simp) ?_
    refine AllReadyH.cons rfl (fun K hK => ?_) AllReadyH.nil
    go_simp
    refine (numI_any 4619567317775286272 _).mono ?_; rintro e tt2 ⟨rfl, hb⟩
    replace B := hidB (B.out.trans (hb.mono B.out.size))
    replace hHeld := And.intro (hHeld.1.on hb) (And.intro (hHeld.2.1.on hb) (And.intro (hHeld.2.2.1.on hb) (hHeld.2.2.2.on hb)))
    clear hb
    refine hK.out _ _ hHeld (fun _ => ?_)
    clear hK K
    try simp only [Act.put, List.setIfInBounds_toArray, List.set_cons_zero, List.set_cons_succ]
    first | (refine wpAnyH_take (i := 27) (v := undef) (by simp only [List.getElem?_toArray, List.getElem?_cons_succ, List.getElem?_cons_zero]; exact rfl) (by kernel_rfl) (by kernel_rfl) (by kernel_rfl) (fun _ _ _ h => h) (Or.inr ⟨?_, rfl⟩) (by assumption) ?_; (rfl); try simp only [Act.put, List.setIfInBounds_toArray, List.set_cons_zero, List.set_cons_succ]) | (refine wpAnyH_take (i := 27) (v := ?_) (by simp only [List.getElem?_toArray, List.getElem?_cons_succ, List.getElem?_cons_zero]; exact rfl) (by kernel_rfl) (by kernel_rfl) (by kernel_rfl) (fun _ _ _ h => h) (Or.inl ⟨?_, ?_⟩) (by assumption) ?_; rotate_left; (rfl); (focus (intro w hSw; (try dsimp only at hSw); go_simp; try with_reducible rfl)); try simp only [Act.put, List.setIfInBounds_toArray, List.set_cons_zero, List.set_cons_succ])
    first | (refine wpAnyH_take (i := 28) (v := undef) (by simp only [List.getElem?_toArray, List.getElem?_cons_succ, List.getElem?_cons_zero]; exact rfl) (by kernel_rfl) (by kernel_rfl) (by kernel_rfl) (fun _ _ _ h => h) (Or.inr ⟨?_, rfl⟩) (by assumption) ?_; (rfl); try simp only [Act.put, List.setIfInBounds_toArray, List.set_cons_zero, List.set_cons_succ]) | (refine wpAnyH_take (i := 28) (v := ?_) (by simp only [List.getElem?_toArray, List.getElem?_cons_succ, List.getElem?_cons_zero]; exact rfl) (by kernel_rfl) (by kernel_rfl) (by kernel_rfl) (fun _ _ _ h => h) (Or.inl ⟨?_, ?_⟩) (by assumption) ?_; rotate_left; (rfl); (focus (intro w hSw; (try dsimp only at hSw); go_simp; try with_reducible rfl)); try simp only [Act.put, List.setIfInBounds_toArray, List.set_cons_zero, List.set_cons_succ])
    first | (refine wpAnyH_take (i := 29) (v := undef) (by simp only [List.getElem?_toArray, List.getElem?_cons_succ, List.getElem?_cons_zero]; exact rfl) (by kernel_rfl) (by kernel_rfl) (by kernel_rfl) (fun _ _ _ h => h) (Or.inr ⟨?_, rfl⟩) (by assumption) ?_; (rfl); try simp only [Act.put, List.setIfInBounds_toArray, List.set_cons_zero, List.set_cons_succ]) | (refine wpAnyH_take (i := 29) (v := ?_) (by simp only [List.getElem?_toArray, List.getElem?_cons_succ, List.getElem?_cons_zero]; exact rfl) (by kernel_rfl) (by kernel_rfl) (by kernel_rfl) (fun _ _ _ h => h) (Or.inl ⟨?_, ?_⟩) (by assumption) ?_; rotate_left; (rfl); (focus (intro w hSw; (try dsimp only at hSw); go_simp; try with_reducible rfl)); try simp only [Act.put, List.setIfInBounds_toArray, List.set_cons_zero, List.set_cons_succ])
    first | (refine wpAnyH_take (i := 30) (v := undef) (by simp only [List.getElem?_toArray, List.getElem?_cons_succ, List.getElem?_cons_zero]; exact rfl) (by kernel_rfl) (by kernel_rfl) (by kernel_rfl) (fun _ _ _ h => h) (Or.inr ⟨?_, rfl⟩) (by assumption) ?_; (rfl); try simp only [Act.put, List.setIfInBounds_toArray, List.set_cons_zero, List.set_cons_succ]) | (refine wpAnyH_take (i := 30) (v := ?_) (by simp only [List.getElem?_toArray, List.getElem?_cons_succ, List.getElem?_cons_zero]; exact rfl) (by kernel_rfl) (by kernel_rfl) (by kernel_rfl) (fun _ _ _ h => h) (Or.inl ⟨?_, ?_⟩) (by assumption) ?_; rotate_left; (rfl); (focus (intro w hSw; (try dsimp only at hSw); go_simp; try with_reducible rfl)); try simp only [Act.put, List.setIfInBounds_toArray, List.set_cons_zero, List.set_cons_succ])
    first | (refine wpAnyH_take (i := 31) (v := undef) (by simp only [List.getElem?_toArray, List.getElem?_cons_succ, List.getElem?_cons_zero]; exact rfl) (by kernel_rfl) (by kernel_rfl) (by kernel_rfl) (fun _ _ _ h => h) (Or.inr ⟨?_, rfl⟩) (by assumption) ?_; (rfl); try simp only [Act.put, List.setIfInBounds_toArray, List.set_cons_zero, List.set_cons_succ]) | (refine wpAnyH_take (i := 31) (v := ?_) (by simp only [List.getElem?_toArray, List.getElem?_cons_succ, List.getElem?_cons_zero]; exact rfl) (by kernel_rfl) (by kernel_rfl) (by kernel_rfl) (fun _ _ _ h => h) (Or.inl ⟨?_, ?_⟩) (by assumption) ?_; rotate_left; (rfl); (focus (intro w hSw; (try dsimp only at hSw); go_simp; try with_reducible rfl)); try simp only [Act.put, List.setIfInBounds_toArray, List.set_cons_zero, List.set_cons_succ])
    first | (refine wpAnyH_take (i := 32) (v := undef) (by simp only [List.getElem?_toArray, List.getElem?_cons_succ, List.getElem?_cons_zero]; exact rfl) (by kernel_rfl) (by kernel_rfl) (by kernel_rfl) (fun _ _ _ h => h) (Or.inr ⟨?_, rfl⟩) (by assumption) ?_; (rfl); try simp only [Act.put, List.setIfInBounds_toArray, List.set_cons_zero, List.set_cons_succ]) | (refine wpAnyH_take (i := 32) (v := ?_) (by simp only [List.getElem?_toArray, List.getElem?_cons_succ, List.getElem?_cons_zero]; exact rfl) (by kernel_rfl) (by kernel_rfl) (by kernel_rfl) (fun _ _ _ h => h) (Or.inl ⟨?_, ?_⟩) (by assumption) ?_; rotate_left; (rfl); (focus (intro W hSw; have hc0 := (show W.cell? ⟨g15, 29, none⟩ = some (.slice q9 1 c9) from hSw.2.2.1.cell 29); clear hSw; go_simp; try with_reducible rfl)); try simp only [Act.put, List.setIfInBounds_toArray, List.set_cons_zero, List.set_cons_succ])
    first | (refine wpAnyH_take (i := 33) (v := undef) (by simp only [List.getElem?_toArray, List.getElem?_cons_succ, List.getElem?_cons_zero]; exact rfl) (by kernel_rfl) (by kernel_rfl) (by kernel_rfl) (fun _ _ _ h => h) (Or.inr ⟨?_, rfl⟩) (by assumption) ?_; (rfl); try simp only [Act.put, List.setIfInBounds_toArray, List.set_cons_zero, List.set_cons_succ]) | (refine wpAnyH_take (i := 33) (v := ?_) (by simp only [List.getElem?_toArray, List.getElem?_cons_succ, List.getElem?_cons_zero]; exact rfl) (by kernel_rfl) (by kernel_rfl) (by kernel_rfl) (fun _ _ _ h => h) (Or.inl ⟨?_, ?_⟩) (by assumption) ?_; rotate_left; (rfl); (focus (intro w hSw; (try dsimp only at hSw); go_simp; try with_reducible rfl)); try simp only [Act.put, List.setIfInBounds_toArray, List.set_cons_zero, List.set_cons_succ])
    first | (refine wpAnyH_take (i := 34) (v := undef) (by simp only [List.getElem?_toArray, List.getElem?_cons_succ, List.getElem?_cons_zero]; exact rfl) (by kernel_rfl) (by kernel_rfl) (by kernel_rfl) (fun _ _ _ h => h) (Or.inr ⟨?_, rfl⟩) (by assumption) ?_; (rfl); try simp only [Act.put, List.setIfInBounds_toArray, List.set_cons_zero, List.set_cons_succ]) | (refine wpAnyH_take (i := 34) (v := ?_) (by simp only [List.getElem?_toArray, List.getElem?_cons_succ, List.getElem?_cons_zero]; exact rfl) (by kernel_rfl) (by kernel_rfl) (by kernel_rfl) (fun _ _ _ h => h) (Or.inl ⟨?_, ?_⟩) (by assumption) ?_; rotate_left; (rfl); (focus (intro w hSw; (try dsimp only at hSw); go_simp; try with_reducible rfl)); try simp only [Act.put, List.setIfInBounds_toArray, List.set_cons_zero, List.set_cons_succ])
    first | (refine wpAnyH_take (i := 35) (v := undef) (by simp only [List.getElem?_toArray, List.getElem?_cons_succ, List.getElem?_cons_zero]; exact rfl) (by kernel_rfl) (by kernel_rfl) (by kernel_rfl) (fun _ _ _ h => h) (Or.inr ⟨?_, rfl⟩) (by assumption) ?_; (rfl); try simp only [Act.put, List.setIfInBounds_toArray, List.set_cons_zero, List.set_cons_succ]) | (refine wpAnyH_take (i := 35) (v := ?_) (by simp only [List.getElem?_toArray, List.getElem?_cons_succ, List.getElem?_cons_zero]; exact rfl) (by kernel_rfl) (by kernel_rfl) (by kernel_rfl) (fun _ _ _ h => h) (Or.inl ⟨?_, ?_⟩) (by assumption) ?_; rotate_left; (rfl); (focus (intro w hSw; (try dsimp only at hSw); go_simp; try with_reducible rfl)); try simp only [Act.put, List.setIfInBounds_toArray, List.set_cons_zero, List.set_cons_succ])
    first | (refine wpAnyH_take (i := 36) (v := undef) (by simp only [List.getElem?_toArray, List.getElem?_cons_succ, List.getElem?_cons_zero]; exact rfl) (by kernel_rfl) (by kernel_rfl) (by kernel_rfl) (fun _ _ _ h => h) (Or.inr ⟨?_, rfl⟩) (by assumption) ?_; (rfl); try simp only [Act.put, List.setIfInBounds_toArray, List.set_cons_zero, List.set_cons_succ]) | (refine wpAnyH_take (i := 36) (v := ?_) (by simp only [List.getElem?_toArray, List.getElem?_cons_succ, List.getElem?_cons_zero]; exact rfl) (by kernel_rfl) (by kernel_rfl) (by kernel_rfl) (fun _ _ _ h => h) (Or.inl ⟨?_, ?_⟩) (by assumption) ?_; rotate_left; (rfl); (focus (intro w hSw; (try dsimp only at hSw); go_simp; try with_reducible rfl)); try simp only [Act.put, List.setIfInBounds_toArray, List.set_cons_zero, List.set_cons_succ])
    first | (refine wpAnyH_take (i := 37) (v := undef) (by simp only [List.getElem?_toArray, List.getElem?_cons_succ, List.getElem?_cons_zero]; exact rfl) (by kernel_rfl) (by kernel_rfl) (by kernel_rfl) (fun _ _ _ h => h) (Or.inr ⟨?_, rfl⟩) (by assumption) ?_; (rfl); try simp only [Act.put, List.setIfInBounds_toArray, List.set_cons_zero, List.set_cons_succ]) | (refine wpAnyH_take (i := 37) (v := ?_) (by simp only [List.getElem?_toArray, List.getElem?_cons_succ, List.getElem?_cons_zero]; exact rfl) (by kernel_rfl) (by kernel_rfl) (by kernel_rfl) (fun _ _ _ h => h) (Or.inl ⟨?_, ?_⟩) (by assumption) ?_; rotate_left; (rfl); (focus (intro w hSw; (try dsimp only at hSw); go_simp; try with_reducible rfl)); try simp only [Act.put, List.setIfInBounds_toArray, List.set_cons_zero, List.set_cons_succ])
    first | (refine wpAnyH_take (i := 38) (v := undef) (by simp only [List.getElem?_toArray, List.getElem?_cons_succ, List.getElem?_cons_zero]; exact rfl) (by kernel_rfl) (by kernel_rfl) (by kernel_rfl) (fun _ _ _ h => h) (Or.inr ⟨?_, rfl⟩) (by assumption) ?_; (rfl); try simp only [Act.put, List.setIfInBounds_toArray, List.set_cons_zero, List.set_cons_succ]) | (refine wpAnyH_take (i := 38) (v := ?_) (by simp only [List.getElem?_toArray, List.getElem?_cons_succ, List.getElem?_cons_zero]; exact rfl) (by kernel_rfl) (by kernel_rfl) (by kernel_rfl) (fun _ _ _ h => h) (Or.inl ⟨?_, ?_⟩) (by assumption) ?_; rotate_left; (rfl); (focus (intro W hSw; have hc0 := (show W.cell? ⟨g17, 0, none⟩ = some (.int .u8 7) from hSw.2.2.2.cell 0); clear hSw; go_simp; try with_reducible rfl)); try simp only [Act.put, List.setIfInBounds_toArray, List.set_cons_zero, List.set_cons_succ])
    first | (refine wpAnyH_take (i := 39) (v := undef) (by simp only [List.getElem?_toArray, List.getElem?_cons_succ, List.getElem?_cons_zero]; exact rfl) (by kernel_rfl) (by kernel_rfl) (by kernel_rfl) (fun _ _ _ h => h) (Or.inr ⟨?_, rfl⟩) (by assumption) ?_; (rfl); try simp only [Act.put, List.setIfInBounds_toArray, List.set_cons_zero, List.set_cons_succ]) | (refine wpAnyH_take (i := 39) (v := ?_) (by simp only [List.getElem?_toArray, List.getElem?_cons_succ, List.getElem?_cons_zero]; exact rfl) (by kernel_rfl) (by kernel_rfl) (by kernel_rfl) (fun _ _ _ h => h) (Or.inl ⟨?_, ?_⟩) (by assumption) ?_; rotate_left; (rfl); (focus (intro w hSw; (try dsimp only at hSw); go_simp; try with_reducible rfl)); try simp only [Act.put, List.setIfInBounds_toArray, List.set_cons_zero, List.set_cons_succ])
    first | (refine wpAnyH_take (i := 40) (v := undef) (by simp only [List.getElem?_toArray, List.getElem?_cons_succ, List.getElem?_cons_zero]; exact rfl) (by kernel_rfl) (by kernel_rfl) (by kernel_rfl) (fun _ _ _ h => h) (Or.inr ⟨?_, rfl⟩) (by assumption) ?_; (rfl); try simp only [Act.put, List.setIfInBounds_toArray, List.set_cons_zero, List.set_cons_succ]) | (refine wpAnyH_take (i := 40) (v := ?_) (by simp only [List.getElem?_toArray, List.getElem?_cons_succ, List.getElem?_cons_zero]; exact rfl) (by kernel_rfl) (by kernel_rfl) (by kernel_rfl) (fun _ _ _ h => h) (Or.inl ⟨?_, ?_⟩) (by assumption) ?_; rotate_left; (rfl); (focus (intro w hSw; (try dsimp only at hSw); go_simp; try with_reducible rfl)); try simp only [Act.put, List.setIfInBounds_toArray, List.set_cons_zero, List.set_cons_succ])
    first | (refine wpAnyH_take (i := 41) (v := undef) (by simp only [List.getElem?_toArray, List.getElem?_cons_succ, List.getElem?_cons_zero]; exact rfl) (by kernel_rfl) (by kernel_rfl) (by kernel_rfl) (fun _ _ _ h => h) (Or.inr ⟨?_, rfl⟩) (by assumption) ?_; (rfl); try simp only [Act.put, List.setIfInBounds_toArray, List.set_cons_zero, List.set_cons_succ]) | (refine wpAnyH_take (i := 41) (v := ?_) (by simp only [List.getElem?_toArray, List.getElem?_cons_succ, List.getElem?_cons_zero]; exact rfl) (by kernel_rfl) (by kernel_rfl) (by kernel_rfl) (fun _ _ _ h => h) (Or.inl ⟨?_, ?_⟩) (by assumption) ?_; rotate_left; (rfl); (focus (intro w hSw; (try dsimp only at hSw); go_simp; try with_reducible rfl)); try simp only [Act.put, List.setIfInBounds_toArray, List.set_cons_zero, List.set_cons_succ])
    first | (refine wpAnyH_take (i := 42) (v := undef) (by simp only [List.getElem?_toArray, List.getElem?_cons_succ, List.getElem?_cons_zero]; exact rfl) (by kernel_rfl) (by kernel_rfl) (by kernel_rfl) (fun _ _ _ h => h) (Or.inr ⟨?_, rfl⟩) (by assumption) ?_; (rfl); try simp only [Act.put, List.setIfInBounds_toArray, List.set_cons_zero, List.set_cons_succ]) | (refine wpAnyH_take (i := 42) (v := ?_) (by simp only [List.getElem?_toArray, List.getElem?_cons_succ, List.getElem?_cons_zero]; exact rfl) (by kernel_rfl) (by kernel_rfl) (by kernel_rfl) (fun _ _ _ h => h) (Or.inl ⟨?_, ?_⟩) (by assumption) ?_; rotate_left; (rfl); (focus (intro w hSw; (try dsimp only at hSw); go_simp; try with_reducible rfl)); try simp only [Act.put, List.setIfInBounds_toArray, List.set_cons_zero, List.set_cons_succ])
    first | (refine wpAnyH_take (i := 43) (v := undef) (by simp only [List.getElem?_toArray, List.getElem?_cons_succ, List.getElem?_cons_zero]; exact rfl) (by kernel_rfl) (by kernel_rfl) (by kernel_rfl) (fun _ _ _ h => h) (Or.inr ⟨?_, rfl⟩) (by assumption) ?_; (rfl); try simp only [Act.put, List.setIfInBounds_toArray, List.set_cons_zero, List.set_cons_succ]) | (refine wpAnyH_take (i := 43) (v := ?_) (by simp only [List.getElem?_toArray, List.getElem?_cons_succ, List.getElem?_cons_zero]; exact rfl) (by kernel_rfl) (by kernel_rfl) (by kernel_rfl) (fun _ _ _ h => h) (Or.inl ⟨?_, ?_⟩) (by assumption) ?_; rotate_left; (rfl); (focus (intro w hSw; (try dsimp only at hSw); go_simp; try with_reducible rfl)); try simp only [Act.put, List.setIfInBounds_toArray, List.set_cons_zero, List.set_cons_succ])
    (refine wpAnyH_take (i := 44) (v := (nuI 4621256167635550208).a) (by simp only [List.getElem?_toArray, List.getElem?_cons_succ, List.getElem?_cons_zero]; exact rfl) (by kernel_rfl) (by kernel_rfl) (by kernel_rfl) (fun _ _ _ h => h) (yieldsIf_load_mid (by rfl) 24 (.tmp 227) (by rfl) (g17) (62) (by rfl) ((nuI 4621256167635550208).cells) _ (fun W hS => Bk.mid hS.2.2.2 62 _ rfl) Try.underlying24 (by rfl) (by kernel_rfl)) (by assumption) ?_; try simp only [Act.put, List.setIfInBounds_toArray, List.set_cons_zero, List.set_cons_succ])
    refine wpAnyH_ready (rs := [45]) (by kernel_rfl) (by simp) ?_
    refine AllReadyH.cons rfl (fun K hK => ?_) AllReadyH.nil
    go_simp
    refine (numI_any 4621256167635550208 _).mono ?_; rintro e tt3 ⟨rfl, hb⟩
    replace B := hidB (B.out.trans (hb.mono B.out.size))
    replace hHeld := And.intro (hHeld.1.on hb) (And.intro (hHeld.2.1.on hb) (And.intro (hHeld.2.2.1.on hb) (hHeld.2.2.2.on hb)))
    clear hb
    refine hK.out _ _ hHeld (fun _ => ?_)
    clear hK K
    try simp only [Act.put, List.setIfInBounds_toArray, List.set_cons_zero, List.set_cons_succ]
    first | (refine wpAnyH_take (i := 46) (v := undef) (by simp only [List.getElem?_toArray, List.getElem?_cons_succ, List.getElem?_cons_zero]; exact rfl) (by kernel_rfl) (by kernel_rfl) (by kernel_rfl) (fun _ _ _ h => h) (Or.inr ⟨?_, rfl⟩) (by assumption) ?_; (rfl); try simp only [Act.put, List.setIfInBounds_toArray, List.set_cons_zero, List.set_cons_succ]) | (refine wpAnyH_take (i := 46) (v := ?_) (by simp only [List.getElem?_toArray, List.getElem?_cons_succ, List.getElem?_cons_zero]; exact rfl) (by kernel_rfl) (by kernel_rfl) (by kernel_rfl) (fun _ _ _ h => h) (Or.inl ⟨?_, ?_⟩) (by assumption) ?_; rotate_left; (rfl); (focus (intro w hSw; (try dsimp only at hSw); go_simp; try with_reducible rfl)); try simp only [Act.put, List.setIfInBounds_toArray, List.set_cons_zero, List.set_cons_succ])
    first | (refine wpAnyH_take (i := 47) (v := undef) (by simp only [List.getElem?_toArray, List.getElem?_cons_succ, List.getElem?_cons_zero]; exact rfl) (by kernel_rfl) (by kernel_rfl) (by kernel_rfl) (fun _ _ _ h => h) (Or.inr ⟨?_, rfl⟩) (by assumption) ?_; (rfl); try simp only [Act.put, List.setIfInBounds_toArray, List.set_cons_zero, List.set_cons_succ]) | (refine wpAnyH_take (i := 47) (v := ?_) (by simp only [List.getElem?_toArray, List.getElem?_cons_succ, List.getElem?_cons_zero]; exact rfl) (by kernel_rfl) (by kernel_rfl) (by kernel_rfl) (fun _ _ _ h => h) (Or.inl ⟨?_, ?_⟩) (by assumption) ?_; rotate_left; (rfl); (focus (intro w hSw; (try dsimp only at hSw); go_simp; try with_reducible rfl)); try simp only [Act.put, List.setIfInBounds_toArray, List.set_cons_zero, List.set_cons_succ])
    first | (refine wpAnyH_take (i := 48) (v := undef) (by simp only [List.getElem?_toArray, List.getElem?_cons_succ, List.getElem?_cons_zero]; exact rfl) (by kernel_rfl) (by kernel_rfl) (by kernel_rfl) (fun _ _ _ h => h) (Or.inr ⟨?_, rfl⟩) (by assumption) ?_; (rfl); try simp only [Act.put, List.setIfInBounds_toArray, List.set_cons_zero, List.set_cons_succ]) | (refine wpAnyH_take (i := 48) (v := ?_) (by simp only [List.getElem?_toArray, List.getElem?_cons_succ, List.getElem?_cons_zero]; exact rfl) (by kernel_rfl) (by kernel_rfl) (by kernel_rfl) (fun _ _ _ h => h) (Or.inl ⟨?_, ?_⟩) (by assumption) ?_; rotate_left; (rfl); (focus (intro w hSw; (try dsimp only at hSw); go_simp; try with_reducible rfl)); try simp only [Act.put, List.setIfInBounds_toArray, List.set_cons_zero, List.set_cons_succ])
    first | (refine wpAnyH_take (i := 49) (v := undef) (by simp only [List.getElem?_toArray, List.getElem?_cons_succ, List.getElem?_cons_zero]; exact rfl) (by kernel_rfl) (by kernel_rfl) (by kernel_rfl) (fun _ _ _ h => h) (Or.inr ⟨?_, rfl⟩) (by assumption) ?_; (rfl); try simp only [Act.put, List.setIfInBounds_toArray, List.set_cons_zero, List.set_cons_succ]) | (refine wpAnyH_take (i := 49) (v := ?_) (by simp only [List.getElem?_toArray, List.getElem?_cons_succ, List.getElem?_cons_zero]; exact rfl) (by kernel_rfl) (by kernel_rfl) (by kernel_rfl) (fun _ _ _ h => h) (Or.inl ⟨?_, ?_⟩) (by assumption) ?_; rotate_left; (rfl); (focus (intro w hSw; (try dsimp only at hSw); go_simp; try with_reducible rfl)); try simp only [Act.put, List.setIfInBounds_toArray, List.set_cons_zero, List.set_cons_succ])
    first | (refine wpAnyH_take (i := 50) (v := undef) (by simp only [List.getElem?_toArray, List.getElem?_cons_succ, List.getElem?_cons_zero]; exact rfl) (by kernel_rfl) (by kernel_rfl) (by kernel_rfl) (fun _ _ _ h => h) (Or.inr ⟨?_, rfl⟩) (by assumption) ?_; (rfl); try simp only [Act.put, List.setIfInBounds_toArray, List.set_cons_zero, List.set_cons_succ]) | (refine wpAnyH_take (i := 50) (v := ?_) (by simp only [List.getElem?_toArray, List.getElem?_cons_succ, List.getElem?_cons_zero]; exact rfl) (by kernel_rfl) (by kernel_rfl) (by kernel_rfl) (fun _ _ _ h => h) (Or.inl ⟨?_, ?_⟩) (by assumption) ?_; rotate_left; (rfl); (focus (intro w hSw; (try dsimp only at hSw); go_simp; try with_reducible rfl)); try simp only [Act.put, List.setIfInBounds_toArray, List.set_cons_zero, List.set_cons_succ])
    first | (refine wpAnyH_take (i := 51) (v := undef) (by simp only [List.getElem?_toArray, List.getElem?_cons_succ, List.getElem?_cons_zero]; exact rfl) (by kernel_rfl) (by kernel_rfl) (by kernel_rfl) (fun _ _ _ h => h) (Or.inr ⟨?_, rfl⟩) (by assumption) ?_; (rfl); try simp only [Act.put, List.setIfInBounds_toArray, List.set_cons_zero, List.set_cons_succ]) | (refine wpAnyH_take (i := 51) (v := ?_) (by simp only [List.getElem?_toArray, List.getElem?_cons_succ, List.getElem?_cons_zero]; exact rfl) (by kernel_rfl) (by kernel_rfl) (by kernel_rfl) (fun _ _ _ h => h) (Or.inl ⟨?_, ?_⟩) (by assumption) ?_; rotate_left; (rfl); (focus (intro w hSw; (try dsimp only at hSw); go_simp; try with_reducible rfl)); try simp only [Act.put, List.setIfInBounds_toArray, List.set_cons_zero, List.set_cons_succ])
    first | (refine wpAnyH_take (i := 52) (v := undef) (by simp only [List.getElem?_toArray, List.getElem?_cons_succ, List.getElem?_cons_zero]; exact rfl) (by kernel_rfl) (by kernel_rfl) (by kernel_rfl) (fun _ _ _ h => h) (Or.inr ⟨?_, rfl⟩) (by assumption) ?_; (rfl); try simp only [Act.put, List.setIfInBounds_toArray, List.set_cons_zero, List.set_cons_succ]) | (refine wpAnyH_take (i := 52) (v := ?_) (by simp only [List.getElem?_toArray, List.getElem?_cons_succ, List.getElem?_cons_zero]; exact rfl) (by kernel_rfl) (by kernel_rfl) (by kernel_rfl) (fun _ _ _ h => h) (Or.inl ⟨?_, ?_⟩) (by assumption) ?_; rotate_left; (rfl); (focus (intro w hSw; (try dsimp only at hSw); go_simp; try with_reducible rfl)); try simp only [Act.put, List.setIfInBounds_toArray, List.set_cons_zero, List.set_cons_succ])
    refine wpAnyH_done (by kernel_rfl) ?_ _
    refine NoPanic.normal ?_
    go_wp2_with fail
    go_meet
    case rel => exact ⟨rfl, B.out⟩
  case rest =>
  obtain ⟨rfl, hb⟩ := hcut
  replace B := hidB hb
  clear hb P11 P13 P15 P17 P19
  go_wp2_with fail
  refine (maker_any 3 _).mono ?_; rintro e u31 ⟨rfl, hb⟩
  replace B := hidB (B.out.trans (hb.mono B.out.size))
  clear hb
  go_wp2_with (first | ((with_reducible refine wpId ?_); refine wpList_build_to (by rfl) 24 _ (by rfl) ((fuI 4).cells.toArray) (by kernel_rfl) ?_))
  refine (make_any (mkI 3) (fuI 4) [] (by decide) (by decide) okV_nil vNil _ (RdL.nil _ _ _)).mono ?_; rintro e u32 (⟨_, rfl, hb⟩ | ⟨h0, _⟩)
  rotate_left
  · rw [w_make9] at h0; exact absurd h0 (by decide)
  rw [w_make9]
  replace B := hidB (B.out.trans (hb.mono B.out.size))
  clear hb
  go_wp2_with (first | ((with_reducible refine wpId ?_); refine wpList_build_to (by rfl) 24 _ (by rfl) ((fuI 5).cells.toArray) (by kernel_rfl) ?_))
  refine (maker_any 6 _).mono ?_; rintro e u33 ⟨rfl, hb⟩
  replace B := hidB (B.out.trans (hb.mono B.out.size))
  clear hb
  go_wp2_with fail
  refine (thing_any 0 _).mono ?_; rintro e u34 ⟨rfl, hb⟩
  replace B := hidB (B.out.trans (hb.mono B.out.size))
  clear hb
  go_wp2_with fail
  refine (body_any (fuI 5) (mkI 6) (thI 0) [] (by decide) (by decide) (by decide) okV_nil vNil _ (RdL.nil _ _ _)).mono ?_; rintro e u35 (⟨_, rfl, hb⟩ | ⟨h0, _⟩)
  rotate_left
  · rw [w_body9] at h0; exact absurd h0 (by decide)
  rw [w_body9]
  replace B := hidB (B.out.trans (hb.mono B.out.size))
  clear hb
  go_upto_region 16 with fail
  try simp only [Act.put]
  go_cut [26, 27] from 249 to 255 (fun s26 s27 wx => s27 = .int .i64 4 ∧ Below w.heap.size w wx)
  case first => as_aux_lemma =>
    have hmk := run_many
    refine wp_region_noPanic ?_
    refine wp_region_held_drew (S := fun W => Below w.heap.size w W) (by kernel_rfl) ?_ (fun hHeld => ?_)
    · exact B.out.drew
    generalize hWd : u35.drew = wd at *
    clear hWd
    (refine wpAnyH_take (i := 1) (v := .agg (VI.zero.cells.toArray)) (by simp only [List.getElem?_toArray, List.getElem?_cons_succ, List.getElem?_cons_zero]; exact rfl) (by kernel_rfl) (by kernel_rfl) (by kernel_rfl) (fun _ _ _ h => h) (yieldsIf_build (by rfl) 24 _ (by rfl) [] (by kernel_rfl) (VI.zero.cells.toArray) (by kernel_rfl)) (by assumption) ?_; try simp only [Act.put, List.setIfInBounds_toArray, List.set_cons_zero, List.set_cons_succ])
    refine wpAnyH_ready (rs := [0, 2]) (by kernel_rfl) (by simp) ?_
    refine AllReadyH.cons rfl (fun K hK => ?_) ?_
    · skip
      go_simp
      refine (numI_any 4619567317775286272 _).mono ?_; rintro e wdn ⟨rfl, hb⟩
      replace hHeld := hHeld.trans (hb.mono hHeld.size)
      clear hb
      refine hK.out _ _ hHeld (fun _ => ?_)
      clear hK K
      try simp only [Act.put, List.setIfInBounds_toArray, List.set_cons_zero, List.set_cons_succ]
      refine wpAnyH_ready (rs := [2]) (by kernel_rfl) (by simp) ?_
      refine AllReadyH.cons rfl (fun K hK => ?_) AllReadyH.nil
      go_simp
      have XM := hidB (rd_bk VI.cells_len (l := many) (Bk.new wdn 24 manyC) (by show 65 ≤ maxLen; unfold maxLen; decide))
      replace hHeld := hHeld.alloc hHeld.size (.cells manyC 24)
      refine hK.out _ _ hHeld (fun _ => ?_)
      clear hK K
      try simp only [Act.put, List.setIfInBounds_toArray, List.set_cons_zero, List.set_cons_succ]
      generalize hWn : (wdn.alloc (.cells manyC 24)) = wdnm at *
      clear hWn
      generalize hGn : wdn.heap.size = gm at *
      clear hGn
      refine wpAnyH_ready (rs := [3]) (by kernel_rfl) (by simp) ?_
      refine AllReadyH.cons rfl (fun K hK => ?_) AllReadyH.nil
      go_simp
      refine (start_any (nuI 4619567317775286272) VI.zero many (by decide) (by decide) okV_many (.slice (some ⟨gm, 0, none⟩) 65 65) wdnm XM.out).mono ?_; rintro e wz (⟨_, rfl, hb⟩ | ⟨h0, _⟩)
      rotate_left
      · rw [w_start4] at h0; exact absurd h0 (by decide)
      rw [w_start4]
      replace hHeld := hHeld.trans (hb.mono hHeld.size)
      clear hb
      refine hK.out _ _ hHeld (fun _ => ?_)
      clear hK K
      try simp only [Act.put, List.setIfInBounds_toArray, List.set_cons_zero, List.set_cons_succ]
      first | (refine wpAnyH_take (i := 4) (v := undef) (by simp only [List.getElem?_toArray, List.getElem?_cons_succ, List.getElem?_cons_zero]; exact rfl) (by kernel_rfl) (by kernel_rfl) (by kernel_rfl) (fun _ _ _ h => h) (Or.inr ⟨?_, rfl⟩) (by assumption) ?_; (rfl); try simp only [Act.put, List.setIfInBounds_toArray, List.set_cons_zero, List.set_cons_succ]) | (refine wpAnyH_take (i := 4) (v := ?_) (by simp only [List.getElem?_toArray, List.getElem?_cons_succ, List.getElem?_cons_zero]; exact rfl) (by kernel_rfl) (by kernel_rfl) (by kernel_rfl) (fun _ _ _ h => h) (Or.inl ⟨?_, ?_⟩) (by assumption) ?_; rotate_left; (rfl); (focus (intro w hSw; (try dsimp only at hSw); go_simp; try with_reducible rfl)); try simp only [Act.put, List.setIfInBounds_toArray, List.set_cons_zero, List.set_cons_succ])
      first | (refine wpAnyH_take (i := 5) (v := undef) (by simp only [List.getElem?_toArray, List.getElem?_cons_succ, List.getElem?_cons_zero]; exact rfl) (by kernel_rfl) (by kernel_rfl) (by kernel_rfl) (fun _ _ _ h => h) (Or.inr ⟨?_, rfl⟩) (by assumption) ?_; (rfl); try simp only [Act.put, List.setIfInBounds_toArray, List.set_cons_zero, List.set_cons_succ]) | (refine wpAnyH_take (i := 5) (v := ?_) (by simp only [List.getElem?_toArray, List.getElem?_cons_succ, List.getElem?_cons_zero]; exact rfl) (by kernel_rfl) (by kernel_rfl) (by kernel_rfl) (fun _ _ _ h => h) (Or.inl ⟨?_, ?_⟩) (by assumption) ?_; rotate_left; (rfl); (focus (intro w hSw; (try dsimp only at hSw); go_simp; try with_reducible rfl)); try simp only [Act.put, List.setIfInBounds_toArray, List.set_cons_zero, List.set_cons_succ])
      first | (refine wpAnyH_take (i := 6) (v := undef) (by simp only [List.getElem?_toArray, List.getElem?_cons_succ, List.getElem?_cons_zero]; exact rfl) (by kernel_rfl) (by kernel_rfl) (by kernel_rfl) (fun _ _ _ h => h) (Or.inr ⟨?_, rfl⟩) (by assumption) ?_; (rfl); try simp only [Act.put, List.setIfInBounds_toArray, List.set_cons_zero, List.set_cons_succ]) | (refine wpAnyH_take (i := 6) (v := ?_) (by simp only [List.getElem?_toArray, List.getElem?_cons_succ, List.getElem?_cons_zero]; exact rfl) (by kernel_rfl) (by kernel_rfl) (by kernel_rfl) (fun _ _ _ h => h) (Or.inl ⟨?_, ?_⟩) (by assumption) ?_; rotate_left; (rfl); (focus (intro w hSw; (try dsimp only at hSw); go_simp; try with_reducible rfl)); try simp only [Act.put, List.setIfInBounds_toArray, List.set_cons_zero, List.set_cons_succ])
      first | (refine wpAnyH_take (i := 7) (v := undef) (by simp only [List.getElem?_toArray, List.getElem?_cons_succ, List.getElem?_cons_zero]; exact rfl) (by kernel_rfl) (by kernel_rfl) (by kernel_rfl) (fun _ _ _ h => h) (Or.inr ⟨?_, rfl⟩) (by assumption) ?_; (rfl); try simp only [Act.put, List.setIfInBounds_toArray, List.set_cons_zero, List.set_cons_succ]) | (refine wpAnyH_take (i := 7) (v := ?_) (by simp only [List.getElem?_toArray, List.getElem?_cons_succ, List.getElem?_cons_zero]; exact rfl) (by kernel_rfl) (by kernel_rfl) (by kernel_rfl) (fun _ _ _ h => h) (Or.inl ⟨?_, ?_⟩) (by assumption) ?_; rotate_left; (rfl); (focus (intro w hSw; (try dsimp only at hSw); go_simp; try with_reducible rfl)); try simp only [Act.put, List.setIfInBounds_toArray, List.set_cons_zero, List.set_cons_succ])
      first | (refine wpAnyH_take (i := 8) (v := undef) (by simp only [List.getElem?_toArray, List.getElem?_cons_succ, List.getElem?_cons_zero]; exact rfl) (by kernel_rfl) (by kernel_rfl) (by kernel_rfl) (fun _ _ _ h => h) (Or.inr ⟨?_, rfl⟩) (by assumption) ?_; (rfl); try simp only [Act.put, List.setIfInBounds_toArray, List.set_cons_zero, List.set_cons_succ]) | (refine wpAnyH_take (i := 8) (v := ?_) (by simp only [List.getElem?_toArray, List.getElem?_cons_succ, List.getElem?_cons_zero]; exact rfl) (by kernel_rfl) (by kernel_rfl) (by kernel_rfl) (fun _ _ _ h => h) (Or.inl ⟨?_, ?_⟩) (by assumption) ?_; rotate_left; (rfl); (focus (intro w hSw; (try dsimp only at hSw); go_simp; try with_reducible rfl)); try simp only [Act.put, List.setIfInBounds_toArray, List.set_cons_zero, List.set_cons_succ])
      refine wpAnyH_done (by kernel_rfl) ?_ _
      refine NoPanic.normal ?_
      go_wp2_with fail
      go_meet
      case rel => exact ⟨rfl, hHeld⟩
    refine AllReadyH.cons rfl (fun K hK => ?_) AllReadyH.nil
    go_simp
    have XM := hidB (rd_bk VI.cells_len (l := many) (Bk.new wd 24 manyC) (by show 65 ≤ maxLen; unfold maxLen; decide))
    replace hHeld := hHeld.alloc hHeld.size (.cells manyC 24)
    refine hK.out _ _ hHeld (fun _ => ?_)
    clear hK K
    try simp only [Act.put, List.setIfInBounds_toArray, List.set_cons_zero, List.set_cons_succ]
    generalize hWn : (wd.alloc (.cells manyC 24)) = wdm at *
    clear hWn
    generalize hGn : wd.heap.size = gm at *
    clear hGn
    refine wpAnyH_ready (rs := [0]) (by kernel_rfl) (by simp) ?_
    refine AllReadyH.cons rfl (fun K hK => ?_) AllReadyH.nil
    go_simp
    refine (numI_any 4619567317775286272 _).mono ?_; rintro e wdmn ⟨rfl, hb⟩
    replace XM := hidB (XM.out.on hb)
    replace hHeld := hHeld.trans (hb.mono hHeld.size)
    clear hb
    refine hK.out _ _ hHeld (fun _ => ?_)
    clear hK K
    try simp only [Act.put, List.setIfInBounds_toArray, List.set_cons_zero, List.set_cons_succ]
    refine wpAnyH_ready (rs := [3]) (by kernel_rfl) (by simp) ?_
    refine AllReadyH.cons rfl (fun K hK => ?_) AllReadyH.nil
    go_simp
    refine (start_any (nuI 4619567317775286272) VI.zero many (by decide) (by decide) okV_many (.slice (some ⟨gm, 0, none⟩) 65 65) wdmn XM.out).mono ?_; rintro e wz (⟨_, rfl, hb⟩ | ⟨h0, _⟩)
    rotate_left
    · rw [w_start4] at h0; exact absurd h0 (by decide)
    rw [w_start4]
    replace hHeld := hHeld.trans (hb.mono hHeld.size)
    clear hb
    refine hK.out _ _ hHeld (fun _ => ?_)
    clear hK K
    try simp only [Act.put, List.setIfInBounds_toArray, List.set_cons_zero, List.set_cons_succ]
    first | (refine wpAnyH_take (i := 4) (v := undef) (by simp only [List.getElem?_toArray, List.getElem?_cons_succ, List.getElem?_cons_zero]; exact rfl) (by kernel_rfl) (by kernel_rfl) (by kernel_rfl) (fun _ _ _ h => h) (Or.inr ⟨?_, rfl⟩) (by assumption) ?_; (rfl); try simp only [Act.put, List.setIfInBounds_toArray, List.set_cons_zero, List.set_cons_succ]) | (refine wpAnyH_take (i := 4) (v := ?_) (by simp only [List.getElem?_toArray, List.getElem?_cons_succ, List.getElem?_cons_zero]; exact rfl) (by kernel_rfl) (by kernel_rfl) (by kernel_rfl) (fun _ _ _ h => h) (Or.inl ⟨?_, ?_⟩) (by assumption) ?_; rotate_left; (rfl); (focus (intro w hSw; (try dsimp only at hSw); go_simp; try with_reducible rfl)); try simp only [Act.put, List.setIfInBounds_toArray, List.set_cons_zero, List.set_cons_succ])
    first | (refine wpAnyH_take (i := 5) (v := undef) (by simp only [List.getElem?_toArray, List.getElem?_cons_succ, List.getElem?_cons_zero]; exact rfl) (by kernel_rfl) (by kernel_rfl) (by kernel_rfl) (fun _ _ _ h => h) (Or.inr ⟨?_, rfl⟩) (by assumption) ?_; (rfl); try simp only [Act.put, List.setIfInBounds_toArray, List.set_cons_zero, List.set_cons_succ]) | (refine wpAnyH_take (i := 5) (v := ?_) (by simp only [List.getElem?_toArray, List.getElem?_cons_succ, List.getElem?_cons_zero]; exact rfl) (by kernel_rfl) (by kernel_rfl) (by kernel_rfl) (fun _ _ _ h => h) (Or.inl ⟨?_, ?_⟩) (by assumption) ?_; rotate_left; (rfl); (focus (intro w hSw; (try dsimp only at hSw); go_simp; try with_reducible rfl)); try simp only [Act.put, List.setIfInBounds_toArray, List.set_cons_zero, List.set_cons_succ])
    first | (refine wpAnyH_take (i := 6) (v := undef) (by simp only [List.getElem?_toArray, List.getElem?_cons_succ, List.getElem?_cons_zero]; exact rfl) (by kernel_rfl) (by kernel_rfl) (by kernel_rfl) (fun _ _ _ h => h) (Or.inr ⟨?_, rfl⟩) (by assumption) ?_; (rfl); try simp only [Act.put, List.setIfInBounds_toArray, List.set_cons_zero, List.set_cons_succ]) | (refine wpAnyH_take (i := 6) (v := ?_) (by simp only [List.getElem?_toArray, List.getElem?_cons_succ, List.getElem?_cons_zero]; exact rfl) (by kernel_rfl) (by kernel_rfl) (by kernel_rfl) (fun _ _ _ h => h) (Or.inl ⟨?_, ?_⟩) (by assumption) ?_; rotate_left; (rfl); (focus (intro w hSw; (try dsimp only at hSw); go_simp; try with_reducible rfl)); try simp only [Act.put, List.setIfInBounds_toArray, List.set_cons_zero, List.set_cons_succ])
    first | (refine wpAnyH_take (i := 7) (v := undef) (by simp only [List.getElem?_toArray, List.getElem?_cons_succ, List.getElem?_cons_zero]; exact rfl) (by kernel_rfl) (by kernel_rfl) (by kernel_rfl) (fun _ _ _ h => h) (Or.inr ⟨?_, rfl⟩) (by assumption) ?_; (rfl); try simp only [Act.put, List.setIfInBounds_toArray, List.set_cons_zero, List.set_cons_succ]) | (refine wpAnyH_take (i := 7) (v := ?_) (by simp only [List.getElem?_toArray, List.getElem?_cons_succ, List.getElem?_cons_zero]; exact rfl) (by kernel_rfl) (by kernel_rfl) (by kernel_rfl) (fun _ _ _ h => h) (Or.inl ⟨?_, ?_⟩) (by assumption) ?_; rotate_left; (rfl); (focus (intro w hSw; (try dsimp only at hSw); go_simp; try with_reducible rfl)); try simp only [Act.put, List.setIfInBounds_toArray, List.set_cons_zero, List.set_cons_succ])
    first | (refine wpAnyH_take (i := 8) (v := undef) (by simp only [List.getElem?_toArray, List.getElem?_cons_succ, List.getElem?_cons_zero]; exact rfl) (by kernel_rfl) (by kernel_rfl) (by kernel_rfl) (fun _ _ _ h => h) (Or.inr ⟨?_, rfl⟩) (by assumption) ?_; (rfl); try simp only [Act.put, List.setIfInBounds_toArray, List.set_cons_zero, List.set_cons_succ]) | (refine wpAnyH_take (i := 8) (v := ?_) (by simp only [List.getElem?_toArray, List.getElem?_cons_succ, List.getElem?_cons_zero]; exact rfl) (by kernel_rfl) (by kernel_rfl) (by kernel_rfl) (fun _ _ _ h => h) (Or.inl ⟨?_, ?_⟩) (by assumption) ?_; rotate_left; (rfl); (focus (intro w hSw; (try dsimp only at hSw); go_simp; try with_reducible rfl)); try simp only [Act.put, List.setIfInBounds_toArray, List.set_cons_zero, List.set_cons_succ])
    refine wpAnyH_done (by kernel_rfl) ?_ _
    refine NoPanic.normal ?_
    go_wp2_with fail
    go_meet
    case rel => exact ⟨rfl, hHeld⟩
  case rest =>
  obtain ⟨rfl, hb⟩ := hcut
  replace B := hidB hb
  clear hb
  go_wp2_with (first | ((with_reducible refine wpId ?_); refine wpList_build_to (by rfl) 36 _ (by rfl) (OI.zero.cs) (by kernel_rfl) ?_))
  refine (task_nil OI.zero _).mono ?_; rintro e u36 ⟨rfl, hb⟩
  replace B := hidB (B.out.trans (hb.mono B.out.size))
  clear hb
  have R := hidB (show Bk (u36.alloc (.cells Try.zeroCells45 45)) u36.heap.size 45 WI.zero.cs from Bk.new u36 _ _)
  replace B := hidB (show Below w.heap.size w ((u36.alloc (.cells Try.zeroCells45 45)).setRow u36.heap.size WI.zero.cs) from below_setRow (B.out.alloc B.out.size _) B.out.size _)
  go_wp2_with (first | ((with_reducible refine stId 45 (.tmp 29) (.tmp 260) ?_); refine wpList_store_row (by rfl) 45 (.tmp 29) (.tmp 260) (by rfl) (u36.heap.size) (WI.zero.cs) (by rfl) (by rfl) 45 (WI.zero.cs) (by exact R.out) (by kernel_rfl) (by rfl) (by exact WI.one _ rfl rfl rfl rfl) ?_))
  refine (alive_any _).mono ?_; rintro e uz ⟨rfl, hb⟩
  replace B := hidB (B.out.trans (hb.mono B.out.size))
  clear hb
  go_wp2_with fail
  go_ret
  exact ⟨rfl, B.out⟩

end Go.Proofs.Ytbkjbpefbdoenaa
