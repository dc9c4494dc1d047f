/-
  The statements' own small functions: long, facts, alive, refused; desc.Same of a descriptor and itself.
-/
import Derived.Test.YtlpldhcoplbopaaOpenAsked
import Derived.Test.YtlpldhcoplbopaaPostAsks
namespace Go.Proofs.Ytlpldhcoplbopaa
open Go.RowKit

theorem size_facts : (Try.prog.info? 48).map (·.size) = some 24 := by kernel_rfl
def FI.zero : FI := ⟨false, VI.zero, false, DI.zero, .slice none 0 0, .slice none 0 0⟩
theorem FI.one (x : FI) (h : x.keys.oneCell' = true) (h2 : x.own.oneCell' = true) : x.cs.all (·.oneCell') = true := by
  rw [Array.all_eq_true_iff_forall_mem]
  intro u hu
  simp only [FI.cs, List.mem_toArray, List.mem_cons, List.not_mem_nil, or_false] at hu
  rcases hu with rfl | rfl | rfl | rfl | rfl | rfl | rfl | rfl | rfl | rfl | rfl | rfl | rfl | rfl | rfl | rfl | rfl | rfl | rfl | rfl | rfl | rfl | rfl | rfl <;> first | rfl | exact h | exact h2

set_option maxHeartbeats 8000000 in
set_option maxRecDepth 100000 in
theorem facts_any (q : QI) (h1 : ∃ p n c, q.f.keys = .slice p n c) (h2 : ∃ p n c, q.f.own = .slice p n c) (w : World) : Calls Try.prog 14 #[q.v] w fun e w' => e = .returned q.f.a ∧ Below w.heap.size w w' := by
  obtain ⟨qa, qx, qe, qp, qo, qd, qk, qw⟩ := q
  obtain ⟨p1, n1, c1, h1⟩ := h1
  obtain ⟨p2, n2, c2, h2⟩ := h2
  simp only at h1 h2
  subst h1 h2
  obtain ⟨q, hq⟩ : ∃ q, q = QI.mk qa qx ⟨qe, qp, qo, qd, .slice p1 n1 c1, .slice p2 n2 c2⟩ := ⟨_, rfl⟩
  rw [← hq]
  have hk : q.f.keys = .slice p1 n1 c1 := by rw [hq]
  have ho : q.f.own = .slice p2 n2 c2 := by rw [hq]
  have hcs : #[.bool q.f.ext, .int .u8 q.f.pr.k, .float .f64 q.f.pr.x, .string q.f.pr.s, .int .i64 q.f.pr.r, .bool q.f.fo, .int .u8 q.f.d.has, .int .u8 q.f.d.v.k, .float .f64 q.f.d.v.x, .string q.f.d.v.s, .int .i64 q.f.d.v.r, .int .u8 q.f.d.g.k, .float .f64 q.f.d.g.x, .string q.f.d.g.s, .int .i64 q.f.d.g.r, .int .u8 q.f.d.t.k, .float .f64 q.f.d.t.x, .string q.f.d.t.s, .int .i64 q.f.d.t.r, .bool q.f.d.wr, .bool q.f.d.en, .bool q.f.d.cf, .slice p1 n1 c1, .slice p2 n2 c2] = q.f.cs := by rw [hq]
  have h1 : q.f.keys.oneCell' = true := by rw [hk]; rfl
  have h2 : q.f.own.oneCell' = true := by rw [ho]; rfl
  clear hq
  have U := hidB (show Bk ((w.alloc (.cells q.cs 41)).alloc (.cells FI.zero.cs 48)) w.heap.size 41 q.cs from (Bk.new w _ _).alloc _)
  have R := hidB (show Bk ((w.alloc (.cells q.cs 41)).alloc (.cells FI.zero.cs 48)) (w.heap.size + 1) 48 FI.zero.cs from Bk.new2 w _ _ _)
  have Bt := hidB (show Below w.heap.size w ((w.alloc (.cells q.cs 41)).alloc (.cells FI.zero.cs 48)) from (box_one w _).alloc (by simp) _)
  have z55 : ((w.alloc (.cells q.cs 41)).alloc (.cells FI.zero.cs 48)).cell? ⟨w.heap.size, 55, none⟩ = some (.bool q.f.ext) := U.out.cell 55
  have z60 : ((w.alloc (.cells q.cs 41)).alloc (.cells FI.zero.cs 48)).cell? ⟨w.heap.size, 60, none⟩ = some (.bool q.f.fo) := U.out.cell 60
  have z77 : ((w.alloc (.cells q.cs 41)).alloc (.cells FI.zero.cs 48)).cell? ⟨w.heap.size, 77, none⟩ = some (q.f.keys) := U.out.cell 77
  have z78 : ((w.alloc (.cells q.cs 41)).alloc (.cells FI.zero.cs 48)).cell? ⟨w.heap.size, 78, none⟩ = some (q.f.own) := U.out.cell 78
  rw [hk] at z77
  rw [ho] at z78
  clear hk ho
  go_enter Try.func14, Try.ntmps14
  go_upto_region 1 with fail
  have eW : ((w.alloc (.cells q.cs 41)).alloc (.cells #[.bool false, .int .u8 0, .float .f64 0, .string ⟨#[]⟩, .int .i64 0, .bool false, .int .u8 0, .int .u8 0, .float .f64 0, .string ⟨#[]⟩, .int .i64 0, .int .u8 0, .float .f64 0, .string ⟨#[]⟩, .int .i64 0, .int .u8 0, .float .f64 0, .string ⟨#[]⟩, .int .i64 0, .bool false, .bool false, .bool false, .slice none 0 0, .slice none 0 0] 48)) = ((w.alloc (.cells q.cs 41)).alloc (.cells FI.zero.cs 48)) := rfl
  rw [eW]
  clear eW
  generalize ((w.alloc (.cells q.cs 41)).alloc (.cells FI.zero.cs 48)) = w1 at *
  go_wp2_with (first | ((with_reducible refine ldId 30 (.tmp 5) ?_); refine wpList_load_mid (by rfl) 30 (.tmp 5) (by rfl) (w.heap.size) 56 (by rfl) (q.f.pr.cells) _ (by exact Bk.mid U.out 56 _ rfl) Try.underlying30 (by rfl) (by kernel_rfl) ?_) | ((with_reducible refine ldId 32 (.tmp 9) ?_); refine wpList_load_mid (by rfl) 32 (.tmp 9) (by rfl) (w.heap.size) 61 (by rfl) (q.f.d.cs.toList) _ (by exact Bk.mid U.out 61 _ rfl) Try.underlying32 (by rfl) (by kernel_rfl) ?_) | ((with_reducible refine wpId ?_); refine wpList_build_to (by rfl) 48 _ (by rfl) #[.bool q.f.ext, .int .u8 q.f.pr.k, .float .f64 q.f.pr.x, .string q.f.pr.s, .int .i64 q.f.pr.r, .bool q.f.fo, .int .u8 q.f.d.has, .int .u8 q.f.d.v.k, .float .f64 q.f.d.v.x, .string q.f.d.v.s, .int .i64 q.f.d.v.r, .int .u8 q.f.d.g.k, .float .f64 q.f.d.g.x, .string q.f.d.g.s, .int .i64 q.f.d.g.r, .int .u8 q.f.d.t.k, .float .f64 q.f.d.t.x, .string q.f.d.t.s, .int .i64 q.f.d.t.r, .bool q.f.d.wr, .bool q.f.d.en, .bool q.f.d.cf, .slice p1 n1 c1, .slice p2 n2 c2] (by kernel_rfl) ?_; rw [hcs]) | ((with_reducible refine stId 48 (.tmp 2) (.tmp 15) ?_); refine wpList_store_row (by rfl) 48 (.tmp 2) (.tmp 15) (by rfl) (w.heap.size + 1) q.f.cs (by rfl) (by rfl) 48 FI.zero.cs (by exact R.out) (by exact size_facts) (by rfl) (by exact FI.one _ h1 h2) ?_))
  exact bodyPost_ret (v := q.f.a) (results_cell_row Try.results14 _ _ (w.heap.size + 1) 48 q.f.cs (0, 0) _ rfl (R.out.setRow _) Try.underlying48 rfl size_facts) rfl ⟨rfl, below_setRow Bt.out (by omega) _⟩
  
def IsB (e : Ending) : Prop := ∃ b, e = .returned (.bool b)
set_option maxHeartbeats 8000000 in
set_option maxRecDepth 100000 in
theorem long_any (q : QI) (lk ks : List KI) (ds : List DI) (w : World) (hk0 : RdK lk q.x.keys w) (hk : RdK ks q.f.keys w) (hd : RdD ds q.f.own w) : Calls Try.prog 12 #[q.v] w fun e w' => IsB e ∧ Below w.heap.size w w' := by
  obtain ⟨p0, c0, e0, _⟩ := hk0
  obtain ⟨p1, c1, e1, _⟩ := hk
  obtain ⟨p2, c2, e2, _⟩ := hd
  have U := hidB (show Bk (w.alloc (.cells q.cs 41)) w.heap.size 41 q.cs from Bk.new w _ _)
  have Bt := hidB (show Below w.heap.size w (w.alloc (.cells q.cs 41)) from box_one w _)
  go_enter Try.func12, Try.ntmps12
  go_upto_region 1 with fail
  generalize (w.alloc (.cells q.cs 41)) = w1 at *
  have z52 : w1.cell? ⟨w.heap.size, 52, none⟩ = some (q.x.keys) := U.out.cell 52
  have z77 : w1.cell? ⟨w.heap.size, 77, none⟩ = some (q.f.keys) := U.out.cell 77
  have z78 : w1.cell? ⟨w.heap.size, 78, none⟩ = some (q.f.own) := U.out.cell 78
  rw [e0] at z52
  rw [e1] at z77
  rw [e2] at z78
  clear e0 e1 e2
  go_wp2_with fail
  all_goals
    go_ret
    exact ⟨⟨_, rfl⟩, Bt.out⟩
  
def extF : FI := { FI.zero with ext := true }
theorem okA (m : Int) (b : Bool) (w : World) : AskOk (askI m) (yesI b) [] w := ⟨⟨Int.le_refl 0, Int.le_refl 0, Int.le_refl 0⟩, Int.le_refl 0, Int.le_refl 0, ⟨Int.le_refl 0, Int.le_refl 0, Int.le_refl 0⟩, none, 0, rfl, Nat.le_refl _, Nat.zero_le _, fun h => absurd h (by decide)⟩
theorem okF (b : Bool) (w : World) : FactsOk { FI.zero with ext := b } [] [] w := ⟨Int.le_refl 0, ⟨Int.le_refl 0, Int.le_refl 0, Int.le_refl 0⟩, ⟨none, 0, rfl, Nat.le_refl _, Nat.zero_le _, fun h => absurd h (by decide)⟩, ⟨none, 0, rfl, Nat.le_refl _, Nat.zero_le _, fun h => absurd h (by decide)⟩, fun d hd => by cases hd⟩
theorem chk_yes (w : World) : Calls Try.prog 13 #[(askI 3).a, (yesI true).a, extF.a] w fun e w' => e = .returned (.tuple #[OI.a { OI.done with b := true }, .bool true, .int .i64 0]) ∧ Below w.heap.size w w' :=
  (check_any (askI 3) (yesI true) extF [] [] [] (.inl rfl) w (okA 3 true w) (okF true w)).mono fun e w' hh => by
    obtain ⟨kv, _, he, hb⟩ := hh
    exact ⟨he, hb⟩
theorem chk_no (w : World) : Calls Try.prog 13 #[(askI 3).a, (yesI true).a, FI.zero.a] w fun e w' => e = .returned (.tuple #[OI.zero.a, .bool false, .int .i64 0]) ∧ Below w.heap.size w w' :=
  (check_any (askI 3) (yesI true) FI.zero [] [] [] (.inl rfl) w (okA 3 true w) (okF false w)).mono fun e w' hh => by
    obtain ⟨kv, _, he, hb⟩ := hh
    exact ⟨he, hb⟩
set_option maxHeartbeats 8000000 in
set_option maxRecDepth 100000 in
theorem alive_any (w : World) : Calls Try.prog 11 #[] w fun e w' => e = .returned (.bool true) ∧ Below w.heap.size w w' := by
  have Bt := hidB (Below.refl w.heap.size w)
  go_enter Try.func11, Try.ntmps11
  go_upto_region 2 with (first | (go_at_call 17; refine (ask_any 3 _).mono ?_; rintro e wn ⟨rfl, hb⟩; replace Bt := hidB (Bt.out.trans (hb.mono Bt.out.size)); clear hb) | (go_at_call 18; refine (yes_any true _).mono ?_; rintro e wn ⟨rfl, hb⟩; replace Bt := hidB (Bt.out.trans (hb.mono Bt.out.size)); clear hb) | ((with_reducible refine wpId ?_); refine wpList_build_to (by rfl) 48 _ (by rfl) extF.cs (by kernel_rfl) ?_) | (go_at_call 13; refine (chk_yes _).mono ?_; rintro e wn ⟨rfl, hb⟩; replace Bt := hidB (Bt.out.trans (hb.mono Bt.out.size)); clear hb) | ((with_reducible refine stId 38 (.tmp 1) (.tmp 12) ?_); refine wpList_store_new (by rfl) 38 (.tmp 1) (.tmp 12) (by rfl) (OI.cs { OI.done with b := true }) 38 _ (by rfl) (by rfl) (by exact size_out) (by rfl) (by exact OI.one _ (by rfl)) ?_))
  have X := hidB (show Bk (wn.alloc (.cells (OI.cs { OI.done with b := true }) 38)) wn.heap.size 38 (OI.cs { OI.done with b := true }) from Bk.new _ _ _)
  replace Bt := hidB (show Below w.heap.size w (wn.alloc (.cells (OI.cs { OI.done with b := true }) 38)) from Bt.out.alloc Bt.out.size _)
  generalize (wn.alloc (.cells (OI.cs { OI.done with b := true }) 38)) = w1 at *
  generalize wn.heap.size = g1 at *
  go_upto_region 3 with (first | (go_at_call 17; refine (ask_any 3 _).mono ?_; rintro e wn ⟨rfl, hb⟩; replace Bt := hidB (Bt.out.trans (hb.mono Bt.out.size)); replace X := hidB (X.out.on hb); clear hb) | (go_at_call 18; refine (yes_any true _).mono ?_; rintro e wn ⟨rfl, hb⟩; replace Bt := hidB (Bt.out.trans (hb.mono Bt.out.size)); replace X := hidB (X.out.on hb); clear hb) | ((with_reducible refine wpId ?_); refine wpList_build_to (by rfl) 48 _ (by rfl) FI.zero.cs (by kernel_rfl) ?_) | (go_at_call 13; refine (chk_no _).mono ?_; rintro e wn ⟨rfl, hb⟩; replace Bt := hidB (Bt.out.trans (hb.mono Bt.out.size)); replace X := hidB (X.out.on hb); clear hb) | ((with_reducible refine stId 38 (.tmp 4) (.tmp 20) ?_); refine wpList_store_new (by rfl) 38 (.tmp 4) (.tmp 20) (by rfl) (OI.cs OI.zero) 38 _ (by rfl) (by rfl) (by exact size_out) (by rfl) (by exact OI.one _ (by rfl)) ?_))
  replace X := hidB (show Bk (wn.alloc (.cells OI.zero.cs 38)) g1 38 (OI.cs { OI.done with b := true }) from X.out.alloc _)
  replace Bt := hidB (show Below w.heap.size w (wn.alloc (.cells OI.zero.cs 38)) from Bt.out.alloc Bt.out.size _)
  generalize (wn.alloc (.cells OI.zero.cs 38)) = w2 at *
  have z5 : w2.cell? ⟨g1, 5, none⟩ = some (.bool true) := X.out.cell 5
  go_wp2_with fail
  go_ret
  exact ⟨rfl, Bt.out⟩
  
set_option maxHeartbeats 8000000 in
set_option maxRecDepth 100000 in
theorem refused_any (a : AI) (x : OI) (f : FI) (lk ks : List KI) (ds : List DI) (hnil : NilOr x.keys) (hE : chkE a x f lk ks ds = 0) (hB : chkB a x f lk ks ds = false) (w : World) (h : AskOk a x lk w) (hf : FactsOk f ks ds w) : Calls Try.prog 22 #[a.a, x.a, f.a] w fun e w' => e = .returned (.bool true) ∧ Below w.heap.size w w' := by
  have CA := hidB (fun W (hb : Below w.heap.size w W) => check_any a x f lk ks ds hnil W (h.on hb) (hf.on hb))
  have hO : ∀ kv, chkO a x f lk ks ds kv = OI.zero := fun kv => by unfold chkO; rw [hB]; rfl
  have HO := hidB hO
  rw [hE, hB] at CA
  clear hE hB h hf hnil hO
  have A1 := hidB (show Bk (((w.alloc (.cells a.cs 35)).alloc (.cells x.cs 38)).alloc (.cells f.cs 48)) w.heap.size 35 a.cs from ((Bk.new w _ _).alloc _).alloc _)
  have X1 := hidB (show Bk (((w.alloc (.cells a.cs 35)).alloc (.cells x.cs 38)).alloc (.cells f.cs 48)) (w.heap.size + 1) 38 x.cs from (Bk.new2 w _ _ _).alloc _)
  have F1 := hidB (show Bk (((w.alloc (.cells a.cs 35)).alloc (.cells x.cs 38)).alloc (.cells f.cs 48)) (w.heap.size + 1 + 1) 48 f.cs from Bk.new3 w _ _ _ _)
  have B1 := hidB (show Below w.heap.size w (((w.alloc (.cells a.cs 35)).alloc (.cells x.cs 38)).alloc (.cells f.cs 48)) from ((box_one w _).alloc (by simp) _).alloc (by simp; omega) _)
  go_enter Try.func22, Try.ntmps22
  go_upto_region 1 with fail
  generalize (((w.alloc (.cells a.cs 35)).alloc (.cells x.cs 38)).alloc (.cells f.cs 48)) = w1 at *
  go_wp2_with (first | ((with_reducible refine ldId 35 (.tmp 3) ?_); refine wpList_load_row (by rfl) 35 (.tmp 3) (by rfl) (w.heap.size) (by rfl) 35 _ (0, 0) _ (by exact A1.out) Try.underlying35 (by rfl) (by kernel_rfl) ?_) | ((with_reducible refine ldId 38 (.tmp 4) ?_); refine wpList_load_row (by rfl) 38 (.tmp 4) (by rfl) (w.heap.size + 1) (by rfl) 38 _ (0, 0) _ (by exact X1.out) Try.underlying38 (by rfl) (by kernel_rfl) ?_) | ((with_reducible refine ldId 48 (.tmp 5) ?_); refine wpList_load_row (by rfl) 48 (.tmp 5) (by rfl) (w.heap.size + 1 + 1) (by rfl) 48 _ (0, 0) _ (by exact F1.out) Try.underlying48 (by rfl) (by kernel_rfl) ?_))
  refine (CA.out _ B1.out).mono ?_; rintro e w2 ⟨kv, hkv, rfl, hb⟩
  rw [HO.out]
  have B2 := hidB (B1.out.trans (hb.mono B1.out.size))
  clear hb hkv B1 A1 X1 F1
  go_upto_region 2 with (first | ((with_reducible refine stId 38 (.tmp 7) (.tmp 15) ?_); refine wpList_store_new (by rfl) 38 (.tmp 7) (.tmp 15) (by rfl) (OI.cs OI.zero) 38 _ (by rfl) (by rfl) (by exact size_out) (by rfl) (by exact OI.one _ (by rfl)) ?_))
  have X := hidB (show Bk (w2.alloc (.cells OI.zero.cs 38)) w2.heap.size 38 OI.zero.cs from Bk.new _ _ _)
  have B3 := hidB (show Below w.heap.size w (w2.alloc (.cells OI.zero.cs 38)) from B2.out.alloc B2.out.size _)
  generalize (w2.alloc (.cells OI.zero.cs 38)) = w3 at *
  generalize w2.heap.size = g3 at *
  have z0 : w3.cell? ⟨g3, 0, none⟩ = some (.int .u8 0) := X.out.cell 0
  go_wp2_with fail
  go_ret
  exact ⟨rfl, B3.out⟩
  
set_option maxHeartbeats 8000000 in
set_option maxRecDepth 100000 in
theorem descSame_self (d : DI) (hd : d.ok) (hv : d.v.same d.v = true) (hg : d.g.same d.g = true) (ht : d.t.same d.t = true) (w : World) : Calls Try.prog 19 #[d.a, d.a] w fun e w' => e = .returned (.bool true) ∧ Below w.heap.size w w' := by
  have Sv : Hid (∀ W, Calls Try.prog 16 #[d.v.a, d.v.a] W fun e w' => e = .returned (.bool true) ∧ Below W.heap.size W w') := hidB (fun W => by rw [← hv]; exact same_any d.v.k d.v.x d.v.s d.v.r d.v.k d.v.x d.v.s d.v.r hd.1 W)
  have Sg : Hid (∀ W, Calls Try.prog 16 #[d.g.a, d.g.a] W fun e w' => e = .returned (.bool true) ∧ Below W.heap.size W w') := hidB (fun W => by rw [← hg]; exact same_any d.g.k d.g.x d.g.s d.g.r d.g.k d.g.x d.g.s d.g.r hd.2.1 W)
  have St : Hid (∀ W, Calls Try.prog 16 #[d.t.a, d.t.a] W fun e w' => e = .returned (.bool true) ∧ Below W.heap.size W w') := hidB (fun W => by rw [← ht]; exact same_any d.t.k d.t.x d.t.s d.t.r d.t.k d.t.x d.t.s d.t.r hd.2.2 W)
  clear hd hv hg ht
  have U := hidB (show Bk ((w.alloc (.cells d.cs 32)).alloc (.cells d.cs 32)) w.heap.size 32 d.cs from (Bk.new w _ _).alloc _)
  have N := hidB (show Bk ((w.alloc (.cells d.cs 32)).alloc (.cells d.cs 32)) (w.heap.size + 1) 32 d.cs from Bk.new2 w _ _ _)
  have Bt := hidB (show Below w.heap.size w ((w.alloc (.cells d.cs 32)).alloc (.cells d.cs 32)) from (box_one w _).alloc (by simp) _)
  generalize b1 : (bits .and .u8 d.has 1 != 0) = h1 at *
  generalize b2 : (bits .and .u8 d.has 2 != 0) = h2 at *
  generalize b4 : (bits .and .u8 d.has 4 != 0) = h4 at *
  generalize b8 : (bits .and .u8 d.has 8 != 0) = h8 at *
  generalize b16 : (bits .and .u8 d.has 16 != 0) = h16 at *
  generalize b32 : (bits .and .u8 d.has 32 != 0) = h32 at *
  go_enter Try.func19, Try.ntmps19
  go_upto_region 1 with fail
  generalize ((w.alloc (.cells d.cs 32)).alloc (.cells d.cs 32)) = w1 at *
  go_cut [5] from 5 to 79 (fun s5 wx => s5 = .bool false ∧ Bk wx w.heap.size 32 d.cs ∧ Bk wx (w.heap.size + 1) 32 d.cs ∧ Below w.heap.size w wx)
  case first =>
    have x0 : w1.cell? ⟨w.heap.size, 0, none⟩ = some (.int .u8 d.has) := U.out.cell 0
    have y0 : w1.cell? ⟨w.heap.size + 1, 0, none⟩ = some (.int .u8 d.has) := N.out.cell 0
    have hne : (d.has != d.has) = false := by simp
    go_wp2_with fail
    go_meet
    case rel => exact ⟨rfl, U.out, N.out, Bt.out⟩
  case rest =>
  obtain ⟨rfl, hU, hN, hb⟩ := hcut
  replace U := hidB hU
  replace N := hidB hN
  replace Bt := hidB hb
  clear hU hN hb
  go_upto_region 2 with fail
  go_cut [5] from 5 to 79 (fun s5 wx => s5 = .bool false ∧ Bk wx w.heap.size 32 d.cs ∧ Bk wx (w.heap.size + 1) 32 d.cs ∧ Below w.heap.size w wx)
  case first =>
    have x0 : wc.cell? ⟨w.heap.size, 0, none⟩ = some (.int .u8 d.has) := U.out.cell 0
    have y0 : wc.cell? ⟨w.heap.size + 1, 0, none⟩ = some (.int .u8 d.has) := N.out.cell 0
    cases h1
    · go_wp2_with fail
      go_meet
      case rel => exact ⟨rfl, U.out, N.out, Bt.out⟩
    · go_wp2_with (first | ((with_reducible refine ldId 30 (.tmp 16) ?_); refine wpList_wload_mid 30 (.tmp 16) (by rfl) (by rfl) (w.heap.size) 1 (by rfl) (d.v.cells) _ (by exact Bk.mid U.out 1 _ rfl) Try.underlying30 (by rfl) (by kernel_rfl) ?_) | ((with_reducible refine ldId 30 (.tmp 18) ?_); refine wpList_wload_mid 30 (.tmp 18) (by rfl) (by rfl) (w.heap.size + 1) 1 (by rfl) (d.v.cells) _ (by exact Bk.mid N.out 1 _ rfl) Try.underlying30 (by rfl) (by kernel_rfl) ?_))
      refine (Sv.out _).mono ?_; rintro e w2 ⟨rfl, hb⟩
      have U2 := hidB (U.out.on hb)
      have N2 := hidB (N.out.on hb)
      have B2 := hidB (Bt.out.trans (hb.mono Bt.out.size))
      clear hb
      go_wp2_with fail
      go_meet
      case rel => exact ⟨rfl, U2.out, N2.out, B2.out⟩
  case rest =>
  obtain ⟨rfl, hU, hN, hb⟩ := hcut
  replace U := hidB hU
  replace N := hidB hN
  replace Bt := hidB hb
  clear hU hN hb
  go_upto_region 3 with fail
  go_cut [5] from 5 to 79 (fun s5 wx => s5 = .bool false ∧ Bk wx w.heap.size 32 d.cs ∧ Bk wx (w.heap.size + 1) 32 d.cs ∧ Below w.heap.size w wx)
  case first =>
    have x0 : wc.cell? ⟨w.heap.size, 0, none⟩ = some (.int .u8 d.has) := U.out.cell 0
    have y0 : wc.cell? ⟨w.heap.size + 1, 0, none⟩ = some (.int .u8 d.has) := N.out.cell 0
    cases h4
    · go_wp2_with fail
      go_meet
      case rel => exact ⟨rfl, U.out, N.out, Bt.out⟩
    · go_wp2_with (first | ((with_reducible refine ldId 30 (.tmp 28) ?_); refine wpList_wload_mid 30 (.tmp 28) (by rfl) (by rfl) (w.heap.size) 5 (by rfl) (d.g.cells) _ (by exact Bk.mid U.out 5 _ rfl) Try.underlying30 (by rfl) (by kernel_rfl) ?_) | ((with_reducible refine ldId 30 (.tmp 30) ?_); refine wpList_wload_mid 30 (.tmp 30) (by rfl) (by rfl) (w.heap.size + 1) 5 (by rfl) (d.g.cells) _ (by exact Bk.mid N.out 5 _ rfl) Try.underlying30 (by rfl) (by kernel_rfl) ?_))
      refine (Sg.out _).mono ?_; rintro e w2 ⟨rfl, hb⟩
      have U2 := hidB (U.out.on hb)
      have N2 := hidB (N.out.on hb)
      have B2 := hidB (Bt.out.trans (hb.mono Bt.out.size))
      clear hb
      go_wp2_with fail
      go_meet
      case rel => exact ⟨rfl, U2.out, N2.out, B2.out⟩
  case rest =>
  obtain ⟨rfl, hU, hN, hb⟩ := hcut
  replace U := hidB hU
  replace N := hidB hN
  replace Bt := hidB hb
  clear hU hN hb
  go_upto_region 4 with fail
  go_cut [5] from 5 to 79 (fun s5 wx => s5 = .bool false ∧ Bk wx w.heap.size 32 d.cs ∧ Bk wx (w.heap.size + 1) 32 d.cs ∧ Below w.heap.size w wx)
  case first =>
    have x0 : wc.cell? ⟨w.heap.size, 0, none⟩ = some (.int .u8 d.has) := U.out.cell 0
    have y0 : wc.cell? ⟨w.heap.size + 1, 0, none⟩ = some (.int .u8 d.has) := N.out.cell 0
    cases h8
    · go_wp2_with fail
      go_meet
      case rel => exact ⟨rfl, U.out, N.out, Bt.out⟩
    · go_wp2_with (first | ((with_reducible refine ldId 30 (.tmp 40) ?_); refine wpList_wload_mid 30 (.tmp 40) (by rfl) (by rfl) (w.heap.size) 9 (by rfl) (d.t.cells) _ (by exact Bk.mid U.out 9 _ rfl) Try.underlying30 (by rfl) (by kernel_rfl) ?_) | ((with_reducible refine ldId 30 (.tmp 42) ?_); refine wpList_wload_mid 30 (.tmp 42) (by rfl) (by rfl) (w.heap.size + 1) 9 (by rfl) (d.t.cells) _ (by exact Bk.mid N.out 9 _ rfl) Try.underlying30 (by rfl) (by kernel_rfl) ?_))
      refine (St.out _).mono ?_; rintro e w2 ⟨rfl, hb⟩
      have U2 := hidB (U.out.on hb)
      have N2 := hidB (N.out.on hb)
      have B2 := hidB (Bt.out.trans (hb.mono Bt.out.size))
      clear hb
      go_wp2_with fail
      go_meet
      case rel => exact ⟨rfl, U2.out, N2.out, B2.out⟩
  case rest =>
  obtain ⟨rfl, hU, hN, hb⟩ := hcut
  replace U := hidB hU
  replace N := hidB hN
  replace Bt := hidB hb
  clear hU hN hb
  go_upto_region 5 with fail
  go_cut [5] from 5 to 79 (fun s5 wx => s5 = .bool false ∧ Bk wx w.heap.size 32 d.cs ∧ Bk wx (w.heap.size + 1) 32 d.cs ∧ Below w.heap.size w wx)
  case first =>
    have x0 : wc.cell? ⟨w.heap.size, 0, none⟩ = some (.int .u8 d.has) := U.out.cell 0
    have x13 : wc.cell? ⟨w.heap.size, 13, none⟩ = some (.bool d.wr) := U.out.cell 13
    have y0 : wc.cell? ⟨w.heap.size + 1, 0, none⟩ = some (.int .u8 d.has) := N.out.cell 0
    have y13 : wc.cell? ⟨w.heap.size + 1, 13, none⟩ = some (.bool d.wr) := N.out.cell 13
    have hne : (d.wr != d.wr) = false := by cases d.wr <;> rfl
    cases h2
    all_goals
      go_wp2_with fail
      go_meet
      case rel => exact ⟨rfl, U.out, N.out, Bt.out⟩
  case rest =>
  obtain ⟨rfl, hU, hN, hb⟩ := hcut
  replace U := hidB hU
  replace N := hidB hN
  replace Bt := hidB hb
  clear hU hN hb
  go_upto_region 6 with fail
  go_cut [5] from 5 to 79 (fun s5 wx => s5 = .bool false ∧ Bk wx w.heap.size 32 d.cs ∧ Bk wx (w.heap.size + 1) 32 d.cs ∧ Below w.heap.size w wx)
  case first =>
    have x0 : wc.cell? ⟨w.heap.size, 0, none⟩ = some (.int .u8 d.has) := U.out.cell 0
    have x14 : wc.cell? ⟨w.heap.size, 14, none⟩ = some (.bool d.en) := U.out.cell 14
    have y0 : wc.cell? ⟨w.heap.size + 1, 0, none⟩ = some (.int .u8 d.has) := N.out.cell 0
    have y14 : wc.cell? ⟨w.heap.size + 1, 14, none⟩ = some (.bool d.en) := N.out.cell 14
    have hne : (d.en != d.en) = false := by cases d.en <;> rfl
    cases h16
    all_goals
      go_wp2_with fail
      go_meet
      case rel => exact ⟨rfl, U.out, N.out, Bt.out⟩
  case rest =>
  obtain ⟨rfl, hU, hN, hb⟩ := hcut
  replace U := hidB hU
  replace N := hidB hN
  replace Bt := hidB hb
  clear hU hN hb
  go_upto_region 7 with fail
  go_cut [5] from 5 to 79 (fun s5 wx => s5 = .bool false ∧ Bk wx w.heap.size 32 d.cs ∧ Bk wx (w.heap.size + 1) 32 d.cs ∧ Below w.heap.size w wx)
  case first =>
    have x0 : wc.cell? ⟨w.heap.size, 0, none⟩ = some (.int .u8 d.has) := U.out.cell 0
    have x15 : wc.cell? ⟨w.heap.size, 15, none⟩ = some (.bool d.cf) := U.out.cell 15
    have y0 : wc.cell? ⟨w.heap.size + 1, 0, none⟩ = some (.int .u8 d.has) := N.out.cell 0
    have y15 : wc.cell? ⟨w.heap.size + 1, 15, none⟩ = some (.bool d.cf) := N.out.cell 15
    have hne : (d.cf != d.cf) = false := by cases d.cf <;> rfl
    cases h32
    all_goals
      go_wp2_with fail
      go_meet
      case rel => exact ⟨rfl, U.out, N.out, Bt.out⟩
  case rest =>
  obtain ⟨rfl, hU, hN, hb⟩ := hcut
  replace U := hidB hU
  replace N := hidB hN
  replace Bt := hidB hb
  clear hU hN hb
  go_wp2_with fail
  go_ret
  exact ⟨rfl, Bt.out⟩
  
end Go.Proofs.Ytlpldhcoplbopaa
