/-
  The same: keys.
-/
import Derived.Test.YtlpldhcoplbopaaPostCheck
namespace Go.Proofs.Ytlpldhcoplbopaa
open Go.RowKit

theorem info_key : (Try.prog.info? 27).map (fun i => (i.zero, i.size, i.bytes)) = some (some (.agg #[.string ⟨#[]⟩, .int .i64 0]), 2, 24) := by kernel_rfl
theorem info_partsK {o : Option TypeInfo} {z : Value} {n b : Nat} (h : o.map (fun i => (i.zero, i.size, i.bytes)) = some (some z, n, b)) : ∃ i, o = some i ∧ i.zero = some z ∧ i.size = n ∧ i.bytes = b := by
  obtain ⟨i, rfl, h⟩ := Option.map_eq_some_iff.1 h
  exact ⟨i, rfl, by simpa using h⟩
def keysC (l : List KI) : List Value := l.flatMap KI.cells
theorem keysC_length : ∀ l : List KI, (keysC l).length = l.length * 2
  | [] => rfl
  | k :: l => by rw [keysC, List.flatMap_cons, List.length_append, show (List.flatMap KI.cells l).length = l.length * 2 from keysC_length l]; simp; omega
theorem keysC_one : ∀ l : List KI, ∀ u ∈ keysC l, u.oneCell' = true := by
  intro l u hu
  obtain ⟨k, _, hk⟩ := List.mem_flatMap.1 hu
  simp only [KI.cells, List.mem_cons, List.not_mem_nil, or_false] at hk
  rcases hk with rfl | rfl <;> rfl
theorem keysC_at {w : World} {g : Nat} : ∀ (l : List KI) (o : Nat), (∀ i (h : i < l.length), w.rangeAt g (o + i * 2) l[i].cells) → ∀ j u, (keysC l)[j]? = some u → w.cell? ((⟨g, o, none⟩ : Addr).add j) = some u
  | [], _, _, _, _, hu => by simp [keysC] at hu
  | k :: l, o, h, 0, u, hu => by rw [Addr.add_mid]; have := h 0 (by simp) 0 u hu; simpa using this
  | k :: l, o, h, 1, u, hu => by rw [Addr.add_mid]; have := h 0 (by simp) 1 u hu; simpa using this
  | k :: l, o, h, j + 2, u, hu => by
    have := keysC_at l (o + 2) (fun i hi => by have h' := h (i + 1) (by simpa using hi); rw [show o + 2 + i * 2 = o + (i + 1) * 2 by omega]; exact h') j u hu
    rw [Addr.add_mid] at this ⊢
    rw [show o + (j + 2) = o + 2 + j by omega]; exact this
theorem Bk.grown {w w1 : World} {g : Nat} {t : TypeId} {cs : Array Value} (h : Bk w g t cs) (hg : w.grownBy w1 none) : Bk w1 g t cs := (hg.block g h.lt (by simp)).trans h
theorem below_grown {B : Nat} {w0 w w1 : World} (h : Below B w0 w) (hB : B ≤ w0.heap.size) (hg : w.grownBy w1 none) : Below B w0 w1 :=
  ⟨hg.os.trans h.os, hg.tape.trans h.tape, hg.output.trans h.output, Nat.le_trans h.size hg.size, fun k hk => (hg.block k (by have := h.size; omega) (by simp)).trans (h.block k hk)⟩
theorem own_slice0 {w : World} {base : Nat} {e : TypeId} {sz : Nat} {v : Value} {n : Nat} {xs : List Value} (h : w.ownsRow base e sz v n xs) : ∃ q c, v = .slice q n c := by
  obtain ⟨_, ⟨rfl, rfl⟩ | ⟨g, cap, cur, rfl, _⟩⟩ := h <;> exact ⟨_, _, rfl⟩
/-- Lists of keys in this program: nil, or an array. -/
def NilOr (v : Value) : Prop := v = .slice none 0 0 ∨ ∃ ad n c, v = .slice (some ad) n c

set_option maxHeartbeats 8000000 in
set_option maxRecDepth 100000 in
theorem check_keys (a : AI) (x : OI) (f : FI) (lk ks : List KI) (ds : List DI) (hm2 : a.m = 11) (hnil : NilOr x.keys) (hm : 1 ≤ a.m ∧ a.m ≤ 13) (hl : a.m = 11 → ds.length = ks.length) (he : askedE a x lk = 0) (hk : knownE a.m f ks ds = 0) (hw : wellB a x f lk ks ds = true) (w : World) (h : AskOk a x lk w) (hf : FactsOk f ks ds w) : Calls Try.prog 13 #[a.a, x.a, f.a] w fun e w' => ∃ kv, (∃ q c, kv = .slice q lk.length c) ∧ e = .returned (.tuple #[OI.a { OI.done with keys := kv }, .bool true, .int .i64 0]) ∧ Below w.heap.size w w' := by
  have hlen : lk.length ≤ 1024 := by
    unfold askedE at he
    by_cases hb : lk.length ≤ 1024
    · exact hb
    · exfalso
      split at he
      · cases he
      · rw [if_neg (show ¬ a.m = 2 by omega), if_neg (show ¬ a.m = 6 by omega), if_neg (show ¬ a.m = 9 by omega), if_neg (show ¬ (a.m = 1 ∨ a.m = 8 ∨ a.m = 12 ∨ a.m = 13) by omega), if_neg (show ¬ a.m = 5 by omega)] at he
        try rw [if_pos hm2] at he
        unfold keysE at he
        rw [if_pos (by omega)] at he
        exact absurd he (by decide)
  have RK := hidB (fun W (hb : Below w.heap.size w W) => h.xk.on hb)
  have QA := hidB (fun W (hb : Below w.heap.size w W) => pasked_any a x lk W (h.on hb))
  have KA := hidB (fun W (hb : Below w.heap.size w W) => known_any a.m f ks ds hm W (hf.on hb))
  have WA := hidB (fun W (hb : Below w.heap.size w W) => well_any a x f lk ks ds hm hl W (h.on hb) (hf.on hb))
  clear h hf hm hl
  rw [he] at QA
  rw [hk] at KA
  rw [hw] at WA
  clear he hk hw
  have A1 := hidB (show Bk ((((w.alloc (.cells a.cs 35)).alloc (.cells x.cs 38)).alloc (.cells f.cs 48)).alloc (.cells #[.int .u8 0, .int .u8 0, .float .f64 0, .string ⟨#[]⟩, .int .i64 0, .bool false, .bool false, .int .u8 0, .int .u8 0, .float .f64 0, .string ⟨#[]⟩, .int .i64 0, .int .u8 0, .float .f64 0, .string ⟨#[]⟩, .int .i64 0, .int .u8 0, .float .f64 0, .string ⟨#[]⟩, .int .i64 0, .bool false, .bool false, .bool false, .slice none 0 0, .int .u8 0, .string ⟨#[]⟩] 38)) (w.heap.size) 35 a.cs from (((Bk.new w _ _).alloc _).alloc _).alloc _)
  have X1 := hidB (show Bk ((((w.alloc (.cells a.cs 35)).alloc (.cells x.cs 38)).alloc (.cells f.cs 48)).alloc (.cells #[.int .u8 0, .int .u8 0, .float .f64 0, .string ⟨#[]⟩, .int .i64 0, .bool false, .bool false, .int .u8 0, .int .u8 0, .float .f64 0, .string ⟨#[]⟩, .int .i64 0, .int .u8 0, .float .f64 0, .string ⟨#[]⟩, .int .i64 0, .int .u8 0, .float .f64 0, .string ⟨#[]⟩, .int .i64 0, .bool false, .bool false, .bool false, .slice none 0 0, .int .u8 0, .string ⟨#[]⟩] 38)) (w.heap.size + 1) 38 x.cs from ((Bk.new2 w _ _ _).alloc _).alloc _)
  have F1 := hidB (show Bk ((((w.alloc (.cells a.cs 35)).alloc (.cells x.cs 38)).alloc (.cells f.cs 48)).alloc (.cells #[.int .u8 0, .int .u8 0, .float .f64 0, .string ⟨#[]⟩, .int .i64 0, .bool false, .bool false, .int .u8 0, .int .u8 0, .float .f64 0, .string ⟨#[]⟩, .int .i64 0, .int .u8 0, .float .f64 0, .string ⟨#[]⟩, .int .i64 0, .int .u8 0, .float .f64 0, .string ⟨#[]⟩, .int .i64 0, .bool false, .bool false, .bool false, .slice none 0 0, .int .u8 0, .string ⟨#[]⟩] 38)) (w.heap.size + 1 + 1) 48 f.cs from (Bk.new3 w _ _ _ _).alloc _)
  have R1 := hidB (show Bk ((((w.alloc (.cells a.cs 35)).alloc (.cells x.cs 38)).alloc (.cells f.cs 48)).alloc (.cells #[.int .u8 0, .int .u8 0, .float .f64 0, .string ⟨#[]⟩, .int .i64 0, .bool false, .bool false, .int .u8 0, .int .u8 0, .float .f64 0, .string ⟨#[]⟩, .int .i64 0, .int .u8 0, .float .f64 0, .string ⟨#[]⟩, .int .i64 0, .int .u8 0, .float .f64 0, .string ⟨#[]⟩, .int .i64 0, .bool false, .bool false, .bool false, .slice none 0 0, .int .u8 0, .string ⟨#[]⟩] 38)) (w.heap.size + 1 + 1 + 1) 38 OI.zero.cs from Bk.new4 w _ _ _ _ _)
  have B1 := hidB (show Below w.heap.size w ((((w.alloc (.cells a.cs 35)).alloc (.cells x.cs 38)).alloc (.cells f.cs 48)).alloc (.cells #[.int .u8 0, .int .u8 0, .float .f64 0, .string ⟨#[]⟩, .int .i64 0, .bool false, .bool false, .int .u8 0, .int .u8 0, .float .f64 0, .string ⟨#[]⟩, .int .i64 0, .int .u8 0, .float .f64 0, .string ⟨#[]⟩, .int .i64 0, .int .u8 0, .float .f64 0, .string ⟨#[]⟩, .int .i64 0, .bool false, .bool false, .bool false, .slice none 0 0, .int .u8 0, .string ⟨#[]⟩] 38)) from (((box_one w _).alloc (by simp) _).alloc (by simp; omega) _).alloc (by simp; omega) _)
  have HM := hidB hm2
  clear hm2
  go_enter Try.func13, Try.ntmps13
  go_upto_region 1 with fail
  generalize ((((w.alloc (.cells a.cs 35)).alloc (.cells x.cs 38)).alloc (.cells f.cs 48)).alloc (.cells #[.int .u8 0, .int .u8 0, .float .f64 0, .string ⟨#[]⟩, .int .i64 0, .bool false, .bool false, .int .u8 0, .int .u8 0, .float .f64 0, .string ⟨#[]⟩, .int .i64 0, .int .u8 0, .float .f64 0, .string ⟨#[]⟩, .int .i64 0, .int .u8 0, .float .f64 0, .string ⟨#[]⟩, .int .i64 0, .bool false, .bool false, .bool false, .slice none 0 0, .int .u8 0, .string ⟨#[]⟩] 38)) = w1 at *
  go_wp2_with (first | ((with_reducible refine ldId 35 (.tmp 3) ?_); refine wpList_load_row (by rfl) 35 (.tmp 3) (by rfl) (w.heap.size) (by rfl) 35 _ (0, 0) _ (by exact A1.out) Try.underlying35 (by rfl) (by kernel_rfl) ?_) | ((with_reducible refine ldId 38 (.tmp 4) ?_); refine wpList_load_row (by rfl) 38 (.tmp 4) (by rfl) (w.heap.size + 1) (by rfl) 38 _ (0, 0) _ (by exact X1.out) Try.underlying38 (by rfl) (by kernel_rfl) ?_))
  refine (QA.out _ B1.out).mono ?_; rintro e w2 ⟨rfl, hb⟩
  have A2 := hidB (A1.out.on hb)
  have X2 := hidB (X1.out.on hb)
  have F2 := hidB (F1.out.on hb)
  have R2 := hidB (R1.out.on hb)
  have B2 := hidB (B1.out.trans (hb.mono B1.out.size))
  clear hb A1 X1 F1 R1 B1
  have z_m : w2.cell? ⟨w.heap.size, 0, none⟩ = some (.int .u8 a.m) := A2.out.cell 0
  go_wp2_with (first | ((with_reducible refine ldId 48 (.tmp 5) ?_); refine wpList_load_row (by rfl) 48 (.tmp 5) (by rfl) (w.heap.size + 1 + 1) (by rfl) 48 _ (0, 0) _ (by exact F2.out) Try.underlying48 (by rfl) (by kernel_rfl) ?_))
  refine (KA.out _ B2.out).mono ?_; rintro e w3 ⟨rfl, hb⟩
  have A3 := hidB (A2.out.on hb)
  have X3 := hidB (X2.out.on hb)
  have F3 := hidB (F2.out.on hb)
  have R3 := hidB (R2.out.on hb)
  have B3 := hidB (B2.out.trans (hb.mono B2.out.size))
  clear hb A2 X2 F2 R2 B2
  clear z_m
  go_wp2_with (first | ((with_reducible refine ldId 35 (.tmp 3) ?_); refine wpList_load_row (by rfl) 35 (.tmp 3) (by rfl) (w.heap.size) (by rfl) 35 _ (0, 0) _ (by exact A3.out) Try.underlying35 (by rfl) (by kernel_rfl) ?_) | ((with_reducible refine ldId 38 (.tmp 4) ?_); refine wpList_load_row (by rfl) 38 (.tmp 4) (by rfl) (w.heap.size + 1) (by rfl) 38 _ (0, 0) _ (by exact X3.out) Try.underlying38 (by rfl) (by kernel_rfl) ?_) | ((with_reducible refine ldId 48 (.tmp 5) ?_); refine wpList_load_row (by rfl) 48 (.tmp 5) (by rfl) (w.heap.size + 1 + 1) (by rfl) 48 _ (0, 0) _ (by exact F3.out) Try.underlying48 (by rfl) (by kernel_rfl) ?_))
  refine (WA.out _ B3.out).mono ?_; rintro e w4 ⟨rfl, hb⟩
  have A4 := hidB (A3.out.on hb)
  have X4 := hidB (X3.out.on hb)
  have F4 := hidB (F3.out.on hb)
  have R4 := hidB (R3.out.on hb)
  have B4 := hidB (B3.out.trans (hb.mono B3.out.size))
  clear hb A3 X3 F3 R3 B3
  have A5 := hidB (show Bk (w4.alloc (.cells OI.done.cs 38)) (w.heap.size) 35 a.cs from A4.out.alloc _)
  have X5 := hidB (show Bk (w4.alloc (.cells OI.done.cs 38)) (w.heap.size + 1) 38 x.cs from X4.out.alloc _)
  have R5 := hidB (show Bk (w4.alloc (.cells OI.done.cs 38)) (w.heap.size + 1 + 1 + 1) 38 OI.zero.cs from R4.out.alloc _)
  have O5 := hidB (show Bk (w4.alloc (.cells OI.done.cs 38)) w4.heap.size 38 OI.done.cs from Bk.new w4 _ _)
  have B5 := hidB (show Below w.heap.size w (w4.alloc (.cells OI.done.cs 38)) from B4.out.alloc B4.out.size _)
  have hn5 : w.heap.size + 1 + 1 + 1 < w4.heap.size := R4.out.lt
  go_upto_region 10 with (first | ((with_reducible refine wpId ?_); refine wpList_build_to (by rfl) 38 _ (by rfl) OI.done.cs (by kernel_rfl) ?_) | ((with_reducible refine stId 38 (.tmp 11) (.tmp 33) ?_); refine wpList_store_new (by rfl) 38 (.tmp 11) (.tmp 33) (by rfl) OI.done.cs 38 _ (by rfl) (by rfl) (by exact size_out) (by rfl) (by exact OI.one _ (by rfl)) ?_))
  generalize (w4.alloc (.cells OI.done.cs 38)) = w5 at *
  generalize w4.heap.size = g5 at *
  clear A4 X4 F4 R4 B4
  have hn6 : w.heap.size + 1 + 1 + 1 ≠ g5 := by omega
  have hn7 : w.heap.size ≤ g5 := by omega
  have z_m : w5.cell? ⟨w.heap.size, 0, none⟩ = some (.int .u8 11) := by rw [← HM.out]; exact A5.out.cell 0
  obtain ⟨pk, ck, hkv, hc1, hc2, hcell⟩ := RK.out _ B5.out
  obtain ⟨i0, hi, hz0, hz1, hz2⟩ := info_partsK info_key
  have z_k : w5.cell? ⟨w.heap.size + 1, 23, none⟩ = some x.keys := X5.out.cell 23
  clear hc1 hc2 RK
  rcases hnil with e0 | ⟨ad, n, c, e1⟩
  · rw [e0] at hkv z_k
    have hkv0 : lk.length = 0 := by injection hkv with _ h2 _; omega
    clear hkv hcell
    have f5 : w5.frozen? ⟨g5, 23, none⟩ = false := O5.out.free 23
    have o5 : w5.cell? ⟨g5, 23, none⟩ = some (.slice none 0 0) := O5.out.cell 23
    have O8 := hidB (show Bk (w5.setCell ⟨g5, 23, none⟩ (.slice none 0 0)) g5 38 (OI.cs { OI.done with keys := .slice none 0 0 }) from O5.out.set 23 _)
    have R8 := hidB (show Bk (w5.setCell ⟨g5, 23, none⟩ (.slice none 0 0)) (w.heap.size + 1 + 1 + 1) 38 OI.zero.cs from R5.out.far hn6 _)
    have B8 := hidB (show Below w.heap.size w (w5.setCell ⟨g5, 23, none⟩ (.slice none 0 0)) from B5.out.setCell (p := ⟨g5, 23, none⟩) hn7 _)
    go_wp2_with (first | (at_builtin; refine wpList_append_own_none (by rfl) _ _ 36 (by rfl) w.heap.size 27 i0 2 Try.underlying36 hi (.slice none 0 0) 0 [] (by rfl) (World.ownsRow_nil _ _ _ _) (by rfl) ?_) | ((with_reducible refine ldId 38 (.tmp 11) ?_); refine wpList_load_row (by rfl) 38 (.tmp 11) (by rfl) g5 (by rfl) 38 _ (0, 0) _ (by exact O8.out) Try.underlying38 (by rfl) (by exact size_out) ?_) | ((with_reducible refine stId 38 (.tmp 6) (.tmp 67) ?_); refine wpList_store_row (by rfl) 38 (.tmp 6) (.tmp 67) (by rfl) (w.heap.size + 1 + 1 + 1) ({ OI.done with keys := .slice none 0 0 } : OI).cs (by rfl) (by rfl) 38 OI.zero.cs (by exact R8.out) (by exact size_out) (by rfl) (by exact OI.one _ (by rfl)) ?_))
    exact bodyPost_ret (v := .tuple #[OI.a { OI.done with keys := .slice none 0 0 }, .bool true, .int .i64 0]) (results_row3 Try.results13 _ _ (w.heap.size + 1 + 1 + 1) 38 (OI.cs { OI.done with keys := .slice none 0 0 }) (0, 0) _ rfl (R8.out.setRow _) Try.underlying38 rfl size_out) rfl ⟨.slice none 0 0, ⟨_, _, by first | rfl | (rw [hkv0])⟩, rfl, below_setRow B8.out (by omega) _⟩
  · rw [e1] at hkv z_k
    obtain ⟨rfl, hn, rfl⟩ : some ad = pk ∧ n = lk.length ∧ c = ck := by injection hkv with h1 h2 h3; exact ⟨h1, h2, h3⟩
    subst hn
    clear hkv e1
    have HC : Hid (∀ j u, (keysC lk)[j]? = some u → w5.cell? (ad.add j) = some u) := hidB (by
      rcases lk with _ | ⟨k0, l0⟩
      · intro j u hu; simp [keysC] at hu
      · obtain ⟨g, o, eo, _, hx⟩ := hcell (by simp)
        obtain rfl := Option.some.inj eo
        exact keysC_at _ _ hx)
    clear hcell
    go_upto_region 18 with fail
    skip
    go_wp2_with (first | (at_builtin; (refine wpList_append_own _ (by rfl) _ _ 36 (by rfl) w.heap.size 27 i0 _ 2 24 Try.underlying36 hi hz0 hz1 hz2 (by rfl) (by decide) (.slice none 0 0) 0 [] (by rfl) (World.ownsRow_nil _ _ _ _) ad lk.length c (keysC lk) (by rfl) (keysC_length lk) HC.out (keysC_one lk) (by unfold maxLen; omega) (by omega) B5.out.size ?_)))
    intro v' w6 hown' hgrow _
    obtain ⟨q, cq, rfl⟩ := own_slice0 hown'
    have O6 := hidB (O5.out.grown hgrow)
    have R6 := hidB (R5.out.grown hgrow)
    have B6 := hidB (below_grown B5.out (Nat.le_refl _) hgrow)
    clear hown' hgrow hi hz0 hz1 hz2 hlen
    have f5 : w6.frozen? ⟨g5, 23, none⟩ = false := O6.out.free 23
    have o5 : w6.cell? ⟨g5, 23, none⟩ = some (.slice none 0 0) := O6.out.cell 23
    have O8 := hidB (show Bk (w6.setCell ⟨g5, 23, none⟩ (.slice q lk.length cq)) g5 38 (OI.cs { OI.done with keys := .slice q lk.length cq }) from O6.out.set 23 _)
    have R8 := hidB (show Bk (w6.setCell ⟨g5, 23, none⟩ (.slice q lk.length cq)) (w.heap.size + 1 + 1 + 1) 38 OI.zero.cs from R6.out.far hn6 _)
    have B8 := hidB (show Below w.heap.size w (w6.setCell ⟨g5, 23, none⟩ (.slice q lk.length cq)) from B6.out.setCell (p := ⟨g5, 23, none⟩) hn7 _)
    go_wp2_with (first | ((with_reducible refine ldId 38 (.tmp 11) ?_); refine wpList_load_row (by rfl) 38 (.tmp 11) (by rfl) g5 (by rfl) 38 _ (0, 0) _ (by exact O8.out) Try.underlying38 (by rfl) (by exact size_out) ?_) | ((with_reducible refine stId 38 (.tmp 6) (.tmp 67) ?_); refine wpList_store_row (by rfl) 38 (.tmp 6) (.tmp 67) (by rfl) (w.heap.size + 1 + 1 + 1) ({ OI.done with keys := .slice q lk.length cq } : OI).cs (by rfl) (by rfl) 38 OI.zero.cs (by exact R8.out) (by exact size_out) (by rfl) (by exact OI.one _ (by rfl)) ?_))
    exact bodyPost_ret (v := .tuple #[OI.a { OI.done with keys := .slice q lk.length cq }, .bool true, .int .i64 0]) (results_row3 Try.results13 _ _ (w.heap.size + 1 + 1 + 1) 38 (OI.cs { OI.done with keys := .slice q lk.length cq }) (0, 0) _ rfl (R8.out.setRow _) Try.underlying38 rfl size_out) rfl ⟨.slice q lk.length cq, ⟨_, _, by first | rfl | (rw [hkv0])⟩, rfl, below_setRow B8.out (by omega) _⟩
end Go.Proofs.Ytlpldhcoplbopaa
