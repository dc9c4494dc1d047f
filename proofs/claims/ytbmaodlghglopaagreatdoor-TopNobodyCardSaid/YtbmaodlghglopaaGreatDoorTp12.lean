/-
  What is wrong with an ask of a heap.
-/
import Derived.Test.YtbmaodlghglopaaGreatDoorTp11
namespace Go.Proofs.YtbmaodlghglopaaGreatDoor
open Go.RowKit

/-- The first eleven objects are as they must be. -/
def firstB (h : HI) : Prop := ∀ i (hi : i < h.length), i < 11 → h[i].1.ma = false ∧ h[i].1.ca = (i == 1)
def WrongR (h : HI) (a : AI) (args : List VI) (w : World) (e : Ending) (w' : World) : Prop := ∃ er : Int, e = .returned (.int .i64 er) ∧ Below w.heap.size w w' ∧ (er = 0 → chkH h = 0 ∧ 11 ≤ h.length ∧ 0 ≤ a.ob ∧ a.ob < (h.length : Int) ∧ args.length ≤ 64 ∧ (a.m = 8 → a.k.err = 0)) ∧
  (chkH h = 0 → 11 ≤ h.length → firstB h → 0 ≤ a.ob → a.ob < (h.length : Int) → a.m = 3 → isObj a.v.k = false → a.v.may = true → isObj a.r.k = false → a.r.may = true → args = [] → er = 0)
theorem rd_at {α : Type} {f : α → List Value} {n : Nat} {l : List α} {q : Option Addr} {m c : Nat} {w : World} (h : RdL f n l (.slice q m c) w) {i : Nat} (hi : i < l.length) : m = l.length ∧ ∃ g o, q = some ⟨g, o, none⟩ ∧ g < w.heap.size ∧ w.rangeAt g (o + i * n) (f l[i]) := by
  obtain ⟨pa, c', hv, _, _, h3⟩ := h
  obtain ⟨g, o, rfl, hg, hrow⟩ := h3 (by omega)
  simp only [Value.slice.injEq] at hv
  exact ⟨hv.2.1, g, o, hv.1, hg, hrow i hi⟩

set_option maxHeartbeats 8000000 in
set_option maxRecDepth 100000 in
theorem wrongR_any (h : HI) (hok : HOk h) (hk : HKeys h) (hv : Value) (a : AI) (hm : a.m = 3 ∨ a.m = 8) (hvk : 0 ≤ a.v.k) (hrk : 0 ≤ a.r.k) (args : List VI) (hargs : ∀ v ∈ args, 0 ≤ v.k) (w : World) (hr : RdH h hv w) (hra : RdL VI.cells 4 args a.args w) : Calls Tryz.prog 14 #[.agg #[hv], a.a, .int .i64 1] w (WrongR h a args w) := by
  have HRD := hidB (fun W (hb : Below w.heap.size w W) => hr.on hb)
  have CHK := hidB (fun W (hb : Below w.heap.size w W) => chk_any h hok hk hv W (hr.on hb))
  have INA := hidB (fun (v : VI) (h0 : 0 ≤ v.k) W (hb : Below w.heap.size w W) => inR_any h hv v h0 W (hr.on hb))
  obtain ⟨⟨pa, c, rfl, h1, h2, h3⟩, hpp⟩ := hr
  have HRW := hidB h3
  have HPP := hidB (fun e he => (hpp e he).one)
  unfold maxLen at h2
  have hlm : h.length ≤ 9223372036854775807 := by omega
  have hlc : h.length ≤ c := h1
  have hlc2 : c ≤ 9223372036854775807 := h2
  clear h3 hpp h1 h2
  have HRA := hidB (fun W (hb : Below w.heap.size w W) => hra.on hb)
  obtain ⟨qa, ca, haa, ha1, ha2, _⟩ := hra
  have HAA := hidB haa
  unfold maxLen at ha2
  have hal : args.length ≤ 9223372036854775807 := by omega
  have HM := hidB hm
  have HARGS := hidB hargs
  have HVK := hidB hvk
  have HRK := hidB hrk
  clear hok hk hm hargs hvk hrk haa ha1 ha2
  have Y := hidB (show Bk ((w.alloc (.cells (#[(.slice pa h.length c)]) 24)).alloc (.cells (a.cs) 34)) (w.heap.size) 24 (#[(.slice pa h.length c)]) from (Bk.new w _ _).alloc _)
  have X := hidB (show Bk ((w.alloc (.cells (#[(.slice pa h.length c)]) 24)).alloc (.cells (a.cs) 34)) (w.heap.size + 1) 34 (a.cs) from Bk.new2 w _ _ _)
  have B := hidB (show Below w.heap.size w ((w.alloc (.cells (#[(.slice pa h.length c)]) 24)).alloc (.cells (a.cs) 34)) from (box_one w _).alloc (by simp) _)
  go_enter Tryz.func14, Tryz.ntmps14
  go_upto_region 1 with fail
  generalize hW : ((w.alloc (.cells (#[(.slice pa h.length c)]) 24)).alloc (.cells (a.cs) 34)) = w1 at *
  clear hW
  go_wp2_with (first | ((with_reducible refine ldId 24 (.tmp 3) ?_); refine wpList_load_row (by rfl) 24 (.tmp 3) (by rfl) (w.heap.size) (by rfl) 24 (#[(.slice pa h.length c)]) (0, 0) _ (by exact Y.out) Tryz.underlying24 (by rfl) (by kernel_rfl) ?_))
  refine (CHK.out _ B.out).mono ?_; rintro e w2 ⟨rfl, hb⟩
  clear CHK
  replace Y := hidB (Y.out.on hb)
  replace X := hidB (X.out.on hb)
  replace B := hidB (B.out.trans (hb.mono B.out.size))
  clear hb
  obtain ⟨ck, hck⟩ : ∃ q, chkH h = q := ⟨_, rfl⟩
  rw [hck]
  have HCK := hidB hck
  clear hck
  by_cases h0 : ck = 0
  rotate_left
  · have h0b : (ck == 0) = false := by rw [beq_eq_false_iff_ne]; exact h0
    have h0n : (ck != 0) = true := by rw [bne, h0b]; rfl
    go_wp2_with fail
    go_ret
    exact ⟨9, rfl, B.out, fun h => absurd h (by decide), fun h1 => absurd (HCK.out.symm.trans h1) h0⟩
  subst h0
  have y0 : w2.cell? ⟨w.heap.size, 0, none⟩ = some (.slice pa h.length c) := Y.out.cell 0
  by_cases h11 : 11 ≤ h.length
  rotate_left
  · have hx : ((h.length : Int) < 11) := by omega
    go_wp2_with fail
    all_goals first | (exfalso; omega) | (go_ret; exact ⟨9, rfl, B.out, fun h => absurd h (by decide), fun _ h1 => absurd h1 h11⟩)
  have hx : ¬ ((h.length : Int) < 11) := by omega
  have hx2 : (11 : Int) ≤ (c : Int) := by omega
  have HL11 := hidB h11
  go_wp2_with fail
  all_goals first | (exfalso; omega) | skip
  clear y0 hx
  go_loopw [24] (fun s24 wr => ∃ i : Nat, i ≤ 11 ∧ s24 = .int .i64 i ∧ Bk wr w.heap.size 24 #[(.slice pa h.length c)] ∧ Bk wr (w.heap.size + 1) 34 a.cs ∧ Below w.heap.size w wr) (fun s24 _ => 11 - (intOf s24).toNat)
  case atStart => exact ⟨0, by omega, rfl, Y.out, X.out, B.out⟩
  case round =>
    clear Y X B
    obtain ⟨i, hi, rfl, hY, hX, hB⟩ := hrel
    have Y := hidB hY
    have X := hidB hX
    have B := hidB hB
    clear hY hX hB
    have hi0 : (0 : Int) ≤ (i : Int) := by omega
    by_cases hlt : i < 11
    · skip
      have hi1 : (i : Int) < 11 := by omega
      have hih : i < h.length := by omega
      obtain ⟨g, o, hpa, hg, hrow⟩ := HRW.out (by omega)
      subst hpa
      have HROW := hidB (rangeOn B.out hg (hrow i hih))
      have HFB := hidB (fun (hf : firstB h) => hf i hih hlt)
      have HPO := hidB (HPP.out _ (List.getElem_mem hih))
      clear hrow hg HRW HPP
      generalize h[i]'hih = e0 at *
      have Z := hidB (show Bk (wr.alloc (.cells e0.1.cs 42)) wr.heap.size 42 e0.1.cs from Bk.new wr _ _)
      have HB3 := hidB (box_one wr (.cells e0.1.cs 42))
      go_upto_region 6 with (first | ((with_reducible refine ldId 42 (.tmp 27) ?_); refine wpList_load_mid (by rfl) 42 (.tmp 27) (by rfl) (g) (o + i * 18) (by rfl) (e0.1.cs.toList) _ (by exact HROW.out) Tryz.underlying42 (by rfl) (by kernel_rfl) ?_) | ((with_reducible refine wpId ?_); refine wpList_store_new (by rfl) 42 (.tmp 8) (.tmp 28) (by rfl) e0.1.cs 42 _ (by rfl) (by rfl) (by kernel_rfl) (by rfl) (by exact oj_one e0.1 HPO.out) ?_))
      replace Y := hidB (Y.out.on HB3.out)
      replace X := hidB (X.out.on HB3.out)
      replace B := hidB (B.out.trans (HB3.out.mono B.out.size))
      clear HB3 HROW
      generalize hW : (wr.alloc (.cells e0.1.cs 42)) = w3 at *
      generalize hG : wr.heap.size = gz at *
      clear hW hG
      have z17 : w3.cell? ⟨gz, 17, none⟩ = some (.bool e0.1.ma) := Z.out.cell 17
      have z16 : w3.cell? ⟨gz, 16, none⟩ = some (.bool e0.1.ca) := Z.out.cell 16
      by_cases hone : i = 1
      · skip
        have hx5 : ((i : Int) == 1) = true := by rw [beq_iff_eq]; omega
        cases hma : e0.1.ma <;> cases hca : e0.1.ca
        · skip
          rw [hma] at z17
          rw [hca] at z16
          go_wp2_with fail
          all_goals first | (exfalso; omega) | skip
          go_ret
          exact ⟨9, rfl, B.out, fun h => absurd h (by decide), fun _ _ hf => by have h5 := HFB.out hf; rw [hca] at h5; exact absurd h5.2 (by rw [hone]; decide)⟩
        · skip
          rw [hma] at z17
          rw [hca] at z16
          go_wp2_with fail
          all_goals first | (exfalso; omega) | skip
          go_roundw
          case rel => exact ⟨i + 1, by omega, by go_num, Y.out, X.out, B.out⟩
          case measure => simp [intOf]; omega
        · skip
          rw [hma] at z17
          rw [hca] at z16
          go_wp2_with fail
          all_goals first | (exfalso; omega) | skip
          go_ret
          exact ⟨9, rfl, B.out, fun h => absurd h (by decide), fun _ _ hf => by have h5 := HFB.out hf; rw [hma] at h5; exact absurd h5.1 (by decide)⟩
        · skip
          rw [hma] at z17
          rw [hca] at z16
          go_wp2_with fail
          all_goals first | (exfalso; omega) | skip
          go_ret
          exact ⟨9, rfl, B.out, fun h => absurd h (by decide), fun _ _ hf => by have h5 := HFB.out hf; rw [hma] at h5; exact absurd h5.1 (by decide)⟩
      · skip
        have hx5 : ((i : Int) == 1) = false := by rw [beq_eq_false_iff_ne]; omega
        cases hma : e0.1.ma <;> cases hca : e0.1.ca
        · skip
          rw [hma] at z17
          rw [hca] at z16
          go_wp2_with fail
          all_goals first | (exfalso; omega) | skip
          go_roundw
          case rel => exact ⟨i + 1, by omega, by go_num, Y.out, X.out, B.out⟩
          case measure => simp [intOf]; omega
        · skip
          rw [hma] at z17
          rw [hca] at z16
          go_wp2_with fail
          all_goals first | (exfalso; omega) | skip
          go_ret
          exact ⟨9, rfl, B.out, fun h => absurd h (by decide), fun _ _ hf => by have h5 := HFB.out hf; rw [hca] at h5; exact absurd h5.2 (by simp [hone])⟩
        · skip
          rw [hma] at z17
          rw [hca] at z16
          go_wp2_with fail
          all_goals first | (exfalso; omega) | skip
          go_ret
          exact ⟨9, rfl, B.out, fun h => absurd h (by decide), fun _ _ hf => by have h5 := HFB.out hf; rw [hma] at h5; exact absurd h5.1 (by decide)⟩
        · skip
          rw [hma] at z17
          rw [hca] at z16
          go_wp2_with fail
          all_goals first | (exfalso; omega) | skip
          go_ret
          exact ⟨9, rfl, B.out, fun h => absurd h (by decide), fun _ _ hf => by have h5 := HFB.out hf; rw [hma] at h5; exact absurd h5.1 (by decide)⟩
    · obtain rfl : i = 11 := by omega
      clear hlt hi
      rcases HM.out with hm | hm
      · skip
        have x0 : wr.cell? ⟨w.heap.size + 1, 0, none⟩ = some (.int .u8 3) := by rw [← hm]; exact X.out.cell 0
        have x1 : wr.cell? ⟨w.heap.size + 1, 1, none⟩ = some (.int .i64 a.ob) := X.out.cell 1
        have y0 : wr.cell? ⟨w.heap.size, 0, none⟩ = some (.slice pa h.length c) := Y.out.cell 0
        by_cases hob0 : a.ob < 0
        · go_wp2_with fail
          all_goals first | (exfalso; omega) | (go_ret; exact ⟨2, rfl, B.out, fun h => absurd h (by decide), fun _ _ _ h1 => absurd hob0 (by omega)⟩)
        have hob0' : ¬ (a.ob < 0) := hob0
        by_cases hob1 : (h.length : Int) ≤ a.ob
        · go_wp2_with fail
          all_goals first | (exfalso; omega) | (go_ret; exact ⟨2, rfl, B.out, fun h => absurd h (by decide), fun _ _ _ _ h1 => absurd h1 (by omega)⟩)
        have hob1' : ¬ ((h.length : Int) ≤ a.ob) := hob1
        have HOB := hidB (show 0 ≤ a.ob ∧ a.ob < (h.length : Int) from ⟨by omega, by omega⟩)
        go_wp2_with fail
        all_goals first | (exfalso; omega) | skip
        refine (keyedE_any 3 _).mono ?_; rintro e w4 ⟨rfl, rfl⟩
        rw [show (decide ((5 : Int) ≤ 3) && decide ((3 : Int) ≤ 10)) = false from rfl]
        clear y0 x1 hob0' hob1' hob0 hob1
        have HKE := hidB (show a.m = 8 → a.k.err = 0 from fun h8 => absurd (hm.symm.trans h8) (by decide))
        go_wp2_with (first | ((with_reducible refine ldId 24 (.tmp 3) ?_); refine wpList_load_row (by rfl) 24 (.tmp 3) (by rfl) (w.heap.size) (by rfl) 24 (#[(.slice pa h.length c)]) (0, 0) _ (by exact Y.out) Tryz.underlying24 (by rfl) (by kernel_rfl) ?_) | ((with_reducible refine ldId 29 (.tmp 107) ?_); refine wpList_load_mid (by rfl) 29 (.tmp 107) (by rfl) (w.heap.size + 1) 20 (by rfl) (a.v.cells) _ (by exact Bk.mid X.out 20 _ rfl) Tryz.underlying29 (by rfl) (by kernel_rfl) ?_))
        refine (INA.out a.v HVK.out _ B.out).mono ?_; rintro e w6 ⟨b1, rfl, hb1, hb⟩
        have HB1 := hidB hb1
        clear hb1
        replace Y := hidB (Y.out.on hb)
        replace X := hidB (X.out.on hb)
        replace B := hidB (B.out.trans (hb.mono B.out.size))
        clear hb
        replace x0 : w6.cell? ⟨w.heap.size + 1, 0, none⟩ = some (.int .u8 3) := by rw [← hm]; exact X.out.cell 0
        cases b1
        · go_wp2_with fail
          all_goals first | (exfalso; omega) | (go_ret; exact ⟨9, rfl, B.out, fun h => absurd h (by decide), fun _ _ _ _ _ _ h1 h2 => absurd ((HB1.out h1).trans h2) (by decide)⟩)
        go_wp2_with (first | ((with_reducible refine ldId 24 (.tmp 3) ?_); refine wpList_wload_row 24 (.tmp 3) (by rfl) (by rfl) (w.heap.size) (by rfl) 24 (#[(.slice pa h.length c)]) (0, 0) _ (by exact Y.out) Tryz.underlying24 (by rfl) (by kernel_rfl) ?_) | ((with_reducible refine ldId 29 (.tmp 113) ?_); refine wpList_wload_mid 29 (.tmp 113) (by rfl) (by rfl) (w.heap.size + 1) 24 (by rfl) (a.r.cells) _ (by exact Bk.mid X.out 24 _ rfl) Tryz.underlying29 (by rfl) (by kernel_rfl) ?_))
        refine (INA.out a.r HRK.out _ B.out).mono ?_; rintro e w7 ⟨b2, rfl, hb2, hb⟩
        have HB2 := hidB hb2
        clear hb2
        replace Y := hidB (Y.out.on hb)
        replace X := hidB (X.out.on hb)
        replace B := hidB (B.out.trans (hb.mono B.out.size))
        clear hb
        replace x0 : w7.cell? ⟨w.heap.size + 1, 0, none⟩ = some (.int .u8 3) := by rw [← hm]; exact X.out.cell 0
        cases b2
        · go_wp2_with fail
          all_goals first | (exfalso; omega) | (go_ret; exact ⟨9, rfl, B.out, fun h => absurd h (by decide), fun _ _ _ _ _ _ _ _ h1 h2 => absurd ((HB2.out h1).trans h2) (by decide)⟩)
        have x28 : w7.cell? ⟨w.heap.size + 1, 28, none⟩ = some (.slice qa args.length ca) := by rw [← HAA.out]; exact X.out.cell 28
        by_cases h64 : 64 < args.length
        · have hx : (64 : Int) < (args.length : Int) := by omega
          go_wp2_with fail
          all_goals first | (exfalso; omega) | (go_ret; exact ⟨4, rfl, B.out, fun h => absurd h (by decide), fun _ _ _ _ _ _ _ _ _ _ h1 => by rw [h1] at h64; exact absurd h64 (by decide)⟩)
        have hx : ¬ ((64 : Int) < (args.length : Int)) := by omega
        have H64 := hidB h64
        go_wp2_with fail
        all_goals first | (exfalso; omega) | skip
        clear x28 x0 hx
        go_loopw [142] (fun s wr => ∃ i : Nat, i ≤ args.length ∧ s = .int .i64 i ∧ Bk wr w.heap.size 24 #[(.slice pa h.length c)] ∧ Below w.heap.size w wr) (fun s _ => args.length - (intOf s).toNat)
        case atStart => exact ⟨0, Nat.zero_le _, rfl, Y.out, B.out⟩
        case round =>
          clear Y X B
          obtain ⟨i, hi, rfl, hY, hB⟩ := hrel
          have Y := hidB hY
          have B := hidB hB
          clear hY hB
          have hi0 : (0 : Int) ≤ (i : Int) := by omega
          by_cases hlt : i < args.length
          rotate_left
          · obtain rfl : i = args.length := by omega
            have hx4 : ¬ ((args.length : Int) < (args.length : Int)) := by omega
            go_wp2_with fail
            go_ret
            exact ⟨0, rfl, B.out, fun _ => ⟨HCK.out, HL11.out, HOB.out.1, HOB.out.2, by have := H64.out; omega, HKE.out⟩, fun _ _ _ _ _ _ _ _ _ _ _ => rfl⟩
          have hi1 : (i : Int) < (args.length : Int) := by omega
          have hra := HRA.out _ B.out
          rw [HAA.out] at hra
          obtain ⟨_, g, o, hqa, hg, hrow⟩ := rd_at hra hlt
          subst hqa
          have HROW := hidB hrow
          have HVN := hidB (HARGS.out _ (List.getElem_mem hlt))
          have HNE := hidB (show args ≠ [] from fun h => by rw [h] at hlt; exact absurd hlt (by simp))
          clear hrow hg hra
          generalize args[i]'hlt = v0 at *
          have Z := hidB (show Bk (wr.alloc (.cells v0.cells.toArray 29)) wr.heap.size 29 v0.cells.toArray from Bk.new wr _ _)
          have HB3 := hidB (box_one wr (.cells v0.cells.toArray 29))
          go_upto_region 25 with (first | ((with_reducible refine ldId 29 (.tmp 144) ?_); refine wpList_load_mid (by rfl) 29 (.tmp 144) (by rfl) (g) (o + i * 4) (by rfl) (v0.cells) _ (by exact HROW.out) Tryz.underlying29 (by rfl) (by kernel_rfl) ?_) | ((with_reducible refine wpId ?_); refine wpList_store_new (by rfl) 29 (.tmp 10) (.tmp 145) (by rfl) v0.cells.toArray 29 _ (by rfl) (by rfl) (by kernel_rfl) (by rfl) (by exact vi_one1 v0) ?_))
          replace Y := hidB (Y.out.on HB3.out)
          replace B := hidB (B.out.trans (HB3.out.mono B.out.size))
          clear HB3 HROW
          generalize hW : (wr.alloc (.cells v0.cells.toArray 29)) = w8 at *
          generalize hG : wr.heap.size = gz at *
          clear hW hG
          go_wp2_with (first | ((with_reducible refine ldId 24 (.tmp 3) ?_); refine wpList_load_row (by rfl) 24 (.tmp 3) (by rfl) (w.heap.size) (by rfl) 24 (#[(.slice pa h.length c)]) (0, 0) _ (by exact Y.out) Tryz.underlying24 (by rfl) (by kernel_rfl) ?_) | ((with_reducible refine ldId 29 (.tmp 10) ?_); refine wpList_load_row (by rfl) 29 (.tmp 10) (by rfl) (gz) (by rfl) 29 (v0.cells.toArray) (0, 0) _ (by exact Z.out) Tryz.underlying29 (by rfl) (by kernel_rfl) ?_))
          refine (INA.out v0 HVN.out _ B.out).mono ?_; rintro e w9 ⟨b3, rfl, _, hb⟩
          replace Y := hidB (Y.out.on hb)
          replace B := hidB (B.out.trans (hb.mono B.out.size))
          clear hb
          cases b3
          · go_wp2_with fail
            go_ret; exact ⟨9, rfl, B.out, fun h => absurd h (by decide), fun _ _ _ _ _ _ _ _ _ _ h1 => absurd h1 HNE.out⟩
          go_wp2_with fail
          go_roundw
          case rel => exact ⟨i + 1, by omega, by go_num, Y.out, B.out⟩
          case measure => simp [intOf]; omega
      · skip
        have x0 : wr.cell? ⟨w.heap.size + 1, 0, none⟩ = some (.int .u8 8) := by rw [← hm]; exact X.out.cell 0
        have x1 : wr.cell? ⟨w.heap.size + 1, 1, none⟩ = some (.int .i64 a.ob) := X.out.cell 1
        have y0 : wr.cell? ⟨w.heap.size, 0, none⟩ = some (.slice pa h.length c) := Y.out.cell 0
        by_cases hob0 : a.ob < 0
        · go_wp2_with fail
          all_goals first | (exfalso; omega) | (go_ret; exact ⟨2, rfl, B.out, fun h => absurd h (by decide), fun _ _ _ h1 => absurd hob0 (by omega)⟩)
        have hob0' : ¬ (a.ob < 0) := hob0
        by_cases hob1 : (h.length : Int) ≤ a.ob
        · go_wp2_with fail
          all_goals first | (exfalso; omega) | (go_ret; exact ⟨2, rfl, B.out, fun h => absurd h (by decide), fun _ _ _ _ h1 => absurd h1 (by omega)⟩)
        have hob1' : ¬ ((h.length : Int) ≤ a.ob) := hob1
        have HOB := hidB (show 0 ≤ a.ob ∧ a.ob < (h.length : Int) from ⟨by omega, by omega⟩)
        go_wp2_with fail
        all_goals first | (exfalso; omega) | skip
        refine (keyedE_any 8 _).mono ?_; rintro e w4 ⟨rfl, rfl⟩
        rw [show (decide ((5 : Int) ≤ 8) && decide ((8 : Int) ≤ 10)) = true from rfl]
        clear y0 x1 hob0' hob1' hob0 hob1
        go_wp2_with (first | ((with_reducible refine ldId 26 (.tmp 72) ?_); refine wpList_wload_mid 26 (.tmp 72) (by rfl) (by rfl) (w.heap.size + 1) 2 (by rfl) (a.k.cells) _ (by exact Bk.mid X.out 2 _ rfl) Tryz.underlying26 (by rfl) (by kernel_rfl) ?_))
        refine (keyCheck_any a.k _).mono ?_; rintro e w5 ⟨rfl, hb⟩
        replace Y := hidB (Y.out.on hb)
        replace X := hidB (X.out.on hb)
        replace B := hidB (B.out.trans (hb.mono B.out.size))
        clear hb
        replace x0 : w5.cell? ⟨w.heap.size + 1, 0, none⟩ = some (.int .u8 8) := by rw [← hm]; exact X.out.cell 0
        by_cases hke : a.k.err = 0
        rotate_left
        · have h0b : (a.k.err == 0) = false := by rw [beq_eq_false_iff_ne]; exact hke
          have h0n : (a.k.err != 0) = true := by rw [bne, h0b]; rfl
          go_wp2_with fail
          go_ret; exact ⟨9, rfl, B.out, fun h => absurd h (by decide), fun _ _ _ _ _ h8 => absurd (hm.symm.trans h8) (by decide)⟩
        have HKE := hidB (show a.m = 8 → a.k.err = 0 from fun _ => hke)
        rw [hke]
        go_wp2_with (first | ((with_reducible refine ldId 24 (.tmp 3) ?_); refine wpList_load_row (by rfl) 24 (.tmp 3) (by rfl) (w.heap.size) (by rfl) 24 (#[(.slice pa h.length c)]) (0, 0) _ (by exact Y.out) Tryz.underlying24 (by rfl) (by kernel_rfl) ?_) | ((with_reducible refine ldId 29 (.tmp 107) ?_); refine wpList_load_mid (by rfl) 29 (.tmp 107) (by rfl) (w.heap.size + 1) 20 (by rfl) (a.v.cells) _ (by exact Bk.mid X.out 20 _ rfl) Tryz.underlying29 (by rfl) (by kernel_rfl) ?_))
        refine (INA.out a.v HVK.out _ B.out).mono ?_; rintro e w6 ⟨b1, rfl, hb1, hb⟩
        have HB1 := hidB hb1
        clear hb1
        replace Y := hidB (Y.out.on hb)
        replace X := hidB (X.out.on hb)
        replace B := hidB (B.out.trans (hb.mono B.out.size))
        clear hb
        replace x0 : w6.cell? ⟨w.heap.size + 1, 0, none⟩ = some (.int .u8 8) := by rw [← hm]; exact X.out.cell 0
        cases b1
        · go_wp2_with fail
          all_goals first | (exfalso; omega) | (go_ret; exact ⟨9, rfl, B.out, fun h => absurd h (by decide), fun _ _ _ _ _ _ h1 h2 => absurd ((HB1.out h1).trans h2) (by decide)⟩)
        go_wp2_with (first | ((with_reducible refine ldId 24 (.tmp 3) ?_); refine wpList_wload_row 24 (.tmp 3) (by rfl) (by rfl) (w.heap.size) (by rfl) 24 (#[(.slice pa h.length c)]) (0, 0) _ (by exact Y.out) Tryz.underlying24 (by rfl) (by kernel_rfl) ?_) | ((with_reducible refine ldId 29 (.tmp 113) ?_); refine wpList_wload_mid 29 (.tmp 113) (by rfl) (by rfl) (w.heap.size + 1) 24 (by rfl) (a.r.cells) _ (by exact Bk.mid X.out 24 _ rfl) Tryz.underlying29 (by rfl) (by kernel_rfl) ?_))
        refine (INA.out a.r HRK.out _ B.out).mono ?_; rintro e w7 ⟨b2, rfl, hb2, hb⟩
        have HB2 := hidB hb2
        clear hb2
        replace Y := hidB (Y.out.on hb)
        replace X := hidB (X.out.on hb)
        replace B := hidB (B.out.trans (hb.mono B.out.size))
        clear hb
        replace x0 : w7.cell? ⟨w.heap.size + 1, 0, none⟩ = some (.int .u8 8) := by rw [← hm]; exact X.out.cell 0
        cases b2
        · go_wp2_with fail
          all_goals first | (exfalso; omega) | (go_ret; exact ⟨9, rfl, B.out, fun h => absurd h (by decide), fun _ _ _ _ _ _ _ _ h1 h2 => absurd ((HB2.out h1).trans h2) (by decide)⟩)
        have x28 : w7.cell? ⟨w.heap.size + 1, 28, none⟩ = some (.slice qa args.length ca) := by rw [← HAA.out]; exact X.out.cell 28
        by_cases h64 : 64 < args.length
        · have hx : (64 : Int) < (args.length : Int) := by omega
          go_wp2_with fail
          all_goals first | (exfalso; omega) | (go_ret; exact ⟨4, rfl, B.out, fun h => absurd h (by decide), fun _ _ _ _ _ _ _ _ _ _ h1 => by rw [h1] at h64; exact absurd h64 (by decide)⟩)
        have hx : ¬ ((64 : Int) < (args.length : Int)) := by omega
        have H64 := hidB h64
        go_wp2_with fail
        all_goals first | (exfalso; omega) | skip
        clear x28 x0 hx
        go_loopw [142] (fun s wr => ∃ i : Nat, i ≤ args.length ∧ s = .int .i64 i ∧ Bk wr w.heap.size 24 #[(.slice pa h.length c)] ∧ Below w.heap.size w wr) (fun s _ => args.length - (intOf s).toNat)
        case atStart => exact ⟨0, Nat.zero_le _, rfl, Y.out, B.out⟩
        case round =>
          clear Y X B
          obtain ⟨i, hi, rfl, hY, hB⟩ := hrel
          have Y := hidB hY
          have B := hidB hB
          clear hY hB
          have hi0 : (0 : Int) ≤ (i : Int) := by omega
          by_cases hlt : i < args.length
          rotate_left
          · obtain rfl : i = args.length := by omega
            have hx4 : ¬ ((args.length : Int) < (args.length : Int)) := by omega
            go_wp2_with fail
            go_ret
            exact ⟨0, rfl, B.out, fun _ => ⟨HCK.out, HL11.out, HOB.out.1, HOB.out.2, by have := H64.out; omega, HKE.out⟩, fun _ _ _ _ _ _ _ _ _ _ _ => rfl⟩
          have hi1 : (i : Int) < (args.length : Int) := by omega
          have hra := HRA.out _ B.out
          rw [HAA.out] at hra
          obtain ⟨_, g, o, hqa, hg, hrow⟩ := rd_at hra hlt
          subst hqa
          have HROW := hidB hrow
          have HVN := hidB (HARGS.out _ (List.getElem_mem hlt))
          have HNE := hidB (show args ≠ [] from fun h => by rw [h] at hlt; exact absurd hlt (by simp))
          clear hrow hg hra
          generalize args[i]'hlt = v0 at *
          have Z := hidB (show Bk (wr.alloc (.cells v0.cells.toArray 29)) wr.heap.size 29 v0.cells.toArray from Bk.new wr _ _)
          have HB3 := hidB (box_one wr (.cells v0.cells.toArray 29))
          go_upto_region 25 with (first | ((with_reducible refine ldId 29 (.tmp 144) ?_); refine wpList_load_mid (by rfl) 29 (.tmp 144) (by rfl) (g) (o + i * 4) (by rfl) (v0.cells) _ (by exact HROW.out) Tryz.underlying29 (by rfl) (by kernel_rfl) ?_) | ((with_reducible refine wpId ?_); refine wpList_store_new (by rfl) 29 (.tmp 10) (.tmp 145) (by rfl) v0.cells.toArray 29 _ (by rfl) (by rfl) (by kernel_rfl) (by rfl) (by exact vi_one1 v0) ?_))
          replace Y := hidB (Y.out.on HB3.out)
          replace B := hidB (B.out.trans (HB3.out.mono B.out.size))
          clear HB3 HROW
          generalize hW : (wr.alloc (.cells v0.cells.toArray 29)) = w8 at *
          generalize hG : wr.heap.size = gz at *
          clear hW hG
          go_wp2_with (first | ((with_reducible refine ldId 24 (.tmp 3) ?_); refine wpList_load_row (by rfl) 24 (.tmp 3) (by rfl) (w.heap.size) (by rfl) 24 (#[(.slice pa h.length c)]) (0, 0) _ (by exact Y.out) Tryz.underlying24 (by rfl) (by kernel_rfl) ?_) | ((with_reducible refine ldId 29 (.tmp 10) ?_); refine wpList_load_row (by rfl) 29 (.tmp 10) (by rfl) (gz) (by rfl) 29 (v0.cells.toArray) (0, 0) _ (by exact Z.out) Tryz.underlying29 (by rfl) (by kernel_rfl) ?_))
          refine (INA.out v0 HVN.out _ B.out).mono ?_; rintro e w9 ⟨b3, rfl, _, hb⟩
          replace Y := hidB (Y.out.on hb)
          replace B := hidB (B.out.trans (hb.mono B.out.size))
          clear hb
          cases b3
          · go_wp2_with fail
            go_ret; exact ⟨9, rfl, B.out, fun h => absurd h (by decide), fun _ _ _ _ _ _ _ _ _ _ h1 => absurd h1 HNE.out⟩
          go_wp2_with fail
          go_roundw
          case rel => exact ⟨i + 1, by omega, by go_num, Y.out, B.out⟩
          case measure => simp [intOf]; omega

end Go.Proofs.YtbmaodlghglopaaGreatDoor
