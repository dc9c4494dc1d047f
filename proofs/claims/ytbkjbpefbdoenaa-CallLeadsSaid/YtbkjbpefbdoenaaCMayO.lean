/-
  Which outcomes may be given, as the reference says.
-/
import Derived.Test.YtbkjbpefbdoenaaCLike
import Derived.Test.YtbkjbpefbdoenaaCKey
import Derived.Test.YtbkjbpefbdoenaaCOk
namespace Go.Proofs.Ytbkjbpefbdoenaa
open Go.RowKit

/-- A descriptor's byte is one. -/
def DI.byte (d : DI) : Prop := 0 ≤ d.has ∧ d.has ≤ 255
def noneB (v : VI) : Bool := (v.k == 0) && v.may
def fullB (d : DI) : Bool := okR d && ((d.has == 51) || (d.has == 60))
def zeroB (d : DI) : Bool := (d.has == 0) && (!d.wr && (!d.en && (!d.cf && (noneB d.v && (noneB d.g && noneB d.t)))))
theorem none_eq (v : VI) : noneB v = (v.isZ && v.may) := by
  have h := bare_eq v
  unfold noneB
  by_cases hk : v.k = 0
  · rw [hk]
    unfold VI.isZ VI.may mayV
    rw [hk, if_pos (Or.inl rfl), ← isN_eq]
    generalize (FloatKind.f64.format.order v.x 0 == some .eq) = a
    generalize Fl.may v.x = b
    generalize v.s.toList.isEmpty = c
    generalize (v.r == 0) = d
    cases a <;> cases b <;> cases c <;> cases d <;> rfl
  · unfold VI.isZ
    rw [beq_eq_false_iff_ne.2 hk]; rfl
theorem bad2_eq (x : OI) : bad2 x = (!x.fo && !zeroB x.d) := by
  unfold bad2 zeroB DI.isZ
  rw [none_eq, none_eq, none_eq]
  generalize (x.d.has == 0) = h0
  generalize x.d.v.isZ = zv
  generalize x.d.g.isZ = zg
  generalize x.d.t.isZ = zt
  generalize x.d.v.may = mv
  generalize x.d.g.may = mg
  generalize x.d.t.may = mt
  generalize x.d.wr = wr
  generalize x.d.en = en
  generalize x.d.cf = cf
  congr 1
  simp only [Bool.not_and, Bool.not_not]
  cases h0 <;> simp
  cases zv <;> simp
  cases zg <;> simp
  cases zt <;> simp
  ac_rfl
theorem bad3_eq (x : OI) (hb : x.d.byte) : bad3 x = (x.fo && !fullB x.d) := by
  unfold bad3 fullB
  rw [okR_eq x.d hb]
  congr 1
  simp only [Bool.not_and, bne]
  cases (x.d.err == 0) <;> cases (x.d.has == 51) <;> cases (x.d.has == 60) <;> rfl
set_option maxHeartbeats 8000000 in
set_option maxRecDepth 100000 in
theorem rnone_any (v : VI) (h0 : 0 ≤ v.k) (w : World) : Calls Try.prog 86 #[v.a] w fun e w' => e = .returned (.bool (noneB v)) ∧ Below w.heap.size w w' := by
  have MA := hidB (fun W => rmay_any v.k v.x v.s v.r h0 W)
  clear h0
  have X := hidB (show Bk (w.alloc (.cells (v.cells.toArray) 24)) (w.heap.size) 24 (v.cells.toArray) from Bk.new w _ _)
  have B := hidB (show Below w.heap.size w (w.alloc (.cells (v.cells.toArray) 24)) from box_one w _)
  go_enter Try.func86, Try.ntmps86
  go_upto_region 1 with fail
  generalize hW : (w.alloc (.cells (v.cells.toArray) 24)) = w1 at *
  clear hW
  have p0 : w1.cell? ⟨w.heap.size, 0, none⟩ = some (.int .u8 v.k) := X.out.cell 0
  by_cases hk : v.k = 0
  rotate_left
  · have hk1 : (v.k == 0) = false := by rw [beq_eq_false_iff_ne]; exact hk
    have HK := hidB hk1
    go_wp2_with fail
    go_ret
    exact ⟨ret_bool (by unfold noneB; rw [HK.out]; rfl), B.out⟩
  have hk1 : (v.k == 0) = true := by rw [beq_iff_eq]; exact hk
  have HK := hidB hk1
  clear hk
  go_wp2_with (first | ((with_reducible refine ldId 24 (.tmp 1) ?_); refine wpList_wload_mid 24 (.tmp 1) (by rfl) (by rfl) (w.heap.size) 0 (by rfl) (v.cells) _ (by exact Bk.mid X.out 0 _ rfl) Try.underlying24 (by rfl) (by kernel_rfl) ?_))
  refine (MA.out _).mono ?_; rintro e w2 ⟨rfl, hb⟩
  replace B := hidB (B.out.trans (hb.mono B.out.size))
  clear hb p0 hk1
  have HM := hidB (show v.may = mayV v.k v.x v.s v.r from rfl)
  generalize mayV v.k v.x v.s v.r = m at *
  go_wp2_with fail
  go_ret
  exact ⟨ret_bool (by unfold noneB; rw [HK.out, HM.out]; first | rfl | simp), B.out⟩
set_option maxHeartbeats 8000000 in
set_option maxRecDepth 100000 in
theorem rfull_any (d : DI) (h0 : d.byte) (hd : d.ok) (w : World) : Calls Try.prog 64 #[d.a] w fun e w' => e = .returned (.bool (fullB d)) ∧ Below w.heap.size w w' := by
  have DC := hidB (fun W => rdesc_any d h0 hd W)
  have HW := hidB (rfl : fullB d = fullB d)
  have HF := hidB (show fullB d = (okR d && ((d.has == 51) || (d.has == 60))) from rfl)
  clear h0 hd HW
  generalize fullB d = fb at *
  cases hk : okR d
  all_goals
    rw [hk] at HF DC
    clear hk
    have X := hidB (show Bk (w.alloc (.cells (d.cs) 33)) (w.heap.size) 33 (d.cs) from Bk.new w _ _)
    have B := hidB (show Below w.heap.size w (w.alloc (.cells (d.cs) 33)) from box_one w _)
    go_enter Try.func64, Try.ntmps64
    go_upto_region 1 with fail
    generalize hW : (w.alloc (.cells (d.cs) 33)) = w1 at *
    clear hW
  · go_wp2_with (first | ((with_reducible refine ldId 33 (.tmp 1) ?_); refine wpList_load_row (by rfl) 33 (.tmp 1) (by rfl) (w.heap.size) (by rfl) 33 (d.cs) (0, 0) _ (by exact X.out) Try.underlying33 (by rfl) (by kernel_rfl) ?_))
    refine (DC.out _).mono ?_; rintro e w2 ⟨rfl, hb⟩
    replace X := hidB (X.out.on hb); replace B := hidB (B.out.trans (hb.mono B.out.size)); clear hb
    go_wp2_with fail
    go_ret
    exact ⟨ret_bool (by rw [HF.out]; rfl), B.out⟩
  · cases h51 : (d.has == 51) <;> cases h60 : (d.has == 60)
    all_goals
      rw [h51, h60] at HF
      go_wp2_with (first | ((with_reducible refine ldId 33 (.tmp 1) ?_); refine wpList_load_row (by rfl) 33 (.tmp 1) (by rfl) (w.heap.size) (by rfl) 33 (d.cs) (0, 0) _ (by exact X.out) Try.underlying33 (by rfl) (by kernel_rfl) ?_))
      refine (DC.out _).mono ?_; rintro e w2 ⟨rfl, hb⟩
      replace X := hidB (X.out.on hb); replace B := hidB (B.out.trans (hb.mono B.out.size)); clear hb
      have x0 : w2.cell? ⟨w.heap.size, 0, none⟩ = some (.int .u8 d.has) := X.out.cell 0
      go_wp2_with fail
      go_ret
      exact ⟨ret_bool (by rw [HF.out]; rfl), B.out⟩
set_option maxHeartbeats 8000000 in
set_option maxRecDepth 100000 in
theorem rzero_any (d : DI) (hd : d.ok) (w : World) : Calls Try.prog 65 #[d.a] w fun e w' => e = .returned (.bool (zeroB d)) ∧ Below w.heap.size w w' := by
  have HZ := hidB (show zeroB d = ((d.has == 0) && (!d.wr && (!d.en && (!d.cf && (noneB d.v && (noneB d.g && noneB d.t)))))) from rfl)
  generalize zeroB d = zb at *
  have NV := hidB (fun W => rnone_any d.v hd.1 W)
  have NG := hidB (fun W => rnone_any d.g hd.2.1 W)
  have NT := hidB (fun W => rnone_any d.t hd.2.2 W)
  clear hd
  have X := hidB (show Bk (w.alloc (.cells (d.cs) 33)) (w.heap.size) 33 (d.cs) from Bk.new w _ _)
  have B := hidB (show Below w.heap.size w (w.alloc (.cells (d.cs) 33)) from box_one w _)
  go_enter Try.func65, Try.ntmps65
  go_upto_region 1 with fail
  generalize hW : (w.alloc (.cells (d.cs) 33)) = w1 at *
  clear hW
  have x0 : w1.cell? ⟨w.heap.size, 0, none⟩ = some (.int .u8 d.has) := X.out.cell 0
  have x13 : w1.cell? ⟨w.heap.size, 13, none⟩ = some (.bool d.wr) := X.out.cell 13
  have x14 : w1.cell? ⟨w.heap.size, 14, none⟩ = some (.bool d.en) := X.out.cell 14
  have x15 : w1.cell? ⟨w.heap.size, 15, none⟩ = some (.bool d.cf) := X.out.cell 15
  by_cases hh : d.has = 0
  rotate_left
  · have hk1 : (d.has == 0) = false := by rw [beq_eq_false_iff_ne]; exact hh
    have HK := hidB hk1
    clear hh
    go_wp2_with fail
    go_ret
    exact ⟨ret_bool (by rw [HZ.out]; simp [HK.out]), B.out⟩
  have HK := hidB (show (d.has == 0) = true by rw [beq_iff_eq]; exact hh)
  rw [hh] at x0
  clear hh
  cases hwr : d.wr
  rotate_left
  · rw [hwr] at x13
    have Hwr := hidB hwr
    clear hwr
    go_wp2_with fail
    go_ret
    exact ⟨ret_bool (by rw [HZ.out]; simp [HK.out, Hwr.out]), B.out⟩
  rw [hwr] at x13
  have Hwr := hidB hwr
  clear hwr
  cases hen : d.en
  rotate_left
  · rw [hen] at x14
    have Hen := hidB hen
    clear hen
    go_wp2_with fail
    go_ret
    exact ⟨ret_bool (by rw [HZ.out]; simp [HK.out, Hwr.out, Hen.out]), B.out⟩
  rw [hen] at x14
  have Hen := hidB hen
  clear hen
  cases hcf : d.cf
  rotate_left
  · rw [hcf] at x15
    have Hcf := hidB hcf
    clear hcf
    go_wp2_with fail
    go_ret
    exact ⟨ret_bool (by rw [HZ.out]; simp [HK.out, Hwr.out, Hen.out, Hcf.out]), B.out⟩
  rw [hcf] at x15
  have Hcf := hidB hcf
  clear hcf
  go_wp2_with (first | ((with_reducible refine ldId 24 (.tmp 22) ?_); refine wpList_wload_mid 24 (.tmp 22) (by rfl) (by rfl) (w.heap.size) 1 (by rfl) (d.v.cells) _ (by exact Bk.mid X.out 1 _ rfl) Try.underlying24 (by rfl) (by kernel_rfl) ?_))
  refine (NV.out _).mono ?_; rintro e w2NV ⟨rfl, hb⟩
  replace X := hidB (X.out.on hb); replace B := hidB (B.out.trans (hb.mono B.out.size)); clear hb
  clear x0 x13 x14 x15
  cases hnNV : noneB d.v
  · have HHNV := hidB hnNV
    clear hnNV
    go_wp2_with fail
    go_ret
    exact ⟨ret_bool (by rw [HZ.out]; simp [HK.out, Hwr.out, Hen.out, Hcf.out, HHNV.out]), B.out⟩
  have HHNV := hidB hnNV
  clear hnNV
  go_wp2_with (first | ((with_reducible refine ldId 24 (.tmp 27) ?_); refine wpList_wload_mid 24 (.tmp 27) (by rfl) (by rfl) (w.heap.size) 5 (by rfl) (d.g.cells) _ (by exact Bk.mid X.out 5 _ rfl) Try.underlying24 (by rfl) (by kernel_rfl) ?_))
  refine (NG.out _).mono ?_; rintro e w2NG ⟨rfl, hb⟩
  replace X := hidB (X.out.on hb); replace B := hidB (B.out.trans (hb.mono B.out.size)); clear hb
  cases hnNG : noneB d.g
  · have HHNG := hidB hnNG
    clear hnNG
    go_wp2_with fail
    go_ret
    exact ⟨ret_bool (by rw [HZ.out]; simp [HK.out, Hwr.out, Hen.out, Hcf.out, HHNV.out, HHNG.out]), B.out⟩
  have HHNG := hidB hnNG
  clear hnNG
  go_wp2_with (first | ((with_reducible refine ldId 24 (.tmp 32) ?_); refine wpList_wload_mid 24 (.tmp 32) (by rfl) (by rfl) (w.heap.size) 9 (by rfl) (d.t.cells) _ (by exact Bk.mid X.out 9 _ rfl) Try.underlying24 (by rfl) (by kernel_rfl) ?_))
  refine (NT.out _).mono ?_; rintro e w2NT ⟨rfl, hb⟩
  replace X := hidB (X.out.on hb); replace B := hidB (B.out.trans (hb.mono B.out.size)); clear hb
  cases hnNT : noneB d.t
  · have HHNT := hidB hnNT
    clear hnNT
    go_wp2_with fail
    go_ret
    exact ⟨ret_bool (by rw [HZ.out]; simp [HK.out, Hwr.out, Hen.out, Hcf.out, HHNV.out, HHNG.out, HHNT.out]), B.out⟩
  have HHNT := hidB hnNT
  clear hnNT
  go_wp2_with fail
  go_ret
  exact ⟨ret_bool (by rw [HZ.out]; simp [HK.out, Hwr.out, Hen.out, Hcf.out, HHNV.out, HHNG.out, HHNT.out]), B.out⟩
set_option maxHeartbeats 8000000 in
set_option maxRecDepth 100000 in
theorem rmayO_any (t : WI) (x : OI) (ks : List KI) (hx : x.d.ok) (hby : x.d.byte) (h0 : 0 ≤ x.v.k) (hks : ∀ k ∈ ks, k.s.size ≤ maxLen) (w : World) (hr : RdL KI.cells 2 ks x.keys w) : Calls Try.prog 36 #[t.a, x.a] w fun e w' => e = .returned (.bool (fitsB t.kd t.ask.m x ks)) ∧ Below w.heap.size w w' := by
  have HFT := hidB (show fitsB t.kd t.ask.m x ks = (!(bad1 x ks) && (ks.all KI.ok && (!(bad2 x) && (!(bad3 x) && ((x.kd == 2) || (if t.kd = 4 ∨ t.kd = 3 ∨ (t.kd = 1 ∧ t.ask.m = 13) then isObj x.v.k else if t.kd = 1 ∧ t.ask.m = 1 then isObj x.v.k || (x.v.k == 1) else true)))))) from rfl)
  rw [bad2_eq, bad3_eq x hby] at HFT
  generalize fitsB t.kd t.ask.m x ks = fb at *
  have MA := hidB (fun W => rmay_any x.v.k x.v.x x.v.s x.v.r h0 W)
  have FU := hidB (fun W => rfull_any x.d hby hx W)
  have ZE := hidB (fun W => rzero_any x.d hx W)
  have HKS := hidB hks
  obtain ⟨pa, c, hkeys, h1, h2, h3⟩ := hr
  unfold maxLen at h2
  have hlm : ks.length ≤ 9223372036854775807 := by omega
  have HC := hidB h3
  have HKY := hidB hkeys
  clear h3 hkeys hx hby h0 hks h1
  have T := hidB (show Bk ((w.alloc (.cells (t.cs) 45)).alloc (.cells (x.cs) 36)) (w.heap.size) 45 (t.cs) from (Bk.new w _ _).alloc _)
  have X := hidB (show Bk ((w.alloc (.cells (t.cs) 45)).alloc (.cells (x.cs) 36)) (w.heap.size + 1) 36 (x.cs) from Bk.new2 w _ _ _)
  have B := hidB (show Below w.heap.size w ((w.alloc (.cells (t.cs) 45)).alloc (.cells (x.cs) 36)) from (box_one w _).alloc (by simp) _)
  go_enter Try.func36, Try.ntmps36
  go_upto_region 1 with fail
  generalize hW : ((w.alloc (.cells (t.cs) 45)).alloc (.cells (x.cs) 36)) = w1 at *
  clear hW
  go_cut [36] from 7 to 36 (fun s36 wx => s36 = .bool (bad1 x ks) ∧ Bk wx w.heap.size 45 t.cs ∧ Bk wx (w.heap.size + 1) 36 x.cs ∧ Below w.heap.size w wx)
  case first => as_aux_lemma =>
    have x0 : w1.cell? ⟨w.heap.size + 1, 0, none⟩ = some (.int .u8 x.kd) := X.out.cell 0
    have x24 : w1.cell? ⟨w.heap.size + 1, 24, none⟩ = some (.int .u8 x.er) := X.out.cell 24
    have x25 : w1.cell? ⟨w.heap.size + 1, 25, none⟩ = some (.string x.tx) := X.out.cell 25
    cases hk1 : (x.kd == 1)
    · cases hk2 : (x.kd == 2)
      · have HK := hidB (show ((x.kd == 1) || (x.kd == 2)) = false by rw [hk1, hk2]; rfl)
        have n1 : (x.kd != 1) = true := by rw [bne, hk1]; rfl
        have n2 : (x.kd != 2) = true := by rw [bne, hk2]; rfl
        clear hk1 hk2
        go_wp2_with fail
        go_meet
        case rel => exact ⟨congrArg Value.bool (by unfold bad1; rw [HK.out]; rfl), T.out, X.out, B.out⟩
      have HK := hidB (show ((x.kd == 1) || (x.kd == 2)) = true by rw [hk1, hk2]; rfl)
      have n1 : (x.kd != 1) = true := by rw [bne, hk1]; rfl
      have n2 : (x.kd != 2) = false := by rw [bne, hk2]; rfl
      clear hk1 hk2
      cases he : (x.er == 0)
      · have HE := hidB (show (x.er != 0) = true by rw [bne, he]; rfl)
        have n3 : (x.er != 0) = true := by rw [bne, he]; rfl
        clear he
        go_wp2_with fail
        go_meet
        case rel => exact ⟨congrArg Value.bool (by unfold bad1; rw [HK.out, HE.out]; rfl), T.out, X.out, B.out⟩
      have HE := hidB (show (x.er != 0) = false by rw [bne, he]; rfl)
      have n3 : (x.er != 0) = false := by rw [bne, he]; rfl
      clear he
      cases ht : x.tx.toList.isEmpty
      · have n4 : (x.tx.toList == []) = false := by rw [← ht]; cases x.tx.toList <;> rfl
        have HT := hidB ht
        clear ht
        go_wp2_with fail
        go_meet
        case rel => exact ⟨congrArg Value.bool (by unfold bad1; rw [HK.out, HE.out, HT.out]; rfl), T.out, X.out, B.out⟩
      have n4 : (x.tx.toList == []) = true := by rw [← ht]; cases x.tx.toList <;> rfl
      have HT := hidB ht
      clear ht
      go_wp2_with (first | ((with_reducible refine ldId 24 (.tmp 26) ?_); refine wpList_wload_mid 24 (.tmp 26) (by rfl) (by rfl) (w.heap.size + 1) 1 (by rfl) (x.v.cells) _ (by exact Bk.mid X.out 1 _ rfl) Try.underlying24 (by rfl) (by kernel_rfl) ?_))
      refine (MA.out _).mono ?_; rintro e w2 ⟨rfl, hb⟩
      replace T := hidB (T.out.on hb); replace X := hidB (X.out.on hb); replace B := hidB (B.out.trans (hb.mono B.out.size)); clear hb
      have HMV := hidB (show x.v.may = mayV x.v.k x.v.x x.v.s x.v.r from rfl)
      generalize mayV x.v.k x.v.x x.v.s x.v.r = mv at *
      clear x0 x24 x25
      cases mv
      · skip
        go_wp2_with fail
        go_meet
        case rel => exact ⟨congrArg Value.bool (by unfold bad1; rw [HK.out, HE.out, HT.out, HMV.out]; rfl), T.out, X.out, B.out⟩
      have x23 : w2.cell? ⟨w.heap.size + 1, 23, none⟩ = some (.slice pa ks.length c) := (X.out.cell 23).trans (congrArg some HKY.out)
      by_cases hl : 1024 < ks.length
      · have hli : (1024 : Int) < (ks.length : Int) := by omega
        have HL := hidB (decide_eq_true hl)
        go_wp2_with fail
        go_meet
        case rel => exact ⟨congrArg Value.bool (by unfold bad1; rw [HK.out, HE.out, HT.out, HMV.out, HL.out]; first | rfl | (rw [decide_eq_false (by omega)]; rfl)), T.out, X.out, B.out⟩
      · have hli : ¬ (1024 : Int) < (ks.length : Int) := by omega
        have HL := hidB (decide_eq_false hl)
        go_wp2_with fail
        go_meet
        case rel => exact ⟨congrArg Value.bool (by unfold bad1; rw [HK.out, HE.out, HT.out, HMV.out, HL.out]; first | rfl | (rw [decide_eq_false (by omega)]; rfl)), T.out, X.out, B.out⟩
    have HK := hidB (show ((x.kd == 1) || (x.kd == 2)) = true by rw [hk1]; rfl)
    have n1 : (x.kd != 1) = false := by rw [bne, hk1]; rfl
    clear hk1
    cases he : (x.er == 0)
    · have HE := hidB (show (x.er != 0) = true by rw [bne, he]; rfl)
      have n3 : (x.er != 0) = true := by rw [bne, he]; rfl
      clear he
      go_wp2_with fail
      go_meet
      case rel => exact ⟨congrArg Value.bool (by unfold bad1; rw [HK.out, HE.out]; rfl), T.out, X.out, B.out⟩
    have HE := hidB (show (x.er != 0) = false by rw [bne, he]; rfl)
    have n3 : (x.er != 0) = false := by rw [bne, he]; rfl
    clear he
    cases ht : x.tx.toList.isEmpty
    · have n4 : (x.tx.toList == []) = false := by rw [← ht]; cases x.tx.toList <;> rfl
      have HT := hidB ht
      clear ht
      go_wp2_with fail
      go_meet
      case rel => exact ⟨congrArg Value.bool (by unfold bad1; rw [HK.out, HE.out, HT.out]; rfl), T.out, X.out, B.out⟩
    have n4 : (x.tx.toList == []) = true := by rw [← ht]; cases x.tx.toList <;> rfl
    have HT := hidB ht
    clear ht
    go_wp2_with (first | ((with_reducible refine ldId 24 (.tmp 26) ?_); refine wpList_wload_mid 24 (.tmp 26) (by rfl) (by rfl) (w.heap.size + 1) 1 (by rfl) (x.v.cells) _ (by exact Bk.mid X.out 1 _ rfl) Try.underlying24 (by rfl) (by kernel_rfl) ?_))
    refine (MA.out _).mono ?_; rintro e w2 ⟨rfl, hb⟩
    replace T := hidB (T.out.on hb); replace X := hidB (X.out.on hb); replace B := hidB (B.out.trans (hb.mono B.out.size)); clear hb
    have HMV := hidB (show x.v.may = mayV x.v.k x.v.x x.v.s x.v.r from rfl)
    generalize mayV x.v.k x.v.x x.v.s x.v.r = mv at *
    clear x0 x24 x25
    cases mv
    · skip
      go_wp2_with fail
      go_meet
      case rel => exact ⟨congrArg Value.bool (by unfold bad1; rw [HK.out, HE.out, HT.out, HMV.out]; rfl), T.out, X.out, B.out⟩
    have x23 : w2.cell? ⟨w.heap.size + 1, 23, none⟩ = some (.slice pa ks.length c) := (X.out.cell 23).trans (congrArg some HKY.out)
    by_cases hl : 1024 < ks.length
    · have hli : (1024 : Int) < (ks.length : Int) := by omega
      have HL := hidB (decide_eq_true hl)
      go_wp2_with fail
      go_meet
      case rel => exact ⟨congrArg Value.bool (by unfold bad1; rw [HK.out, HE.out, HT.out, HMV.out, HL.out]; first | rfl | (rw [decide_eq_false (by omega)]; rfl)), T.out, X.out, B.out⟩
    · have hli : ¬ (1024 : Int) < (ks.length : Int) := by omega
      have HL := hidB (decide_eq_false hl)
      go_wp2_with fail
      go_meet
      case rel => exact ⟨congrArg Value.bool (by unfold bad1; rw [HK.out, HE.out, HT.out, HMV.out, HL.out]; first | rfl | (rw [decide_eq_false (by omega)]; rfl)), T.out, X.out, B.out⟩
  case rest =>
  obtain ⟨rfl, hT, hX, hb⟩ := hcut
  replace T := hidB hT
  replace X := hidB hX
  replace B := hidB hb
  clear hT hX hb
  cases hb1 : bad1 x ks
  rotate_left
  · have HB1 := hidB hb1
    clear hb1
    go_wp2_with fail
    go_ret
    exact ⟨ret_bool (by rw [HFT.out]; rw [HB1.out]; rfl), B.out⟩
  have HB1 := hidB hb1
  clear hb1 MA
  go_wp2_with fail
  go_loopw [5] (fun s5 wr => ∃ i : Nat, i ≤ ks.length ∧ s5 = .int .i64 i ∧ (ks.take i).all KI.ok = true ∧ Bk wr w.heap.size 45 t.cs ∧ Bk wr (w.heap.size + 1) 36 x.cs ∧ Below w.heap.size w wr) (fun i _ => ks.length - (intOf i).toNat)
  case atStart => exact ⟨0, by omega, rfl, rfl, T.out, X.out, B.out⟩
  case round =>
    clear T X B
    obtain ⟨i, hi, rfl, ha, hT, hX, hb⟩ := hrel
    have HA := hidB ha
    have T := hidB hT
    have X := hidB hX
    have B := hidB hb
    clear ha hT hX hb
    have hx2 : (0 : Int) ≤ (i : Int) := by omega
    have x23 : wr.cell? ⟨w.heap.size + 1, 23, none⟩ = some (.slice pa ks.length c) := (X.out.cell 23).trans (congrArg some HKY.out)
    by_cases hlt : i < ks.length
    · have hx1 : (i : Int) < (ks.length : Int) := by omega
      obtain ⟨g, o, rfl, hgl, hrow⟩ := HC.out (by omega)
      have HR := hidB (rangeOn B.out hgl (hrow i hlt))
      have HS := hidB (HKS.out _ (List.getElem_mem hlt))
      have HST := hidB (show (ks.take (i + 1)).all KI.ok = KI.ok (ks[i]'hlt) ∧ (KI.ok (ks[i]'hlt) = false → ks.all KI.ok = false) from ⟨by rw [List.take_succ_eq_append_getElem hlt, List.all_append, HA.out]; simp, fun hp => List.all_eq_false.2 ⟨_, List.getElem_mem hlt, by simp [hp]⟩⟩)
      clear hgl hrow
      generalize (ks[i]'hlt) = k0 at *
      go_wp2_with (first | ((with_reducible refine ldId 38 (.tmp 47) ?_); refine wpList_load_mid (by rfl) 38 (.tmp 47) (by rfl) g (o + i * 2) (by rfl) k0.cells _ (by exact HR.out) Try.underlying38 (by rfl) (by kernel_rfl) ?_))
      refine (rkey_any k0 HS.out _).mono ?_; rintro e w3 ⟨rfl, hb⟩
      replace T := hidB (T.out.on hb); replace X := hidB (X.out.on hb); replace B := hidB (B.out.trans (hb.mono B.out.size)); clear hb
      have HER := hidB (show k0.err = if KI.ok k0 then 0 else 9 from rfl)
      rw [HER.out]
      generalize KI.ok k0 = ok at *
      cases ok
      · have HAL := hidB (HST.out.2 rfl)
        go_wp2_with fail
        go_ret
        exact ⟨ret_bool (by rw [HFT.out]; rw [HB1.out, HAL.out]; rfl), B.out⟩
      have HN := hidB HST.out.1
      clear x23
      go_wp2_with fail
      go_roundw
      case rel => exact ⟨i + 1, by omega, by go_num, HN.out, T.out, X.out, B.out⟩
      case measure => simp [intOf]; omega
    obtain rfl : i = ks.length := by omega
    have hx4 : ¬ ((ks.length : Int) < (ks.length : Int)) := by omega
    rw [List.take_length] at HA
    clear hlt hi HC HKS
    go_upto_region 8 with fail
    clear x23 hx4
    go_cut [69] from 51 to 69 (fun s69 wx => s69 = .bool ((x.fo && !fullB x.d) || (!x.fo && !zeroB x.d)) ∧ Bk wx w.heap.size 45 t.cs ∧ Bk wx (w.heap.size + 1) 36 x.cs ∧ Below w.heap.size w wx)
    case first => as_aux_lemma =>
      have x6 : wr.cell? ⟨w.heap.size + 1, 6, none⟩ = some (.bool x.fo) := X.out.cell 6
      obtain ⟨fo, hfo⟩ : ∃ q, x.fo = q := ⟨_, rfl⟩
      rw [hfo] at x6
      have HFO := hidB hfo
      clear hfo
      cases fo
      · go_wp2_with (first | ((with_reducible refine ldId 33 (.tmp 64) ?_); refine wpList_wload_mid 33 (.tmp 64) (by rfl) (by rfl) (w.heap.size + 1) 7 (by rfl) (x.d.cs.toList) _ (by exact Bk.mid X.out 7 _ rfl) Try.underlying33 (by rfl) (by kernel_rfl) ?_))
        refine (ZE.out _).mono ?_; rintro e w4 ⟨rfl, hb⟩
        replace T := hidB (T.out.on hb); replace X := hidB (X.out.on hb); replace B := hidB (B.out.trans (hb.mono B.out.size)); clear hb
        generalize zeroB x.d = zb at *
        cases zb
        · go_wp2_with fail
          go_meet
          case rel => exact ⟨congrArg Value.bool (by rw [HFO.out]; cases fullB x.d <;> rfl), T.out, X.out, B.out⟩
        · go_wp2_with fail
          go_meet
          case rel => exact ⟨congrArg Value.bool (by rw [HFO.out]; cases fullB x.d <;> rfl), T.out, X.out, B.out⟩
      · go_wp2_with (first | ((with_reducible refine ldId 33 (.tmp 54) ?_); refine wpList_wload_mid 33 (.tmp 54) (by rfl) (by rfl) (w.heap.size + 1) 7 (by rfl) (x.d.cs.toList) _ (by exact Bk.mid X.out 7 _ rfl) Try.underlying33 (by rfl) (by kernel_rfl) ?_))
        refine (FU.out _).mono ?_; rintro e w4 ⟨rfl, hb⟩
        replace T := hidB (T.out.on hb); replace X := hidB (X.out.on hb); replace B := hidB (B.out.trans (hb.mono B.out.size)); clear hb
        clear x6
        have x6 : w4.cell? ⟨w.heap.size + 1, 6, none⟩ = some (.bool true) := (X.out.cell 6).trans (by rw [← HFO.out]; rfl)
        generalize fullB x.d = zb at *
        cases zb
        · go_wp2_with fail
          go_meet
          case rel => exact ⟨congrArg Value.bool (by rw [HFO.out]; cases zeroB x.d <;> rfl), T.out, X.out, B.out⟩
        · go_wp2_with fail
          go_meet
          case rel => exact ⟨congrArg Value.bool (by rw [HFO.out]; cases zeroB x.d <;> rfl), T.out, X.out, B.out⟩
    case rest =>
    obtain ⟨rfl, hT, hX, hb⟩ := hcut
    replace T := hidB hT
    replace X := hidB hX
    replace B := hidB hb
    clear hT hX hb
    skip
    cases hb2 : ((x.fo && !fullB x.d) || (!x.fo && !zeroB x.d))
    rotate_left
    · have HB2 := hidB hb2
      clear hb2
      go_wp2_with fail
      go_ret
      exact ⟨ret_bool (by rw [HFT.out]; rw [HB1.out, HA.out]; have := HB2.out; revert this; cases (x.fo && !fullB x.d) <;> cases (!x.fo && !zeroB x.d) <;> simp), B.out⟩
    replace HFT : Hid (fb = ((x.kd == 2) || (if t.kd = 4 ∨ t.kd = 3 ∨ (t.kd = 1 ∧ t.ask.m = 13) then isObj x.v.k else if t.kd = 1 ∧ t.ask.m = 1 then isObj x.v.k || (x.v.k == 1) else true))) := hidB (by rw [HFT.out, HB1.out, HA.out]; revert hb2; cases (x.fo && !fullB x.d) <;> cases (!x.fo && !zeroB x.d) <;> simp)
    clear hb2 HB1 HA FU ZE
    have x0 : wc.cell? ⟨w.heap.size + 1, 0, none⟩ = some (.int .u8 x.kd) := X.out.cell 0
    cases hk2 : (x.kd == 2)
    rotate_left
    · have HK2 := hidB hk2
      go_wp2_with fail
      go_ret
      exact ⟨ret_bool (by rw [HFT.out]; rw [HK2.out]; rfl), B.out⟩
    have HK2 := hidB hk2
    go_wp2_with (first | ((with_reducible refine ldId 24 (.tmp 73) ?_); refine wpList_load_mid (by rfl) 24 (.tmp 73) (by rfl) (w.heap.size + 1) 1 (by rfl) (x.v.cells) _ (by exact Bk.mid X.out 1 _ rfl) Try.underlying24 (by rfl) (by kernel_rfl) ?_))
    refine (refObj_any x.v.k x.v.x x.v.s x.v.r _).mono ?_; rintro e w5 ⟨rfl, hb1⟩
    have hb := hb1 ▸ box_one _ (.cells x.v.cells.toArray 24)
    clear hb1
    replace T := hidB (T.out.on hb); replace X := hidB (X.out.on hb); replace B := hidB (B.out.trans (hb.mono B.out.size)); clear hb
    clear x0 hk2
    replace HFT : Hid (fb = (if t.kd = 4 ∨ t.kd = 3 ∨ (t.kd = 1 ∧ t.ask.m = 13) then isObj x.v.k else if t.kd = 1 ∧ t.ask.m = 1 then isObj x.v.k || (x.v.k == 1) else true)) := hidB (by rw [HFT.out, HK2.out]; rfl)
    have t0 : w5.cell? ⟨w.heap.size, 0, none⟩ = some (.int .u8 t.kd) := T.out.cell 0
    have t1 : w5.cell? ⟨w.heap.size, 1, none⟩ = some (.int .u8 t.ask.m) := T.out.cell 1
    have x1 : w5.cell? ⟨w.heap.size + 1, 1, none⟩ = some (.int .u8 x.v.k) := X.out.cell 1
    generalize isObj x.v.k = io at *
    generalize t.kd = kd at *
    generalize t.ask.m = mt at *
    by_cases h4 : kd = 4
    · subst h4
      go_wp2_with fail
      go_ret
      exact ⟨ret_bool (by rw [HFT.out]; simp), B.out⟩
    have n4 : (kd == 4) = false := by rw [beq_eq_false_iff_ne]; exact h4
    by_cases h3 : kd = 3
    · subst h3
      go_wp2_with fail
      go_ret
      exact ⟨ret_bool (by rw [HFT.out]; simp), B.out⟩
    have n3 : (kd == 3) = false := by rw [beq_eq_false_iff_ne]; exact h3
    by_cases h1 : kd = 1
    rotate_left
    · have n1 : (kd == 1) = false := by rw [beq_eq_false_iff_ne]; exact h1
      have HQ := hidB (⟨h4, h3, h1⟩ : kd ≠ 4 ∧ kd ≠ 3 ∧ kd ≠ 1)
      go_wp2_with fail
      go_ret
      exact ⟨ret_bool (by rw [HFT.out]; simp [HQ.out.1, HQ.out.2.1, HQ.out.2.2]), B.out⟩
    subst h1
    clear h3 h4 n3 n4
    by_cases h13 : mt = 13
    · subst h13
      go_wp2_with fail
      go_ret
      exact ⟨ret_bool (by rw [HFT.out]; simp), B.out⟩
    have n13 : (mt == 13) = false := by rw [beq_eq_false_iff_ne]; exact h13
    have HQ := hidB h13
    by_cases h1 : mt = 1
    rotate_left
    · have n1 : (mt == 1) = false := by rw [beq_eq_false_iff_ne]; exact h1
      have HQ1 := hidB h1
      go_wp2_with fail
      go_ret
      exact ⟨ret_bool (by rw [HFT.out]; simp [HQ.out, HQ1.out]), B.out⟩
    subst h1
    clear h13 n13
    cases hv1 : (x.v.k == 1) <;> cases io
    · have HV1 := hidB hv1
      go_wp2_with fail
      go_ret
      exact ⟨ret_bool (by rw [HFT.out]; simp [HV1.out]), B.out⟩
    · have HV1 := hidB hv1
      go_wp2_with fail
      go_ret
      exact ⟨ret_bool (by rw [HFT.out]; simp [HV1.out]), B.out⟩
    · have HV1 := hidB hv1
      go_wp2_with fail
      go_ret
      exact ⟨ret_bool (by rw [HFT.out]; simp [HV1.out]), B.out⟩
    · have HV1 := hidB hv1
      go_wp2_with fail
      go_ret
      exact ⟨ret_bool (by rw [HFT.out]; simp [HV1.out]), B.out⟩

end Go.Proofs.Ytbkjbpefbdoenaa
