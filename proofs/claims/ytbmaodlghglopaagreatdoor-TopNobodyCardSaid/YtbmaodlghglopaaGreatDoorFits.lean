/-
  May an outcome be given: the walk of inner.Fits.
-/
import Derived.Test.YtbmaodlghglopaaGreatDoorCallP
namespace Go.Proofs.YtbmaodlghglopaaGreatDoor
open Go.RowKit

/-! ### descriptors compared -/
theorem fields_desc : ((Tryz.prog.fieldsOf 31).toList.map (fun f => (f.name, f.type, f.offset)) == [("Has", 5, 0), ("Value", 29, 1), ("Get", 29, 5), ("Set", 29, 9), ("Writable", 4, 13), ("Enumerable", 4, 14), ("Configurable", 4, 15)]) = true := by kernel_rfl
theorem under_desc : Tryz.prog.underlying 31 = some (.struct (Tryz.prog.fieldsOf 31)) := by kernel_rfl
theorem stood_desc : Tryz.prog.stoodInHeld 31 = false := by kernel_rfl
theorem part_row {P : Program} {t : TypeId} {fs : Array Field} {n : Nat} (hu : P.underlying t = some (.struct fs)) (hi : (P.info? t).map (·.size) = some n) {cs : Array Value} {o : Nat} {ds : Array Value} (hv : cs.extract o (o + n) = ds) (w : World) : (part t cs o).run P w = .ok (.agg ds) w := by
  have hA : (isAgg t).run P w = .ok true w := by
    simp only [isAgg, Sem.run_bind, run_underlying hu, Result.andThen_ok]
    rfl
  obtain ⟨i, hii, hs⟩ := Option.map_eq_some_iff.1 hi
  have hS : (sizeOf t).run P w = .ok n w := by simp [sizeOf, typeInfo, hii, hs]
  simp only [part, Sem.run_bind, hA, Result.andThen_ok, hS, hv, if_true]
  rfl
theorem eqF_row {P : Program} {d n : Nat} {xs ys : Array Value} {f : Field} {fs : List Field} {gs : Array Field} {a b : Array Value} {r : Bool} (hn : f.name ≠ "_") (hu : P.underlying f.type = some (.struct gs)) (hi : (P.info? f.type).map (·.size) = some n) (hx : xs.extract f.offset (f.offset + n) = a) (hy : ys.extract f.offset (f.offset + n) = b) (he : ∀ w, (Op.equalIn d f.type (.agg a) (.agg b)).run P w = .ok r w) (w : World) :
    (Op.eqFields d xs ys (f :: fs)).run P w = if r then (Op.eqFields d xs ys fs).run P w else .ok false w := by
  simp only [Op.eqFields, if_pos hn, Sem.run_bind, part_row hu hi hx, part_row hu hi hy, Result.andThen_ok, he, Sem.run_ite]
  cases r <;> rfl
def DI.isZ (d : DI) : Bool := (d.has == 0) && (d.v.isZ && (d.g.isZ && (d.t.isZ && (!d.wr && (!d.en && !d.cf)))))
theorem equal_zero (d : Nat) (v : VI) (w : World) : (Op.equalIn (d + 2) 29 v.a (.agg #[.int .u8 0, .float .f64 0, .string ⟨#[]⟩, .int .i64 0])).run Tryz.prog w = .ok v.isZ w :=
  (equal_val d v.k 0 v.x 0 v.s ⟨#[]⟩ v.r 0 w).trans (by rw [eqV_zero])

set_option maxRecDepth 100000 in
theorem equal_desc (d : Nat) (n : DI) (w : World) : (Op.equalIn (d + 3) 31 n.a (.agg DI.zero.cs)).run Tryz.prog w = .ok n.isZ w := by
  unfold DI.isZ DI.zero
  rw [run_equalIn_struct _ _ _ _ _ under_desc stood_desc]
  have hf := eq_of_beq fields_desc
  generalize (Tryz.prog.fieldsOf 31).toList = fs at *
  rcases fs with _ | ⟨f0, _ | ⟨f1, _ | ⟨f2, _ | ⟨f3, _ | ⟨f4, _ | ⟨f5, _ | ⟨f6, _ | ⟨f7, fs⟩⟩⟩⟩⟩⟩⟩⟩
  case cons.cons.cons.cons.cons.cons.cons.nil =>
    simp only [List.map_cons, List.map_nil, List.cons.injEq, Prod.mk.injEq, and_true] at hf
    obtain ⟨⟨a0, b0, c0⟩, ⟨a1, b1, c1⟩, ⟨a2, b2, c2⟩, ⟨a3, b3, c3⟩, ⟨a4, b4, c4⟩, ⟨a5, b5, c5⟩, ⟨a6, b6, c6⟩⟩ := hf
    rw [eqF_plain (a := .int .u8 n.has) (b := .int .u8 0) (by rw [a0]; decide) (by rw [b0]; kernel_rfl) (by rw [c0]; rfl) (by rw [c0]; rfl) (by intro w; rw [b0]; exact run_equalIn_int w (d + 1) _ .u8 .u8 _ _ (by kernel_rfl)),
      eqF_row (n := 4) (a := n.v.cells.toArray) (b := #[.int .u8 0, .float .f64 0, .string ⟨#[]⟩, .int .i64 0]) (by rw [a1]; decide) (by rw [b1]; exact under_val) (by rw [b1]; kernel_rfl) (by rw [c1]; rfl) (by rw [c1]; rfl) (by intro w; rw [b1]; exact equal_zero d n.v w),
      eqF_row (n := 4) (a := n.g.cells.toArray) (b := #[.int .u8 0, .float .f64 0, .string ⟨#[]⟩, .int .i64 0]) (by rw [a2]; decide) (by rw [b2]; exact under_val) (by rw [b2]; kernel_rfl) (by rw [c2]; rfl) (by rw [c2]; rfl) (by intro w; rw [b2]; exact equal_zero d n.g w),
      eqF_row (n := 4) (a := n.t.cells.toArray) (b := #[.int .u8 0, .float .f64 0, .string ⟨#[]⟩, .int .i64 0]) (by rw [a3]; decide) (by rw [b3]; exact under_val) (by rw [b3]; kernel_rfl) (by rw [c3]; rfl) (by rw [c3]; rfl) (by intro w; rw [b3]; exact equal_zero d n.t w),
      eqF_plain (a := .bool n.wr) (b := .bool false) (by rw [a4]; decide) (by rw [b4]; kernel_rfl) (by rw [c4]; rfl) (by rw [c4]; rfl) (by intro w; rw [b4]; exact run_equalIn_bool w (d + 1) _ _ _ (by kernel_rfl)),
      eqF_plain (a := .bool n.en) (b := .bool false) (by rw [a5]; decide) (by rw [b5]; kernel_rfl) (by rw [c5]; rfl) (by rw [c5]; rfl) (by intro w; rw [b5]; exact run_equalIn_bool w (d + 1) _ _ _ (by kernel_rfl)),
      eqF_plain (a := .bool n.cf) (b := .bool false) (by rw [a6]; decide) (by rw [b6]; kernel_rfl) (by rw [c6]; rfl) (by rw [c6]; rfl) (by intro w; rw [b6]; exact run_equalIn_bool w (d + 1) _ _ _ (by kernel_rfl)), eqF_nil]
    cases n.has == 0 <;> cases n.v.isZ <;> cases n.g.isZ <;> cases n.t.isZ <;> cases n.wr <;> cases n.en <;> cases n.cf <;> rfl
  all_goals (exfalso; simp at hf)

/-- May an outcome with these keys be given for what is wanted? -/
def bad1 (x : OI) (ks : List KI) : Bool := !(x.kd == 1 || x.kd == 2) || ((x.er != 0) || (!x.tx.toList.isEmpty || (!x.v.may || decide (1024 < ks.length))))
def bad2 (x : OI) : Bool := !x.fo && (!x.d.isZ || (!x.d.v.may || (!x.d.g.may || !x.d.t.may)))
def bad3 (x : OI) : Bool := x.fo && ((x.d.err != 0) || ((x.d.has != 51) && (x.d.has != 60)))
def fitsB (kd mt : Int) (x : OI) (ks : List KI) : Bool :=
  !(bad1 x ks) && (ks.all KI.ok && (!(bad2 x) && (!(bad3 x) && ((x.kd == 2) ||
    (if kd = 4 ∨ kd = 3 ∨ (kd = 1 ∧ mt = 13) then isObj x.v.k else if kd = 1 ∧ mt = 1 then isObj x.v.k || (x.v.k == 1) else true)))))

set_option maxHeartbeats 16000000 in
set_option maxRecDepth 100000 in
theorem fits_any (kd mt : Int) (x : OI) (ks : List KI) (hx : x.d.ok) (h0 : 0 ≤ x.v.k) (w : World) (hr : RdL KI.cells 2 ks x.keys w) : Calls Tryz.prog 43 #[.int .u8 kd, .int .u8 mt, x.a] w fun e w' => e = .returned (.bool (fitsB kd mt x ks)) ∧ Below w.heap.size w w' := by
  obtain ⟨pa, c, hkeys, h1, h2, h3⟩ := hr
  unfold maxLen at h2
  have hlm : ks.length ≤ 9223372036854775807 := by omega
  have X := hidB (show Bk (w.alloc (.cells x.cs 49)) w.heap.size 49 x.cs from Bk.new w _ _)
  have B := hidB (show Below w.heap.size w (w.alloc (.cells x.cs 49)) from box_one w _)
  have MA := hidB (fun W => vmay_any x.v.k x.v.x x.v.s x.v.r h0 W)
  have MV := hidB (fun W => vmay_any x.d.v.k x.d.v.x x.d.v.s x.d.v.r hx.1 W)
  have MG := hidB (fun W => vmay_any x.d.g.k x.d.g.x x.d.g.s x.d.g.r hx.2.1 W)
  have MT := hidB (fun W => vmay_any x.d.t.k x.d.t.x x.d.t.s x.d.t.r hx.2.2 W)
  have CA := hidB (fun W => descCheck_any x.d hx W)
  have IA := hidB (fun W => isObjB_any x.v W)
  have HC := hidB h3
  have HK := hidB hkeys
  clear h3 hkeys hx h0
  go_enter Tryz.func43, Tryz.ntmps43
  go_upto_region 1 with fail
  generalize (w.alloc (.cells x.cs 49)) = w1 at *
  go_cut [38] from 6 to 133 (fun s38 wx => s38 = .bool (bad1 x ks) ∧ Below w.heap.size w wx ∧ Bk wx w.heap.size 49 x.cs)
  case first =>
    clear MV MG MT CA IA HC
    by_cases hkd : x.kd = 1
    · skip
      have x0 : w1.cell? ⟨w.heap.size, 0, none⟩ = some (.int .u8 1) := by rw [← hkd]; exact X.out.cell 0
      by_cases her : x.er = 0
      · have x24 : w1.cell? ⟨w.heap.size, 24, none⟩ = some (.int .u8 0) := by rw [← her]; exact X.out.cell 24
        have x25 : w1.cell? ⟨w.heap.size, 25, none⟩ = some (.string x.tx) := X.out.cell 25
        cases htx : x.tx.toList.isEmpty
        · have htx2 : (x.tx.toList == []) = false := by rw [← htx]; cases x.tx.toList <;> rfl
          go_wp2_with fail
          go_meet
          case rel => exact ⟨congrArg Value.bool (by unfold bad1 VI.may; simp [*]), B.out, X.out⟩
        · have htx2 : (x.tx.toList == []) = true := by rw [← htx]; cases x.tx.toList <;> rfl
          generalize hm : mayV x.v.k x.v.x x.v.s x.v.r = m at *
          go_wp2_with (first | ((with_reducible refine ldId 29 (.tmp 28) ?_); refine wpList_load_mid (by rfl) 29 (.tmp 28) (by rfl) (w.heap.size) 1 (by rfl) (x.v.cells) _ (by exact Bk.mid X.out 1 _ rfl) Tryz.underlying29 (by rfl) (by kernel_rfl) ?_) | ((with_reducible refine ldId 29 (.tmp 28) ?_); refine wpList_wload_mid 29 (.tmp 28) (by rfl) (by rfl) (w.heap.size) 1 (by rfl) (x.v.cells) _ (by exact Bk.mid X.out 1 _ rfl) Tryz.underlying29 (by rfl) (by kernel_rfl) ?_))
          refine (MA.out _).mono ?_; rintro e w2 ⟨rfl, hb⟩
          replace X := hidB (X.out.on hb)
          replace B := hidB (B.out.trans (hb.mono B.out.size))
          clear hb
          cases m
          · go_wp2_with fail
            go_meet
            case rel => exact ⟨congrArg Value.bool (by unfold bad1 VI.may; simp [*]), B.out, X.out⟩
          · have x23 : w2.cell? ⟨w.heap.size, 23, none⟩ = some (.slice pa ks.length c) := by rw [← HK.out]; exact X.out.cell 23
            by_cases hbig : 1024 < ks.length
            · have hbi : (1024 : Int) < (ks.length : Int) := by omega
              go_wp2_with fail
              go_meet
              case rel => exact ⟨congrArg Value.bool (by unfold bad1 VI.may; simp [*]), B.out, X.out⟩
            · have hbi : ¬ (1024 : Int) < (ks.length : Int) := by omega
              go_wp2_with fail
              go_meet
              case rel => exact ⟨congrArg Value.bool (by unfold bad1 VI.may; simp [*]), B.out, X.out⟩
      · have x24 : w1.cell? ⟨w.heap.size, 24, none⟩ = some (.int .u8 x.er) := X.out.cell 24
        go_wp2_with fail
        go_meet
        case rel => exact ⟨congrArg Value.bool (by unfold bad1 VI.may; simp [*]), B.out, X.out⟩
    · by_cases hkd2 : x.kd = 2
      · replace hkd := hkd2
        have x0 : w1.cell? ⟨w.heap.size, 0, none⟩ = some (.int .u8 2) := by rw [← hkd]; exact X.out.cell 0
        by_cases her : x.er = 0
        · have x24 : w1.cell? ⟨w.heap.size, 24, none⟩ = some (.int .u8 0) := by rw [← her]; exact X.out.cell 24
          have x25 : w1.cell? ⟨w.heap.size, 25, none⟩ = some (.string x.tx) := X.out.cell 25
          cases htx : x.tx.toList.isEmpty
          · have htx2 : (x.tx.toList == []) = false := by rw [← htx]; cases x.tx.toList <;> rfl
            go_wp2_with fail
            go_meet
            case rel => exact ⟨congrArg Value.bool (by unfold bad1 VI.may; simp [*]), B.out, X.out⟩
          · have htx2 : (x.tx.toList == []) = true := by rw [← htx]; cases x.tx.toList <;> rfl
            generalize hm : mayV x.v.k x.v.x x.v.s x.v.r = m at *
            go_wp2_with (first | ((with_reducible refine ldId 29 (.tmp 28) ?_); refine wpList_load_mid (by rfl) 29 (.tmp 28) (by rfl) (w.heap.size) 1 (by rfl) (x.v.cells) _ (by exact Bk.mid X.out 1 _ rfl) Tryz.underlying29 (by rfl) (by kernel_rfl) ?_) | ((with_reducible refine ldId 29 (.tmp 28) ?_); refine wpList_wload_mid 29 (.tmp 28) (by rfl) (by rfl) (w.heap.size) 1 (by rfl) (x.v.cells) _ (by exact Bk.mid X.out 1 _ rfl) Tryz.underlying29 (by rfl) (by kernel_rfl) ?_))
            refine (MA.out _).mono ?_; rintro e w2 ⟨rfl, hb⟩
            replace X := hidB (X.out.on hb)
            replace B := hidB (B.out.trans (hb.mono B.out.size))
            clear hb
            cases m
            · go_wp2_with fail
              go_meet
              case rel => exact ⟨congrArg Value.bool (by unfold bad1 VI.may; simp [*]), B.out, X.out⟩
            · have x23 : w2.cell? ⟨w.heap.size, 23, none⟩ = some (.slice pa ks.length c) := by rw [← HK.out]; exact X.out.cell 23
              by_cases hbig : 1024 < ks.length
              · have hbi : (1024 : Int) < (ks.length : Int) := by omega
                go_wp2_with fail
                go_meet
                case rel => exact ⟨congrArg Value.bool (by unfold bad1 VI.may; simp [*]), B.out, X.out⟩
              · have hbi : ¬ (1024 : Int) < (ks.length : Int) := by omega
                go_wp2_with fail
                go_meet
                case rel => exact ⟨congrArg Value.bool (by unfold bad1 VI.may; simp [*]), B.out, X.out⟩
        · have x24 : w1.cell? ⟨w.heap.size, 24, none⟩ = some (.int .u8 x.er) := X.out.cell 24
          go_wp2_with fail
          go_meet
          case rel => exact ⟨congrArg Value.bool (by unfold bad1 VI.may; simp [*]), B.out, X.out⟩
      · have x0 : w1.cell? ⟨w.heap.size, 0, none⟩ = some (.int .u8 x.kd) := X.out.cell 0
        go_wp2_with fail
        go_meet
        case rel => exact ⟨congrArg Value.bool (by unfold bad1 VI.may; simp [*]), B.out, X.out⟩
  case rest =>
  obtain ⟨rfl, hb, hX⟩ := hcut
  replace X := hidB hX
  replace B := hidB hb
  clear hb hX MA
  cases hb1 : bad1 x ks
  rotate_left
  · skip
    go_wp2_with fail
    go_ret
    exact ⟨ret_bool (by unfold fitsB; simp [*]), B.out⟩
  have H1 := hidB hb1
  clear hb1
  have x23 : wc.cell? ⟨w.heap.size, 23, none⟩ = some (.slice pa ks.length c) := by rw [← HK.out]; exact X.out.cell 23
  go_wp2_with fail
  go_loopw [42] (fun i wr => ∃ k : Nat, k ≤ ks.length ∧ i = .int .i64 k ∧ (ks.take k).all KI.ok = true ∧ Below w.heap.size w wr ∧ Bk wr w.heap.size 49 x.cs) (fun i _ => ks.length - (intOf i).toNat)
  case atStart => exact ⟨0, by omega, rfl, rfl, B.out, X.out⟩
  case round =>
    obtain ⟨k, hk, rfl, ha, hb, hX⟩ := hrel
    have Ha := hidB ha
    replace B := hidB hb
    replace X := hidB hX
    clear ha hb hX x23
    by_cases hlt : k < ks.length
    · have hx1 : (k : Int) < (ks.length : Int) := by omega
      have hx2 : (0 : Int) ≤ (k : Int) := by omega
      obtain ⟨g, o, rfl, hg, hcell⟩ := HC.out (by omega)
      have hg2 : g < w.heap.size := hg
      obtain ⟨x0, x1⟩ := KI.two (rangeOn B.out hg (hcell k hlt))
      have KC := hidB (fun W => keyCheck_any ks[k] W)
      have HN : Hid (ks[k].ok = false → ks.all KI.ok = false) := hidB (fun h => by rw [Bool.eq_false_iff]; intro hh; have := List.all_eq_true.1 hh ks[k] (List.getElem_mem hlt); rw [h] at this; cases this)
      have HS : Hid (ks[k].ok = true → (ks.take (k + 1)).all KI.ok = true) := hidB (fun h => by rw [List.take_succ_eq_append_getElem hlt, List.all_append, Ha.out, List.all_cons, h]; rfl)
      unfold KI.err at KC
      clear HC hcell hg
      generalize ks[k]'hlt = kk at *
      obtain ⟨s, n⟩ := kk
      simp only at x0 x1
      cases hok : KI.ok ⟨s, n⟩
      · have HQ2 := hidB (HN.out hok)
        rw [hok] at KC
        go_wp2_with fail
        refine (KC.out _).mono ?_; rintro e w2 ⟨rfl, hb⟩
        replace X := hidB ((X.out.alloc _).on hb)
        replace B := hidB (B.out.trans (((box_one _ _).trans (hb.mono (by simp))).mono B.out.size))
        clear hb
        go_wp2_with fail
        go_ret
        exact ⟨ret_bool (by unfold fitsB; rw [HQ2.out]; simp), B.out⟩
      · have HS2 := hidB (HS.out hok)
        rw [hok] at KC
        go_wp2_with fail
        refine (KC.out _).mono ?_; rintro e w2 ⟨rfl, hb⟩
        replace X := hidB ((X.out.alloc _).on hb)
        replace B := hidB (B.out.trans (((box_one _ _).trans (hb.mono (by simp))).mono B.out.size))
        clear hb
        go_wp2_with fail
        go_roundw
        case rel => exact ⟨k + 1, by omega, by go_num, HS2.out, B.out, X.out⟩
        case measure => simp [intOf]; omega
    · obtain rfl : k = ks.length := by omega
      have hx4 : ¬ ((ks.length : Int) < (ks.length : Int)) := by omega
      have HE : Hid (ks.all KI.ok = true) := hidB (by have := Ha.out; rwa [List.take_length] at this)
      clear Ha HC hk
      go_upto_region 9 with fail
      go_cut [79] from 39 to 133 (fun s79 wx => s79 = .bool (bad2 x) ∧ Below w.heap.size w wx ∧ Bk wx w.heap.size 49 x.cs)
      case first =>
        have z1 : Tryz.prog.eqGuardType Tryz.prog.depth 31 = false := by kernel_rfl
        have V1 : ∀ W : World, (Op.equalIn 10000 31 (.agg x.d.cs) (.agg DI.zero.cs)).run Tryz.prog W = .ok x.d.isZ W := fun W => equal_desc 9997 x.d W
        unfold DI.zero VI.zero DI.cs at V1
        simp only at V1
        have x6 : wr.cell? ⟨w.heap.size, 6, none⟩ = some (.bool x.fo) := X.out.cell 6
        clear CA IA
        cases hfo : x.fo
        · rw [hfo] at x6
          generalize hz : x.d.isZ = z at *
          cases z
          · go_wp2_with (first | ((with_reducible refine ldId 31 (.tmp 54) ?_); refine wpList_wload_mid 31 (.tmp 54) (by rfl) (by rfl) (w.heap.size) 7 (by rfl) (x.d.cs.toList) _ (by exact Bk.mid X.out 7 _ rfl) Tryz.underlying31 (by rfl) (by kernel_rfl) ?_))
            go_meet
            case rel => exact ⟨congrArg Value.bool (by unfold bad2 VI.may; simp [*]), B.out, X.out⟩
          · generalize hmv : mayV x.d.v.k x.d.v.x x.d.v.s x.d.v.r = mv at *
            go_wp2_with (first | ((with_reducible refine ldId 31 (.tmp 54) ?_); refine wpList_wload_mid 31 (.tmp 54) (by rfl) (by rfl) (w.heap.size) 7 (by rfl) (x.d.cs.toList) _ (by exact Bk.mid X.out 7 _ rfl) Tryz.underlying31 (by rfl) (by kernel_rfl) ?_) | ((with_reducible refine ldId 29 (.tmp 60) ?_); refine wpList_wload_mid 29 (.tmp 60) (by rfl) (by rfl) (w.heap.size) 8 (by rfl) (x.d.v.cells) _ (by exact Bk.mid X.out 8 _ rfl) Tryz.underlying29 (by rfl) (by kernel_rfl) ?_))
            refine (MV.out _).mono ?_; rintro e w2 ⟨rfl, hb⟩
            replace X := hidB (X.out.on hb)
            replace B := hidB (B.out.trans (hb.mono B.out.size))
            clear hb
            cases mv
            · skip
              go_wp2_with fail
              go_meet
              case rel => exact ⟨congrArg Value.bool (by unfold bad2 VI.may; simp [*]), B.out, X.out⟩
            · generalize hmg : mayV x.d.g.k x.d.g.x x.d.g.s x.d.g.r = mg at *
              go_wp2_with (first | ((with_reducible refine ldId 29 (.tmp 67) ?_); refine wpList_wload_mid 29 (.tmp 67) (by rfl) (by rfl) (w.heap.size) 12 (by rfl) (x.d.g.cells) _ (by exact Bk.mid X.out 12 _ rfl) Tryz.underlying29 (by rfl) (by kernel_rfl) ?_))
              refine (MG.out _).mono ?_; rintro e w2 ⟨rfl, hb⟩
              replace X := hidB (X.out.on hb)
              replace B := hidB (B.out.trans (hb.mono B.out.size))
              clear hb
              cases mg
              · skip
                go_wp2_with fail
                go_meet
                case rel => exact ⟨congrArg Value.bool (by unfold bad2 VI.may; simp [*]), B.out, X.out⟩
              · generalize hmt : mayV x.d.t.k x.d.t.x x.d.t.s x.d.t.r = mt2 at *
                go_wp2_with (first | ((with_reducible refine ldId 29 (.tmp 74) ?_); refine wpList_wload_mid 29 (.tmp 74) (by rfl) (by rfl) (w.heap.size) 16 (by rfl) (x.d.t.cells) _ (by exact Bk.mid X.out 16 _ rfl) Tryz.underlying29 (by rfl) (by kernel_rfl) ?_))
                refine (MT.out _).mono ?_; rintro e w2 ⟨rfl, hb⟩
                replace X := hidB (X.out.on hb)
                replace B := hidB (B.out.trans (hb.mono B.out.size))
                clear hb
                cases mt2
                all_goals
                  go_wp2_with fail
                  go_meet
                  case rel => exact ⟨congrArg Value.bool (by unfold bad2 VI.may; simp [*]), B.out, X.out⟩
        · rw [hfo] at x6
          go_wp2_with fail
          go_meet
          case rel => exact ⟨congrArg Value.bool (by unfold bad2 VI.may; simp [*]), B.out, X.out⟩
      case rest =>
      obtain ⟨rfl, hb, hX⟩ := hcut
      replace X := hidB hX
      replace B := hidB hb
      clear hb hX MV MG MT
      cases hb2 : bad2 x
      rotate_left
      · have HE2 := HE.out
        go_wp2_with fail
        go_ret
        exact ⟨ret_bool (by unfold fitsB; simp [*]), B.out⟩
      have H2 := hidB hb2
      clear hb2
      go_upto_region 11 with fail
      go_cut [99] from 39 to 133 (fun s99 wx => s99 = .bool (bad3 x) ∧ Below w.heap.size w wx ∧ Bk wx w.heap.size 49 x.cs)
      case first =>
        clear IA
        have x6 : wc.cell? ⟨w.heap.size, 6, none⟩ = some (.bool x.fo) := X.out.cell 6
        cases hfo : x.fo
        · rw [hfo] at x6
          go_wp2_with fail
          go_meet
          case rel => exact ⟨congrArg Value.bool (by unfold bad3; simp [*]), B.out, X.out⟩
        · rw [hfo] at x6
          have hde : x.d.err = 0 ∨ x.d.err = 90 := by unfold DI.err; split <;> simp
          go_wp2_with (first | ((with_reducible refine ldId 31 (.tmp 83) ?_); refine wpList_wload_mid 31 (.tmp 83) (by rfl) (by rfl) (w.heap.size) 7 (by rfl) (x.d.cs.toList) _ (by exact Bk.mid X.out 7 _ rfl) Tryz.underlying31 (by rfl) (by kernel_rfl) ?_))
          refine (CA.out _).mono ?_; rintro e w2 ⟨rfl, hb⟩
          replace X := hidB (X.out.on hb)
          replace B := hidB (B.out.trans (hb.mono B.out.size))
          clear hb
          rcases hde with hde | hde
          · have x7 : w2.cell? ⟨w.heap.size, 7, none⟩ = some (.int .u8 x.d.has) := X.out.cell 7
            by_cases h51 : x.d.has = 51
            · skip
              go_wp2_with fail
              go_meet
              case rel => exact ⟨congrArg Value.bool (by unfold bad3; simp [*]), B.out, X.out⟩
            · by_cases h60 : x.d.has = 60
              all_goals
                go_wp2_with fail
                go_meet
                case rel => exact ⟨congrArg Value.bool (by unfold bad3; simp [*]), B.out, X.out⟩
          · skip
            go_wp2_with fail
            go_meet
            case rel => exact ⟨congrArg Value.bool (by unfold bad3; simp [*]), B.out, X.out⟩
      case rest =>
      obtain ⟨rfl, hb, hX⟩ := hcut
      replace X := hidB hX
      replace B := hidB hb
      clear hb hX CA
      cases hb3 : bad3 x
      rotate_left
      · have HE2 := HE.out
        have HE1 := H2.out
        go_wp2_with fail
        go_ret
        exact ⟨ret_bool (by unfold fitsB; simp [*]), B.out⟩
      have H3 := hidB hb3
      clear hb3
      have x0 : wc.cell? ⟨w.heap.size, 0, none⟩ = some (.int .u8 x.kd) := X.out.cell 0
      generalize hio : isObj x.v.k = io at *
      have HIO := hidB hio
      clear hio
      by_cases h2k : x.kd = 2
      · go_wp2_with fail
        go_ret
        have q1 := H1.out
        have q2 := HE.out
        have q3 := H2.out
        have q4 := H3.out
        have q5 := HIO.out
        exact ⟨ret_bool (by unfold fitsB; simp [*]), B.out⟩
      by_cases h4 : kd = 4
      · subst h4
        go_wp2_with (first | ((with_reducible refine ldId 29 (.tmp 114) ?_); refine wpList_load_mid (by rfl) 29 (.tmp 114) (by rfl) (w.heap.size) 1 (by rfl) (x.v.cells) _ (by exact Bk.mid X.out 1 _ rfl) Tryz.underlying29 (by rfl) (by kernel_rfl) ?_))
        refine (IA.out _).mono ?_; rintro e w2 ⟨rfl, hb⟩
        replace X := hidB (X.out.on hb)
        replace B := hidB (B.out.trans (hb.mono B.out.size))
        clear hb
        go_wp2_with fail
        go_ret
        have q1 := H1.out
        have q2 := HE.out
        have q3 := H2.out
        have q4 := H3.out
        have q5 := HIO.out
        exact ⟨ret_bool (by unfold fitsB; simp [*]), B.out⟩
      by_cases h3 : kd = 3
      · subst h3
        go_wp2_with (first | ((with_reducible refine ldId 29 (.tmp 114) ?_); refine wpList_load_mid (by rfl) 29 (.tmp 114) (by rfl) (w.heap.size) 1 (by rfl) (x.v.cells) _ (by exact Bk.mid X.out 1 _ rfl) Tryz.underlying29 (by rfl) (by kernel_rfl) ?_))
        refine (IA.out _).mono ?_; rintro e w2 ⟨rfl, hb⟩
        replace X := hidB (X.out.on hb)
        replace B := hidB (B.out.trans (hb.mono B.out.size))
        clear hb
        go_wp2_with fail
        go_ret
        have q1 := H1.out
        have q2 := HE.out
        have q3 := H2.out
        have q4 := H3.out
        have q5 := HIO.out
        exact ⟨ret_bool (by unfold fitsB; simp [*]), B.out⟩
      by_cases h1k : kd = 1
      · subst h1k
        by_cases h13 : mt = 13
        · subst h13
          go_wp2_with (first | ((with_reducible refine ldId 29 (.tmp 114) ?_); refine wpList_load_mid (by rfl) 29 (.tmp 114) (by rfl) (w.heap.size) 1 (by rfl) (x.v.cells) _ (by exact Bk.mid X.out 1 _ rfl) Tryz.underlying29 (by rfl) (by kernel_rfl) ?_))
          refine (IA.out _).mono ?_; rintro e w2 ⟨rfl, hb⟩
          replace X := hidB (X.out.on hb)
          replace B := hidB (B.out.trans (hb.mono B.out.size))
          clear hb
          go_wp2_with fail
          go_ret
          have q1 := H1.out
          have q2 := HE.out
          have q3 := H2.out
          have q4 := H3.out
          have q5 := HIO.out
          exact ⟨ret_bool (by unfold fitsB; simp [*]), B.out⟩
        by_cases h1m : mt = 1
        · subst h1m
          go_wp2_with (first | ((with_reducible refine ldId 29 (.tmp 124) ?_); refine wpList_load_mid (by rfl) 29 (.tmp 124) (by rfl) (w.heap.size) 1 (by rfl) (x.v.cells) _ (by exact Bk.mid X.out 1 _ rfl) Tryz.underlying29 (by rfl) (by kernel_rfl) ?_))
          refine (IA.out _).mono ?_; rintro e w2 ⟨rfl, hb⟩
          replace X := hidB (X.out.on hb)
          replace B := hidB (B.out.trans (hb.mono B.out.size))
          clear hb
          have x1 : w2.cell? ⟨w.heap.size, 1, none⟩ = some (.int .u8 x.v.k) := X.out.cell 1
          cases io
          all_goals
            go_wp2_with fail
            go_ret
            have q1 := H1.out
            have q2 := HE.out
            have q3 := H2.out
            have q4 := H3.out
            have q5 := HIO.out
            exact ⟨ret_bool (by unfold fitsB; simp [*]), B.out⟩
        · go_wp2_with fail
          go_ret
          have q1 := H1.out
          have q2 := HE.out
          have q3 := H2.out
          have q4 := H3.out
          have q5 := HIO.out
          exact ⟨ret_bool (by unfold fitsB; simp [*]), B.out⟩
      · go_wp2_with fail
        go_ret
        have q1 := H1.out
        have q2 := HE.out
        have q3 := H2.out
        have q4 := H3.out
        have q5 := HIO.out
        exact ⟨ret_bool (by unfold fitsB; simp [*]), B.out⟩

end Go.Proofs.YtbmaodlghglopaaGreatDoor
