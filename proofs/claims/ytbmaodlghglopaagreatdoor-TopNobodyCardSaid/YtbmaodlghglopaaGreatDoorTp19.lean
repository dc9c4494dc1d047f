/-
  What Get tells is what the nearest object has: the walk of TopNobody.
-/
import Derived.Test.YtbmaodlghglopaaGreatDoorTp18
import Derived.Test.YtbmaodlghglopaaGreatDoorRefLike
namespace Go.Proofs.YtbmaodlghglopaaGreatDoor
open Go.RowKit

theorem isN_num {x : Nat} (h : isN x = true) : Fl.isNaN x = false := by
  unfold isN Fl.isZ at h
  rw [Bool.and_eq_true, decide_eq_true_eq] at h
  unfold Fl.isNaN
  rw [decide_eq_false_iff_not, h.1]; exact Nat.not_lt_zero _
theorem is1_num {x : Nat} (h : is1 x = true) : Fl.isNaN x = false := by
  cases hn : Fl.isNaN x
  · rfl
  · unfold is1 at h; rw [ordN hn] at h; exact absurd h (by decide)
theorem sameV_refl {v : VI} (h : v.may = true) : sameV v.k v.x v.s v.r v.k v.x v.s v.r = true := by
  obtain ⟨k, x, s, r⟩ := v
  unfold VI.may at h
  unfold sameV
  simp only at h ⊢
  split
  · rename_i hh; exact hh.2.2
  · rename_i hN
    cases ho : isObj k
    · rw [strict_eq x s r x s r ho]
      unfold mayV at h
      split
      · rfl
      · rename_i h01
        rw [if_neg h01] at h
        split
        · rename_i h23
          have hx : Fl.isNaN x = false := by
            rcases h23 with rfl | rfl
            · rw [if_pos rfl, Bool.and_eq_true, Bool.and_eq_true, Bool.or_eq_true] at h
              exact h.1.1.elim isN_num is1_num
            · cases hn : Fl.isNaN x
              · rfl
              · exact absurd ⟨rfl, rfl, hn⟩ hN
          rw [ordE hx]; rfl
        · rename_i h23
          rw [if_neg (by omega), if_neg (by omega)] at h
          split
          · simp
          · rename_i h4
            rw [if_neg h4] at h
            split
            · simp
            · rename_i h5
              unfold isObj at ho
              rw [if_neg] at h
              · exact absurd h (by decide)
              · intro hk
                rw [Bool.and_eq_false_iff, decide_eq_false_iff_not, decide_eq_false_iff_not] at ho
                omega
    · rw [strict_obj x s r x s r ho ho]; simp
theorem findV_of {h : HI} (hc : chkH h = 0) {x : Nat} (hx : x < h.length) (hk : (h[x]'hx).1.kd = 1) {k : KI} (hke : k.err = 0) : findV (h[x]'hx).2 k = (match findP (h[x]'hx).2 k with | some p => (p.d, true, 0) | none => (DI.zero, false, 0)) := by
  unfold findV
  rw [if_pos (show askedE (h[x]'hx).2 k = 0 by unfold askedE; rw [if_pos (chk_plain hc hx hk).1, hke])]
  cases findP (h[x]'hx).2 k <;> rfl
theorem chk_len {h : HI} (hc : chkH h = 0) : ∀ e ∈ h, e.2.length ≤ 4096 := fun e he => Nat.le_trans (allO_len (chkH_ok hc).2.1 e he) (by decide)
theorem chk_len1 {h : HI} (hc : chkH h = 0) {x : Nat} (hx : x < h.length) : (h[x]'hx).2.length ≤ 4096 := chk_len hc _ (List.getElem_mem hx)
/-- Where the way stands; where it ends. -/
def WyR (h : HI) (k : KI) (x0 gW : Nat) (w3 : World) (n : Nat) (s8 s10 : Value) (wr : World) : Prop := ∃ i x : Nat, n = 50 - i ∧ i ≤ 50 ∧ s10 = .int .i64 i ∧ s8 = .int .i64 x ∧ x < h.length ∧ WayP h k i x0 x ∧ Bk wr gW 29 VI.zero.cells.toArray ∧ Below w3.heap.size w3 wr
def WyE (h : HI) (k : KI) (x0 gW : Nat) (w3 : World) (wx : World) : Prop := ∃ (i x : Nat) (v : VI), i ≤ 60 ∧ WayP h k i x0 x ∧ EndV h k x v ∧ Bk wx gW 29 v.cells.toArray ∧ Below w3.heap.size w3 wx
def LawR (w : World) (e : Ending) (w' : World) : Prop := e = .returned (.bool true) ∧ Below w.heap.size w w'
set_option maxHeartbeats 8000000 in
set_option maxRecDepth 100000 in
theorem law_nobody (h : HI) (hok : HOk h) (hk : HKeys h) (hv : Value) (a : AI) (args : List VI) (ham : 0 ≤ a.m) (hvk : 0 ≤ a.v.k) (hrk : 0 ≤ a.r.k) (hao : a.args.oneCell' = true) (hargs : ∀ v ∈ args, 0 ≤ v.k) (w : World) (hr : RdH h hv w) (hra : RdL VI.cells 4 args a.args w) : Calls Tryz.prog 3 #[.agg #[hv], a.a] w (LawR w) := by
  have HRD := hidB (fun W (hb : Below w.heap.size w W) => hr.on hb)
  have HRA := hidB (fun W (hb : Below w.heap.size w W) => hra.on hb)
  have HOK := hidB hok
  have HKY := hidB hk
  have HVK := hidB hvk
  have HRK := hidB hrk
  have HAO := hidB hao
  have HARGS := hidB hargs
  obtain ⟨⟨pa, c, rfl, h1, h2, h3⟩, hpp⟩ := hr
  have HRW := hidB h3
  unfold maxLen at h2
  have hlm : h.length ≤ 9223372036854775807 := by omega
  clear h3 hpp h1 h2 hok hk hvk hrk hao hargs hra ham
  have Y := hidB (show Bk ((w.alloc (.cells (#[(.slice pa h.length c)]) 24)).alloc (.cells (a.cs) 34)) (w.heap.size) 24 (#[(.slice pa h.length c)]) from (Bk.new w _ _).alloc _)
  have X := hidB (show Bk ((w.alloc (.cells (#[(.slice pa h.length c)]) 24)).alloc (.cells (a.cs) 34)) (w.heap.size + 1) 34 (a.cs) from Bk.new2 w _ _ _)
  have B := hidB (show Below w.heap.size w ((w.alloc (.cells (#[(.slice pa h.length c)]) 24)).alloc (.cells (a.cs) 34)) from (box_one w _).alloc (by simp) _)
  go_enter Tryz.func3, Tryz.ntmps3
  go_upto_region 1 with fail
  generalize hW : ((w.alloc (.cells (#[(.slice pa h.length c)]) 24)).alloc (.cells (a.cs) 34)) = w1 at *
  clear hW
  go_wp2_with fail
  refine (aliveT_any _).mono ?_; rintro e w2 ⟨rfl, hb⟩
  replace Y := hidB (Y.out.on hb)
  replace X := hidB (X.out.on hb)
  replace B := hidB (B.out.trans (hb.mono B.out.size))
  clear hb
  have y0 : w2.cell? ⟨w.heap.size, 0, none⟩ = some (.slice pa h.length c) := Y.out.cell 0
  have x0 : w2.cell? ⟨w.heap.size + 1, 0, none⟩ = some (.int .u8 a.m) := X.out.cell 0
  by_cases h40 : 40 < h.length
  · have hx : (40 : Int) < (h.length : Int) := by omega
    go_wp2_with fail
    all_goals first | (exfalso; omega) | (go_ret; exact ⟨rfl, B.out⟩)
  have hx : ¬ ((40 : Int) < (h.length : Int)) := by omega
  have H40 := hidB (show h.length ≤ 40 by omega)
  by_cases h8 : a.m = 8
  rotate_left
  · have h8b : (a.m == 8) = false := by rw [beq_eq_false_iff_ne]; exact h8
    have h8n : (a.m != 8) = true := by rw [bne, h8b]; rfl
    go_wp2_with fail
    all_goals first | (exfalso; omega) | (go_ret; exact ⟨rfl, B.out⟩)
  replace x0 : w2.cell? ⟨w.heap.size + 1, 0, none⟩ = some (.int .u8 8) := by rw [← h8]; exact X.out.cell 0
  have H8 := hidB h8
  clear h8 h40
  go_upto_region 4 with fail
  clear x0 y0 hx
  go_wp2_with (first | ((with_reducible refine ldId 24 (.tmp 2) ?_); refine wpList_load_row (by rfl) 24 (.tmp 2) (by rfl) (w.heap.size) (by rfl) 24 (#[(.slice pa h.length c)]) (0, 0) _ (by exact Y.out) Tryz.underlying24 (by rfl) (by kernel_rfl) ?_) | ((with_reducible refine ldId 34 (.tmp 3) ?_); refine wpList_load_row (by rfl) 34 (.tmp 3) (by rfl) (w.heap.size + 1) (by rfl) 34 (a.cs) (0, 0) _ (by exact X.out) Tryz.underlying34 (by rfl) (by kernel_rfl) ?_))
  refine (startR_any h HOK.out HKY.out (.slice pa h.length c) a (.inr H8.out) HVK.out HRK.out HAO.out args HARGS.out (by have := H40.out; omega) (fun hc => chk_len hc) w2 (HRD.out _ B.out) (HRA.out _ B.out)).mono ?_; rintro e w3 ⟨er, hb, hz, _, hn, hs⟩
  by_cases h0 : er = 0
  rotate_left
  · obtain rfl := hn h0
    have h0b : (er == 0) = false := by rw [beq_eq_false_iff_ne]; exact h0
    have h0n : (er != 0) = true := by rw [bne, h0b]; rfl
    have BR := hidB (B.out.trans (hb.mono B.out.size))
    clear hz hs hn hb
    go_wp2_with fail
    go_ret
    exact ⟨rfl, BR.out⟩
  subst h0
  obtain ⟨h', hv', av, gw, T, rfl, hbare, hT, hW, hRd, hgT, hgw, hgw2, hav1, hav⟩ := hs rfl
  obtain ⟨hc, h11, hob0, hob1, hke⟩ := hz rfl
  have HC := hidB hc
  have HKE := hidB (hke H8.out)
  have HT2 := hidB hT
  have HW2 := hidB hW
  have HRD2 := hidB hRd
  have HBA := hidB hbare
  have HGT := hidB hgT
  have HGW1 := hidB hgw
  have HGW2 := hidB hgw2
  have HAV := hidB hav1
  have Y0L := hidB Y.out.lt
  replace Y := hidB (Y.out.on hb)
  replace X := hidB (X.out.on hb)
  have B2S := hidB B.out.size
  have HG0 := hidB Y0L.out
  replace B := hidB (B.out.trans (hb.mono B.out.size))
  have HRD3 := hidB (HRD.out _ B.out)
  obtain ⟨x0, hx0⟩ : ∃ x0 : Nat, a.ob = (x0 : Int) := ⟨a.ob.toNat, by omega⟩
  have HX0 := hidB hx0
  have hxl : x0 < h.length := by omega
  have HXL := hidB hxl
  obtain ⟨g, o, rfl, hgl, hrow⟩ := HRW.out (by omega)
  have HROW := hidB (fun W (hW : Below w3.heap.size w3 W) i (hi : i < h.length) => rangeOn (B.out.trans (hW.mono B.out.size)) hgl (hrow i hi))
  have x1 : w3.cell? ⟨w.heap.size + 1, 1, none⟩ = some (.int .i64 a.ob) := X.out.cell 1
  clear hz hn hs hb hc h11 hob0 hob1 hke hT hW hRd hbare hgT hgw hgw2 hav1 hav HRW hgl hrow hx0 hxl HRA HARGS HRK HVK HAO
  have GW := hidB (show Bk (w3.alloc (.cells #[.int .u8 0, .float .f64 0, .string ⟨#[]⟩, .int .i64 0] 29)) w3.heap.size 29 VI.zero.cells.toArray from Bk.new w3 _ _)
  have BS := hidB (box_one w3 (.cells #[.int .u8 0, .float .f64 0, .string ⟨#[]⟩, .int .i64 0] 29))
  go_upto_region 9 with fail
  generalize hW : (w3.alloc (.cells #[.int .u8 0, .float .f64 0, .string ⟨#[]⟩, .int .i64 0] 29)) = w4 at *
  clear hW x1
  rw [HX0.out]
  go_upto_block 0 with fail
  go_cut [8, 10, 11, 12, 13] from 43 to 93 (fun s8 s10 s11 s12 s13 wx => WyE h a.k x0 w3.heap.size w3 wx)
  case first => as_aux_lemma =>
    go_wp2_with fail
    go_loopg [8, 10] 50 (fun n s8 s10 wr => WyR h a.k x0 w3.heap.size w3 n s8 s10 wr)
    case atStart => exact ⟨0, x0, rfl, by omega, rfl, rfl, HXL.out, rfl, GW.out, BS.out⟩
    case round =>
      clear GW BS
      obtain ⟨i, x, rfl, hi, rfl, rfl, hx, hway, hG, hB⟩ := hrel
      have GW := hidB hG
      have BS := hidB hB
      have WAY := hidB hway
      have Y3 := hidB (Y.out.on hB)
      have X3 := hidB (X.out.on hB)
      clear hG hB hway
      have hi0 : (0 : Int) ≤ (i : Int) := by omega
      by_cases hlt : i < 50
      rotate_left
      · exfalso
        have := WAY.out.short HC.out HXL.out
        have := H40.out
        omega
      have hi1 : (i : Int) < 50 := by omega
      have hx1 : (x : Int) < (h.length : Int) := by omega
      have hx2 : (0 : Int) ≤ (x : Int) := by omega
      have RW := hidB (HROW.out _ BS.out x hx)
      have HPO := hidB (fun (q : PI) (hq : q ∈ (h[x]'hx).2) => (HOK.out _ (List.getElem_mem hx)).2 q hq)
      have HOW := hidB (fun W (hW : Below w3.heap.size w3 W) => ownR_any h HOK.out HKY.out HC.out (.slice (some ⟨g, o, none⟩) h.length c) x hx _ rfl (chk_len1 HC.out hx) HPO.out a.k W (HRD3.out.on hW))
      have HFV := hidB (fun hk => findV_of HC.out hx hk HKE.out)
      have HEV := hidB (fun (hk : (h[x]'hx).1.kd = 1) v hq => (show EndV h a.k x v from ⟨hx, hk, hq⟩))
      have HSN := hidB (fun hk hq hp => WayP.snoc WAY.out hx hk hq hp)
      have HPR := hidB (fun hp => chk_pr HC.out hx hp)
      generalize hE : (h[x]'hx) = e0 at *
      have HE := hidB hE
      clear hE
      have y0 : wr.cell? ⟨w.heap.size, 0, none⟩ = some (.slice (some ⟨g, o, none⟩) h.length c) := Y3.out.cell 0
      have k0 : wr.cell? ⟨g, o + x * 18, none⟩ = some (.int .u8 e0.1.kd) := RW.out 0 _ rfl
      by_cases hkd : e0.1.kd = 1
      rotate_left
      · have hkb : (e0.1.kd == 1) = false := by rw [beq_eq_false_iff_ne]; exact hkd
        have hkn : (e0.1.kd != 1) = true := by rw [bne, hkb]; rfl
        have BR := hidB (show Below w.heap.size w wr from B.out.trans (BS.out.mono B.out.size))
        go_wp2_with fail
        all_goals first | (exfalso; omega) | (go_ret; exact ⟨rfl, BR.out⟩)
      rw [hkd] at k0
      have HKD := hidB hkd
      clear hkd
      go_upto_region 14 with fail
      all_goals first | (exfalso; omega) | skip
      clear y0 k0
      go_wp2_with (first | ((with_reducible refine ldId 24 (.tmp 2) ?_); refine wpList_load_row (by rfl) 24 (.tmp 2) (by rfl) (w.heap.size) (by rfl) 24 (#[(.slice (some ⟨g, o, none⟩) h.length c)]) (0, 0) _ (by exact Y3.out) Tryz.underlying24 (by rfl) (by kernel_rfl) ?_) | ((with_reducible refine ldId 26 (.tmp 57) ?_); refine wpList_load_mid (by rfl) 26 (.tmp 57) (by rfl) (w.heap.size + 1) 2 (by rfl) (a.k.cells) _ (by exact Bk.mid X3.out 2 _ rfl) Tryz.underlying26 (by rfl) (by kernel_rfl) ?_))
      refine (HOW.out _ BS.out).mono ?_; rintro e w5 ⟨rfl, hb⟩
      rw [HFV.out HKD.out]
      replace GW := hidB (GW.out.on hb)
      have Y5 := hidB (Y3.out.on hb)
      have BS5 := hidB (BS.out.trans (hb.mono BS.out.size))
      have RW5 := hidB (HE.out ▸ HROW.out _ BS5.out x hx)
      clear hb Y3 X3 RW
      obtain ⟨hfz⟩ : Nonempty (Unit) := ⟨()⟩
      cases hq : findP e0.2 a.k with
      | none =>
        have HQ := hidB hq
        clear hq HFV
        dsimp only
        have Z := hidB (Bk.new w5 31 (#[.int .u8 0, .int .u8 0, .float .f64 0, .string ⟨#[]⟩, .int .i64 0, .int .u8 0, .float .f64 0, .string ⟨#[]⟩, .int .i64 0, .int .u8 0, .float .f64 0, .string ⟨#[]⟩, .int .i64 0, .bool false, .bool false, .bool false]))
        go_upto_region 15 with (first | ((with_reducible refine stId 31 (.tmp 11) (.tmp 60) ?_); refine wpList_store_row (by rfl) 31 (.tmp 11) (.tmp 60) (by rfl) (w5.heap.size) (DI.zero.cs) (by rfl) (by rfl) 31 (#[.int .u8 0, .int .u8 0, .float .f64 0, .string ⟨#[]⟩, .int .i64 0, .int .u8 0, .float .f64 0, .string ⟨#[]⟩, .int .i64 0, .int .u8 0, .float .f64 0, .string ⟨#[]⟩, .int .i64 0, .bool false, .bool false, .bool false]) (by exact Z.out) (by kernel_rfl) (by rfl) (by exact DI.one _) ?_))
        have B6 := hidB (show Below w5.heap.size w5 ((w5.alloc (.cells (#[.int .u8 0, .int .u8 0, .float .f64 0, .string ⟨#[]⟩, .int .i64 0, .int .u8 0, .float .f64 0, .string ⟨#[]⟩, .int .i64 0, .int .u8 0, .float .f64 0, .string ⟨#[]⟩, .int .i64 0, .bool false, .bool false, .bool false]) 31)).setRow w5.heap.size (DI.zero.cs)) from below_setRow (box_one w5 _) (Nat.le_refl _) _)
        have Z6 := hidB (show Bk ((w5.alloc (.cells (#[.int .u8 0, .int .u8 0, .float .f64 0, .string ⟨#[]⟩, .int .i64 0, .int .u8 0, .float .f64 0, .string ⟨#[]⟩, .int .i64 0, .int .u8 0, .float .f64 0, .string ⟨#[]⟩, .int .i64 0, .bool false, .bool false, .bool false]) 31)).setRow w5.heap.size (DI.zero.cs)) w5.heap.size 31 (DI.zero.cs) from Z.out.setRow _)
        have GW6 := hidB (GW.out.on B6.out)
        have Y6 := hidB (Y5.out.on B6.out)
        have BS6 := hidB (BS5.out.trans (B6.out.mono BS5.out.size))
        generalize hW6 : ((w5.alloc (.cells (#[.int .u8 0, .int .u8 0, .float .f64 0, .string ⟨#[]⟩, .int .i64 0, .int .u8 0, .float .f64 0, .string ⟨#[]⟩, .int .i64 0, .int .u8 0, .float .f64 0, .string ⟨#[]⟩, .int .i64 0, .bool false, .bool false, .bool false]) 31)).setRow w5.heap.size (DI.zero.cs)) = w6 at *
        generalize hG6 : w5.heap.size = g6 at *
        clear hW6 hG6 Z GW Y5 BS5
        have RW6 := hidB (HE.out ▸ HROW.out _ BS6.out x hx)
        have y0 : w6.cell? ⟨w.heap.size, 0, none⟩ = some (.slice (some ⟨g, o, none⟩) h.length c) := Y6.out.cell 0
        go_wp2_with (first | ((with_reducible refine ldId 29 (.tmp 82) ?_); refine wpList_load_mid (by rfl) 29 (.tmp 82) (by rfl) (g) (o + x * 18 + 1) (by rfl) (e0.1.pr.cells) _ (by exact (range_field RW6.out 1 4)) Tryz.underlying29 (by rfl) (by kernel_rfl) ?_))
        refine (isObj_any e0.1.pr.k e0.1.pr.x e0.1.pr.s e0.1.pr.r _).mono ?_; rintro e w7 ⟨rfl, hb1⟩
        have hb := hb1 ▸ box_one _ (.cells e0.1.pr.cells.toArray 29)
        clear hb1 y0
        have GW7 := hidB (GW6.out.on hb)
        have Y7 := hidB (Y6.out.on hb)
        have BS7 := hidB (BS6.out.trans (hb.mono BS6.out.size))
        clear hb GW6 Y6 BS6 RW6
        have RW7 := hidB (HE.out ▸ HROW.out _ BS7.out x hx)
        have y0 : w7.cell? ⟨w.heap.size, 0, none⟩ = some (.slice (some ⟨g, o, none⟩) h.length c) := Y7.out.cell 0
        have k4 : w7.cell? ⟨g, o + x * 18 + 1 + 3, none⟩ = some (.int .i64 e0.1.pr.r) := RW7.out 4 _ rfl
        cases hp : isObj e0.1.pr.k with
        | false =>
          have HP := hidB hp
          clear hp
          go_wp2_with fail
          all_goals first | (exfalso; omega) | skip
          go_meet
          case rel => exact ⟨i, x, VI.zero, by omega, WAY.out, HEV.out HKD.out _ (.inr ⟨HQ.out, HP.out, rfl⟩), GW7.out, BS7.out⟩
        | true =>
          have HP := hidB hp
          have hpr := HPR.out hp
          obtain ⟨x', hx'⟩ : ∃ x' : Nat, e0.1.pr.r = (x' : Int) := ⟨e0.1.pr.r.toNat, by omega⟩
          have HX' := hidB hx'
          have hxl' : x' < h.length := by omega
          have HXL' := hidB hxl'
          have HW' := hidB (show WayP h a.k (i + 1) x0 x' from (show x' = e0.1.pr.r.toNat by omega) ▸ HSN.out HKD.out HQ.out hp)
          rw [hx'] at k4
          clear hp hpr hx' hxl'
          go_wp2_with fail
          all_goals first | (exfalso; omega) | skip
          go_roundg (50 - (i + 1))
          case measure => omega
          case rel => exact ⟨i + 1, x', rfl, by omega, by go_num, rfl, HXL'.out, HW'.out, GW7.out, BS7.out⟩
      | some q =>
        have HQ := hidB hq
        clear hq HFV
        dsimp only
        have Z := hidB (Bk.new w5 31 (#[.int .u8 0, .int .u8 0, .float .f64 0, .string ⟨#[]⟩, .int .i64 0, .int .u8 0, .float .f64 0, .string ⟨#[]⟩, .int .i64 0, .int .u8 0, .float .f64 0, .string ⟨#[]⟩, .int .i64 0, .bool false, .bool false, .bool false]))
        go_upto_region 15 with (first | ((with_reducible refine stId 31 (.tmp 11) (.tmp 60) ?_); refine wpList_store_row (by rfl) 31 (.tmp 11) (.tmp 60) (by rfl) (w5.heap.size) (q.d.cs) (by rfl) (by rfl) 31 (#[.int .u8 0, .int .u8 0, .float .f64 0, .string ⟨#[]⟩, .int .i64 0, .int .u8 0, .float .f64 0, .string ⟨#[]⟩, .int .i64 0, .int .u8 0, .float .f64 0, .string ⟨#[]⟩, .int .i64 0, .bool false, .bool false, .bool false]) (by exact Z.out) (by kernel_rfl) (by rfl) (by exact DI.one _) ?_))
        have B6 := hidB (show Below w5.heap.size w5 ((w5.alloc (.cells (#[.int .u8 0, .int .u8 0, .float .f64 0, .string ⟨#[]⟩, .int .i64 0, .int .u8 0, .float .f64 0, .string ⟨#[]⟩, .int .i64 0, .int .u8 0, .float .f64 0, .string ⟨#[]⟩, .int .i64 0, .bool false, .bool false, .bool false]) 31)).setRow w5.heap.size (q.d.cs)) from below_setRow (box_one w5 _) (Nat.le_refl _) _)
        have Z6 := hidB (show Bk ((w5.alloc (.cells (#[.int .u8 0, .int .u8 0, .float .f64 0, .string ⟨#[]⟩, .int .i64 0, .int .u8 0, .float .f64 0, .string ⟨#[]⟩, .int .i64 0, .int .u8 0, .float .f64 0, .string ⟨#[]⟩, .int .i64 0, .bool false, .bool false, .bool false]) 31)).setRow w5.heap.size (q.d.cs)) w5.heap.size 31 (q.d.cs) from Z.out.setRow _)
        have GW6 := hidB (GW.out.on B6.out)
        have Y6 := hidB (Y5.out.on B6.out)
        have BS6 := hidB (BS5.out.trans (B6.out.mono BS5.out.size))
        generalize hW6 : ((w5.alloc (.cells (#[.int .u8 0, .int .u8 0, .float .f64 0, .string ⟨#[]⟩, .int .i64 0, .int .u8 0, .float .f64 0, .string ⟨#[]⟩, .int .i64 0, .int .u8 0, .float .f64 0, .string ⟨#[]⟩, .int .i64 0, .bool false, .bool false, .bool false]) 31)).setRow w5.heap.size (q.d.cs)) = w6 at *
        generalize hG6 : w5.heap.size = g6 at *
        clear hW6 hG6 Z GW Y5 BS5
        by_cases hd : (bits .and .u8 q.d.has 3 != 0) = true
        rotate_left
        · rw [Bool.not_eq_true] at hd
          have HD := hidB hd
          clear hd
          go_wp2_with (first | ((with_reducible refine ldId 31 (.tmp 11) ?_); refine wpList_wload_mid 31 (.tmp 11) (by rfl) (by rfl) (g6) 0 (by rfl) (q.d.cs.toList) _ (by exact Bk.mid Z6.out 0 _ rfl) Tryz.underlying31 (by rfl) (by kernel_rfl) ?_))
          refine (isData_any q.d _).mono ?_; rintro e w7 ⟨rfl, hb⟩
          rw [HD.out]
          have GW7 := hidB (GW6.out.on hb)
          have Z7 := hidB (Z6.out.on hb)
          have BS7 := hidB (BS6.out.trans (hb.mono BS6.out.size))
          clear hb GW6 Z6 Y6 BS6
          have BR := hidB (show Below w.heap.size w w7 from B.out.trans (BS7.out.mono B.out.size))
          go_wp2_with fail
          all_goals first | (exfalso; omega) | (go_ret; exact ⟨rfl, BR.out⟩)
        have HD := hidB hd
        clear hd
        go_wp2_with (first | ((with_reducible refine ldId 31 (.tmp 11) ?_); refine wpList_wload_mid 31 (.tmp 11) (by rfl) (by rfl) (g6) 0 (by rfl) (q.d.cs.toList) _ (by exact Bk.mid Z6.out 0 _ rfl) Tryz.underlying31 (by rfl) (by kernel_rfl) ?_))
        refine (isData_any q.d _).mono ?_; rintro e w7 ⟨rfl, hb⟩
        rw [HD.out]
        have GW7 := hidB (GW6.out.on hb)
        have Z7 := hidB (Z6.out.on hb)
        have BS7 := hidB (BS6.out.trans (hb.mono BS6.out.size))
        clear hb GW6 Z6 Y6 BS6
        go_wp2_with (first | ((with_reducible refine ldId 29 (.tmp 76) ?_); refine wpList_load_mid (by rfl) 29 (.tmp 76) (by rfl) (g6) 1 (by rfl) (q.d.v.cells) _ (by exact Bk.mid Z7.out 1 _ rfl) Tryz.underlying29 (by rfl) (by kernel_rfl) ?_) | ((with_reducible refine stId 29 (.tmp 9) (.tmp 77) ?_); refine wpList_store_row (by rfl) 29 (.tmp 9) (.tmp 77) (by rfl) (w3.heap.size) (q.d.v.cells.toArray) (by rfl) (by rfl) 29 (VI.zero.cells.toArray) (by exact GW7.out) (by kernel_rfl) (by rfl) (by exact vi_one1 _) ?_))
        all_goals first | (exfalso; omega) | skip
        go_meet
        case rel => exact ⟨i, x, q.d.v, by omega, WAY.out, HEV.out HKD.out _ (.inl ⟨q, HQ.out, HD.out, rfl⟩), GW7.out.setRow _, below_setRow BS7.out (Nat.le_refl _) _⟩
  case rest =>
    obtain ⟨i, y, v, hi, hway, hend, hg, hb⟩ := hcut
    obtain ⟨hxx, hbeg, hgood⟩ := good_get (v := v) (i := i) (x := x0) (y := y) (a := { a with args := av }) HOK.out HC.out H8.out HX0.out HAV.out hway hend hi
    generalize alongB (h[x0]'hxx) { a with args := av } = r at hbeg hgood
    have HBEG := hidB hbeg
    have HGOOD := hidB hgood
    have HMAY := hidB (hend.may HOK.out HC.out)
    have GW := hidB hg
    have BS := hidB hb
    have Y4 := hidB (Y.out.on hb)
    clear hbeg hgood hway hend hg hb hi
    have y0 : wc.cell? ⟨w.heap.size, 0, none⟩ = some (.slice (some ⟨g, o, none⟩) h.length c) := Y4.out.cell 0
    go_wp2_with (first | ((with_reducible refine ldId 24 (.tmp 2) ?_); refine wpList_load_row (by rfl) 24 (.tmp 2) (by rfl) (w.heap.size) (by rfl) 24 (#[(.slice (some ⟨g, o, none⟩) h.length c)]) (0, 0) _ (by exact Y4.out) Tryz.underlying24 (by rfl) (by kernel_rfl) ?_))
    refine (next1_any h' hv' w3 gw gw T { a with args := av } 1 200 (doneI v) (1 + i) r OI.zero (.slice (some ⟨g, o, none⟩) h.length c) wc HRD2.out (by rw [bareH_length HBA.out]; have := H40.out; omega) (bare_props HBA.out (chk_len HC.out)) (HBEG.out.bare HBA.out) (by decide) (by decide) (fun tk ht => (HGOOD.out tk ht).bare HBA.out) rfl HGT.out (HT2.out.on BS.out) (HW2.out.on BS.out) (BS.out.mono HGW2.out) (Nat.le_trans HGW2.out BS.out.size)).mono ?_; rintro e w10 ⟨hx, vx, qx, cx, rfl, hbx2, hrx, hbx, hkx⟩
    have HRX := hidB hrx
    obtain ⟨⟨pa, cx2, rfl, _⟩, _⟩ := hrx
    have HBX := hidB hbx
    have HBX2 := hidB hbx2
    have GW10 := hidB (GW.out.kept hkx (by have := HT2.out.lt; omega))
    have Y10 := hidB (Y4.out.kept hkx (by have h1 := HGT.out; have h2 := HGW1.out; have h3 := HG0.out; omega))
    have HS10 := hidB hkx.size
    have RW := hidB (show Bk ((w10.alloc (.cells #[(.slice pa hx.length cx2)] 24)).alloc (.cells Tryz.zeroCells51 51)) (w10.heap.size + 1) 51 WI.zero.cs from Bk.new2 w10 _ _ _)
    clear hbx hbx2 hkx y0
    go_upto_region 22 with (first | ((with_reducible refine stId 51 (.tmp 15) (.tmp 99) ?_); refine wpList_store_row (by rfl) 51 (.tmp 15) (.tmp 99) (by rfl) (w10.heap.size + 1) ((endW (doneI v)).cs) (by rfl) (by rfl) 51 (WI.zero.cs) (by exact RW.out) (by kernel_rfl) (by rfl) (by exact (WI.one _ rfl rfl rfl rfl)) ?_))
    have BX := hidB (show Below w10.heap.size w10 (((w10.alloc (.cells #[(.slice pa hx.length cx2)] 24)).alloc (.cells Tryz.zeroCells51 51)).setRow (w10.heap.size + 1) (endW (doneI v)).cs) from below_setRow ((box_one w10 _).alloc (by simp) _) (Nat.le_succ _) _)
    have RW2 := hidB (show Bk (((w10.alloc (.cells #[(.slice pa hx.length cx2)] 24)).alloc (.cells Tryz.zeroCells51 51)).setRow (w10.heap.size + 1) (endW (doneI v)).cs) (w10.heap.size + 1) 51 (endW (doneI v)).cs from RW.out.setRow _)
    have HB1 := hidB (show Bk (((w10.alloc (.cells #[(.slice pa hx.length cx2)] 24)).alloc (.cells Tryz.zeroCells51 51)).setRow (w10.heap.size + 1) (endW (doneI v)).cs) w10.heap.size 24 #[(.slice pa hx.length cx2)] from ((Bk.new w10 _ _).alloc _).setRow_far (by omega) _)
    have Y5 := hidB (Y10.out.on BX.out)
    have G5 := hidB (GW10.out.on BX.out)
    have BL := hidB (show Below w.heap.size w (((w10.alloc (.cells #[(.slice pa hx.length cx2)] 24)).alloc (.cells Tryz.zeroCells51 51)).setRow (w10.heap.size + 1) (endW (doneI v)).cs) from (B.out.trans (HBX.out.mono (Nat.le_trans (Nat.le_of_lt HG0.out) HGW1.out))).trans (BX.out.mono (Nat.le_trans B.out.size (Nat.le_trans BS.out.size HS10.out))))
    have HRA5 := hidB (HRX.out.on BX.out)
    have HRB5 := hidB (HRD.out _ BL.out)
    clear RW Y4 Y10 GW10 GW BX HRX HBX HS10 HRD HRD2 HRD3
    generalize hW : (((w10.alloc (.cells #[(.slice pa hx.length cx2)] 24)).alloc (.cells Tryz.zeroCells51 51)).setRow (w10.heap.size + 1) (endW (doneI v)).cs) = w11 at *
    generalize hG : w10.heap.size = g10 at *
    clear hW hG
    have z0 : w11.cell? ⟨g10 + 1, 0, none⟩ = some (.int .u8 7) := RW2.out.cell 0
    have z61 : w11.cell? ⟨g10 + 1, 61, none⟩ = some (.int .u8 1) := RW2.out.cell 61
    go_wp2_with (first | ((with_reducible refine ldId 29 (.tmp 117) ?_); refine wpList_wload_mid 29 (.tmp 117) (by rfl) (by rfl) (g10 + 1) 62 (by rfl) (v.cells) _ (by exact Bk.mid RW2.out 62 _ rfl) Tryz.underlying29 (by rfl) (by kernel_rfl) ?_) | ((with_reducible refine ldId 29 (.tmp 9) ?_); refine wpList_wload_mid 29 (.tmp 9) (by rfl) (by rfl) (w3.heap.size) 0 (by rfl) (v.cells) _ (by exact Bk.mid G5.out 0 _ rfl) Tryz.underlying29 (by rfl) (by kernel_rfl) ?_))
    refine (same_any v.k v.x v.s v.r v.k v.x v.s v.r HMAY.out.2 _).mono ?_; rintro e w12 ⟨rfl, hb⟩
    rw [sameV_refl HMAY.out.1]
    have HRA6 := hidB (HRA5.out.on hb)
    have HRB6 := hidB (HRB5.out.on hb)
    have HB6 := hidB (HB1.out.on hb)
    have Y6 := hidB (Y5.out.on hb)
    have BL6 := hidB (BL.out.trans (hb.mono BL.out.size))
    clear hb z0 z61 RW2 HB1 Y5 G5 BL HRA5 HRB5
    go_wp2_with (first | ((with_reducible refine ldId 24 (.tmp 14) ?_); refine wpList_wload_mid 24 (.tmp 14) (by rfl) (by rfl) (g10) 0 (by rfl) ([(.slice pa hx.length cx2)]) _ (by exact Bk.mid HB6.out 0 _ rfl) Tryz.underlying24 (by rfl) (by kernel_rfl) ?_) | ((with_reducible refine ldId 24 (.tmp 2) ?_); refine wpList_wload_mid 24 (.tmp 2) (by rfl) (by rfl) (w.heap.size) 0 (by rfl) ([(.slice (some ⟨g, o, none⟩) h.length c)]) _ (by exact Bk.mid Y6.out 0 _ rfl) Tryz.underlying24 (by rfl) (by kernel_rfl) ?_))
    all_goals first | (exfalso; omega) | skip
    refine (rsameH_self hx h (HBX2.out.trans HBA.out).symm (.slice pa hx.length cx2) (.slice (some ⟨g, o, none⟩) h.length c) _ HRA6.out HRB6.out).mono ?_; rintro e w13 ⟨rfl, hb⟩
    have BL7 := hidB (BL6.out.trans (hb.mono BL6.out.size))
    clear hb
    go_wp2_with fail
    go_ret
    exact ⟨rfl, BL7.out⟩

end Go.Proofs.YtbmaodlghglopaaGreatDoor
