/-
  The walk of CallMakes.
-/
import Derived.Test.YtbkjbpefbdoenaaMakesPlain
namespace Go.Proofs.Ytbkjbpefbdoenaa
open Go.RowKit

theorem bodyE_or (f tg pr : VI) (args : List VI) : bodyE f tg pr args = 0 ∨ bodyE f tg pr args = 9 ∨ bodyE f tg pr args = 4 := by
  unfold bodyE wrongE
  split
  · split
    · exact .inr (.inl rfl)
    · split
      · exact .inr (.inr rfl)
      · split
        · exact .inr (.inl rfl)
        · exact .inl rfl
  · exact .inr (.inl rfl)
theorem OutOk.on {e : OI × List KI} {w w' : World} (h : OutOk e w) (hb : Below w.heap.size w w') : OutOk e w' := ⟨h.1, h.2.1, h.2.2.on hb⟩
theorem Stage.few {k : Nat} {q : Q} (h : Stage k q) : q.few := by
  rcases h with ⟨_, rfl⟩ | ⟨_, h3, L, rfl, hl, _⟩
  · trivial
  · show L.length < 899; omega
/-- The head of the loop. -/
def MLoop (S : List (OI × List KI) → Res) (T gO k : Nat) (w wr : World) : Prop := ∃ x ks q A, Bk wr gO 36 (OI.cs x) ∧ OutOk (x, ks) wr ∧ TaskW S T q A wr ∧ Stage k q ∧ ¬ A gO ∧ (∀ j, A j → w.heap.size ≤ j) ∧ Below w.heap.size w wr ∧ w.heap.size ≤ gO

set_option maxHeartbeats 8000000 in
set_option maxRecDepth 100000 in
theorem law_makes (f tg pr : VI) (args : List VI) (l : List (OI × List KI)) (va vl : Value) (w : World) (hf : 0 ≤ f.k) (htg : 0 ≤ tg.k) (hpr : 0 ≤ pr.k) (ha : okV args) (ra : RdL VI.cells 4 args va w) (rl : RdL (fun e : OI × List KI => e.1.cs.toList) 26 l vl w) (ol : ∀ e ∈ l, OutOk e w) : Calls Try.prog 3 #[f.a, tg.a, pr.a, va, vl] w fun e w' => e = .returned (.bool true) ∧ Below w.heap.size w w' := by
  have BA := hidB (fun W (hb : Below w.heap.size w W) => body_any f tg pr args hf htg hpr ha va W (ra.on hb))
  have RL := hidB (fun W (hb : Below w.heap.size w W) => rl.on hb)
  have OL := hidB ol
  obtain ⟨pa, ca, rfl, _⟩ := ra
  obtain ⟨pl, cl, rfl, _, hl2, _⟩ := rl
  unfold maxLen at hl2
  have hlm : l.length ≤ 9223372036854775807 := by omega
  clear hf htg hpr ha ol hl2
  have X0 := hidB (show Bk (((w.alloc (.cells (f.cells.toArray) 24)).alloc (.cells (tg.cells.toArray) 24)).alloc (.cells (pr.cells.toArray) 24)) (w.heap.size) 24 (f.cells.toArray) from ((Bk.new w _ _).alloc _).alloc _)
  have X1 := hidB (show Bk (((w.alloc (.cells (f.cells.toArray) 24)).alloc (.cells (tg.cells.toArray) 24)).alloc (.cells (pr.cells.toArray) 24)) (w.heap.size + 1) 24 (tg.cells.toArray) from (Bk.new2 w _ _ _).alloc _)
  have X2 := hidB (show Bk (((w.alloc (.cells (f.cells.toArray) 24)).alloc (.cells (tg.cells.toArray) 24)).alloc (.cells (pr.cells.toArray) 24)) (w.heap.size + 1 + 1) 24 (pr.cells.toArray) from Bk.new3 w _ _ _ _)
  have B := hidB (show Below w.heap.size w (((w.alloc (.cells (f.cells.toArray) 24)).alloc (.cells (tg.cells.toArray) 24)).alloc (.cells (pr.cells.toArray) 24)) from ((box_one w _).alloc (by simp) _).alloc (by simp <;> omega) _)
  go_enter Try.func3, Try.ntmps3
  go_upto_region 1 with fail
  generalize hW : (((w.alloc (.cells (f.cells.toArray) 24)).alloc (.cells (tg.cells.toArray) 24)).alloc (.cells (pr.cells.toArray) 24)) = w1 at *
  clear hW
  go_wp2_with fail
  refine (alive_any _).mono ?_; rintro e w2 ⟨rfl, hb⟩
  replace X0 := hidB (X0.out.on hb)
  replace X1 := hidB (X1.out.on hb)
  replace X2 := hidB (X2.out.on hb)
  replace B := hidB (B.out.trans (hb.mono B.out.size))
  clear hb
  go_wp2_with (first | ((with_reducible refine ldId 24 (.tmp 5) ?_); refine wpList_load_row (by rfl) 24 (.tmp 5) (by rfl) (w.heap.size) (by rfl) 24 (f.cells.toArray) (0, 0) _ (by exact X0.out) Try.underlying24 (by rfl) (by kernel_rfl) ?_) | ((with_reducible refine ldId 24 (.tmp 6) ?_); refine wpList_load_row (by rfl) 24 (.tmp 6) (by rfl) (w.heap.size + 1) (by rfl) 24 (tg.cells.toArray) (0, 0) _ (by exact X1.out) Try.underlying24 (by rfl) (by kernel_rfl) ?_) | ((with_reducible refine ldId 24 (.tmp 7) ?_); refine wpList_load_row (by rfl) 24 (.tmp 7) (by rfl) (w.heap.size + 1 + 1) (by rfl) 24 (pr.cells.toArray) (0, 0) _ (by exact X2.out) Try.underlying24 (by rfl) (by kernel_rfl) ?_))
  refine (BA.out _ B.out).mono ?_; rintro e w3 (⟨hne, rfl, hb⟩ | ⟨_, T, A, rfl, hT, hb, hA⟩)
  · replace B := hidB (B.out.trans (hb.mono B.out.size))
    clear hb BA RL X0 X1 X2
    rcases bodyE_or f tg pr args with he | he | he
    · exact absurd he hne
    · rw [he]
      clear he hne
      go_wp2_with fail
      go_ret
      exact ⟨rfl, B.out⟩
    · rw [he]
      clear he hne
      go_wp2_with fail
      go_ret
      exact ⟨rfl, B.out⟩
  have HT := hidB hT
  have HA := hidB (fun j hj => Nat.le_trans B.out.size (hA j hj))
  replace B := hidB (B.out.trans (hb.mono B.out.size))
  clear hb hT hA BA X0 X1 X2
  have R := hidB (show Bk (w3.alloc (.cells #[.int .u8 0, .int .u8 0, .float .f64 0, .string ⟨#[]⟩, .int .i64 0, .bool false, .bool false, .int .u8 0, .int .u8 0, .float .f64 0, .string ⟨#[]⟩, .int .i64 0, .int .u8 0, .float .f64 0, .string ⟨#[]⟩, .int .i64 0, .int .u8 0, .float .f64 0, .string ⟨#[]⟩, .int .i64 0, .bool false, .bool false, .bool false, .slice none 0 0, .int .u8 0, .string ⟨#[]⟩] 36)) w3.heap.size 36 OI.zero.cs from Bk.new w3 _ _)
  go_upto_region 8 with (first | ((with_reducible refine wpId ?_); refine wpList_build_to (by rfl) 36 _ (by rfl) (OI.zero.cs) (by kernel_rfl) ?_) | ((with_reducible refine stId 36 (.tmp 14) (.tmp 48) ?_); refine wpList_store_row (by rfl) 36 (.tmp 14) (.tmp 48) (by rfl) (w3.heap.size) (OI.zero.cs) (by rfl) (by rfl) 36 (OI.zero.cs) (by exact R.out) (by kernel_rfl) (by rfl) (by exact OI.one _ rfl) ?_))
  have HLOOP := hidB (show MLoop (bodyS f tg pr args) T w3.heap.size 0 w ((w3.alloc (.cells #[.int .u8 0, .int .u8 0, .float .f64 0, .string ⟨#[]⟩, .int .i64 0, .bool false, .bool false, .int .u8 0, .int .u8 0, .float .f64 0, .string ⟨#[]⟩, .int .i64 0, .int .u8 0, .float .f64 0, .string ⟨#[]⟩, .int .i64 0, .int .u8 0, .float .f64 0, .string ⟨#[]⟩, .int .i64 0, .bool false, .bool false, .bool false, .slice none 0 0, .int .u8 0, .string ⟨#[]⟩] 36)).setRow w3.heap.size OI.zero.cs) from ⟨OI.zero, [], .fresh, A, R.out.setRow _, ⟨⟨by decide, by decide, by decide⟩, by decide, RdL.nil _ _ _⟩, HT.out.keep (by simp [World.setRow]) (fun k hk => (heap_setRow _ (Nat.ne_of_lt (HT.out.lt k hk)) _).trans (Below.heap_alloc w3 _ k (HT.out.lt k hk))), .inl ⟨rfl, rfl⟩, fun h => Nat.lt_irrefl _ (HT.out.lt _ h), HA.out, below_setRow (B.out.alloc B.out.size _) B.out.size _, B.out.size⟩)
  clear R HT HA B
  generalize hW : ((w3.alloc (.cells #[.int .u8 0, .int .u8 0, .float .f64 0, .string ⟨#[]⟩, .int .i64 0, .bool false, .bool false, .int .u8 0, .int .u8 0, .float .f64 0, .string ⟨#[]⟩, .int .i64 0, .int .u8 0, .float .f64 0, .string ⟨#[]⟩, .int .i64 0, .int .u8 0, .float .f64 0, .string ⟨#[]⟩, .int .i64 0, .bool false, .bool false, .bool false, .slice none 0 0, .int .u8 0, .string ⟨#[]⟩] 36)).setRow w3.heap.size OI.zero.cs) = w5 at *
  clear hW
  generalize hG : w3.heap.size = gO at *
  clear hG
  go_wp2_with fail
  go_loopw [15] (fun s15 wr => ∃ k : Nat, k ≤ 3 ∧ s15 = .int .i64 k ∧ MLoop (bodyS f tg pr args) T gO k w wr) (fun i _ => 4 - (intOf i).toNat)
  case atStart => exact ⟨0, by omega, rfl, HLOOP.out⟩
  case round =>
    obtain ⟨k, hk, rfl, x, ks, q, A, hO, hOk, hT, hst, hgO, hA, hb, hB⟩ := hrel
    have hx1 : (k : Int) ≤ 3 := by omega
    have hx2 : (0 : Int) ≤ (k : Int) := by omega
    have XO := hidB hO
    have B := hidB hb
    have HK1 := hidB (hOk.2.2.one)
    have HKB := hidB hB
    have HAB := hidB hA
    have HGO := hidB hgO
    have HST := hidB hst
    have HBS := hidB hb.size
    have HK0 := hidB hOk.2.1
    have NX := hidB (task_next (bodyS f tg pr args) T q A x ks wr hT hst.few hOk.1 hOk.2.1 hOk.2.2)
    clear HLOOP hO hOk hT hst hgO hA hb hB
    go_wp2_with (first | ((with_reducible refine ldId 36 (.tmp 14) ?_); refine wpList_load_row (by rfl) 36 (.tmp 14) (by rfl) (gO) (by rfl) 36 (x.cs) (0, 0) _ (by exact XO.out) Try.underlying36 (by rfl) (by kernel_rfl) ?_))
    refine NX.out.mono ?_; rintro e w6 ⟨wt, n, rfl, hone, hnx⟩
    have HONE := hidB hone
    clear hone NX
    have R := hidB (show Bk (w6.alloc (.cells Try.zeroCells45 45)) w6.heap.size 45 WI.zero.cs from Bk.new w6 _ _)
    have W8 := hidB (show Bk ((w6.alloc (.cells Try.zeroCells45 45)).setRow w6.heap.size wt.cs) w6.heap.size 45 wt.cs from R.out.setRow _)
    unfold TNextC at hnx
    cases hn : nextQ (bodyS f tg pr args) x ks q with
    | none =>
      rw [hn] at hnx
      obtain ⟨rfl, hz, hb⟩ := hnx
      clear hz
      have B8 := hidB (show Below w.heap.size w ((w6.alloc (.cells Try.zeroCells45 45)).setRow w6.heap.size wt.cs) from below_setRow ((B.out.trans (hb.mono B.out.size)).alloc (Nat.le_trans B.out.size hb.size) _) (Nat.le_trans B.out.size hb.size) _)
      clear hb hn
      go_wp2_with (first | ((with_reducible refine stId 45 (.tmp 16) (.tmp 57) ?_); refine wpList_store_row (by rfl) 45 (.tmp 16) (.tmp 57) (by rfl) (w6.heap.size) (wt.cs) (by rfl) (by rfl) 45 (WI.zero.cs) (by exact R.out) (by kernel_rfl) (by rfl) (by exact HONE.out) ?_))
      go_ret
      exact ⟨rfl, B8.out⟩
    | some L' =>
      rw [hn] at hnx
      obtain ⟨rfl, mid, hm, hw, hk2, hT2⟩ := hnx
      have HCO := hidB (body_step HST.out hn)
      have HW := hidB hw
      have HT2 := hidB hT2
      have HM := hidB hm
      have HGL := hidB XO.out.lt
      replace XO := hidB (show Bk ((w6.alloc (.cells Try.zeroCells45 45)).setRow w6.heap.size wt.cs) gO 36 x.cs from ((XO.out.kept hk2 HGO.out).alloc _).setRow_far (Nat.ne_of_gt (Nat.lt_of_lt_of_le HGL.out hk2.size)) _)
      have B6 := hidB (show Below w.heap.size w w6 from B.out.trans (hk2.toBelow B.out.size HAB.out))
      have B8 := hidB (show Below w.heap.size w ((w6.alloc (.cells Try.zeroCells45 45)).setRow w6.heap.size wt.cs) from below_setRow (B6.out.alloc B6.out.size _) B6.out.size _)
      have HT8 := hidB (HT2.out.keep (w' := ((w6.alloc (.cells Try.zeroCells45 45)).setRow w6.heap.size wt.cs)) (by simp [World.setRow]) (fun k hk => (heap_setRow _ (Nat.ne_of_lt (HT2.out.lt k hk)) _).trans (Below.heap_alloc w6 _ k (HT2.out.lt k hk))))
      clear hm hw hk2 hT2 hn B HST HT2 B6
      go_upto_region 12 with (first | ((with_reducible refine stId 45 (.tmp 16) (.tmp 57) ?_); refine wpList_store_row (by rfl) 45 (.tmp 16) (.tmp 57) (by rfl) (w6.heap.size) (wt.cs) (by rfl) (by rfl) 45 (WI.zero.cs) (by exact R.out) (by kernel_rfl) (by rfl) (by exact HONE.out) ?_))
      clear R
      generalize hW : ((w6.alloc (.cells Try.zeroCells45 45)).setRow w6.heap.size wt.cs) = w8 at *
      clear hW
      generalize hG : w6.heap.size = g6 at *
      clear hG
      rcases HCO.out with ⟨hk2, ⟨WW, wl, hS, hne⟩, hst⟩ | ⟨hmay, y, ky, hS, hcase⟩
      · have hwt : wt.kd ≠ 7 := by
          have := HW.out
          rw [hS] at this
          obtain ⟨av, rfl, _⟩ := this
          exact hne av
        have hw1 : (wt.kd == 7) = false := by rw [beq_eq_false_iff_ne]; exact hwt
        have x0 : w8.cell? ⟨g6, 0, none⟩ = some (.int .u8 wt.kd) := W8.out.cell 0
        have HQ := hidB (show ((bodyS f tg pr args L').q L') = .wait L' by rw [hS]; rfl)
        have HS2 := hidB hst
        have HK2 := hidB hk2
        clear hwt hS hne hst hk2 HW HCO
        by_cases hlt : k < l.length
        rotate_left
        · have hx3 : (l.length : Int) ≤ (k : Int) := by omega
          go_wp2_with fail
          go_ret
          exact ⟨rfl, B8.out⟩
        have hx3 : ¬ (l.length : Int) ≤ (k : Int) := by omega
        have hx4 : (k : Int) < (l.length : Int) := by omega
        have hRL := RL.out w8 B8.out
        obtain ⟨_, _, e0, _, _, hcell⟩ := hRL
        obtain ⟨g, o, rfl, hg, hcell⟩ := hcell (by omega)
        injection e0 with e1 e2 e3
        subst e1
        have HR := hidB (hcell k hlt)
        have HOE := hidB (OutOk.on (OL.out l[k] (List.getElem_mem hlt)) B8.out)
        clear hcell hg e2 e3
        have HGA := hidB (show ¬ (A gO ∨ (wr.heap.size ≤ gO ∧ gO < mid)) from fun h => by rcases h with h | h; exact HGO.out h; exact absurd HGL.out (Nat.not_lt.2 h.1))
        have HA2 := hidB (show ∀ j, (A j ∨ (wr.heap.size ≤ j ∧ j < mid)) → w.heap.size ≤ j from fun j h => by rcases h with h | h; exact HAB.out j h; exact Nat.le_trans HBS.out h.1)
        have HOE2 := hidB (OL.out l[k] (List.getElem_mem hlt))
        generalize l[k]'hlt = y0 at *
        go_wp2_with (first | ((with_reducible refine ldId 36 (.tmp 113) ?_); refine wpList_load_mid (by rfl) 36 (.tmp 113) (by rfl) g (o + k * 26) (by rfl) y0.1.cs.toList _ (by exact HR.out) Try.underlying36 (by rfl) (by kernel_rfl) ?_) | ((with_reducible refine stId 36 (.tmp 14) (.tmp 114) ?_); refine wpList_store_row (by rfl) 36 (.tmp 14) (.tmp 114) (by rfl) (gO) (y0.1.cs) (by rfl) (by rfl) 36 (x.cs) (by exact XO.out) (by kernel_rfl) (by rfl) (by exact OI.one _ HOE.out.2.2.one) ?_))
        go_roundw
        case rel => exact ⟨k + 1, by have := HK2.out; omega, by go_num, y0.1, y0.2, _, _, XO.out.setRow _, HOE2.out.on (below_setRow B8.out HKB.out _), (HQ.out ▸ HT8.out).keep (by simp [World.setRow]) (fun j hj => heap_setRow _ (by rintro rfl; exact HGA.out hj) _), HS2.out, HGA.out, HA2.out, below_setRow B8.out HKB.out _, HKB.out⟩
        case measure => simp [intOf]; omega
      · have hWT := HW.out
        rw [hS] at hWT
        obtain ⟨_, _, kv, hwt, _⟩ := hWT
        subst hwt
        have x0 : w8.cell? ⟨g6, 0, none⟩ = some (.int .u8 7) := W8.out.cell 0
        have HMAY := hidB hmay
        clear hS HW HCO hmay RL OL
        rcases hcase with ⟨h1, h2, h3⟩ | ⟨h1, h2, h3⟩
        · have c0 : w8.cell? ⟨g6, 61, none⟩ = some (.int .u8 2) := by rw [← h2]; exact W8.out.cell 61
          have d0 : w8.cell? ⟨gO, 0, none⟩ = some (.int .u8 2) := by rw [← h1]; exact XO.out.cell 0
          have HV := hidB h3
          clear h1 h2 h3
          go_wp2_with (first | ((with_reducible refine ldId 24 (.tmp 98) ?_); refine wpList_wload_mid 24 (.tmp 98) (by rfl) (by rfl) (g6) 62 (by rfl) (y.v.cells) _ (by exact Bk.mid W8.out 62 _ rfl) Try.underlying24 (by rfl) (by kernel_rfl) ?_) | ((with_reducible refine ldId 24 (.tmp 100) ?_); refine wpList_wload_mid 24 (.tmp 100) (by rfl) (by rfl) (gO) 1 (by rfl) (x.v.cells) _ (by exact Bk.mid XO.out 1 _ rfl) Try.underlying24 (by rfl) (by kernel_rfl) ?_))
          rw [HV.out]
          refine (same_any x.v.k x.v.x x.v.s x.v.r x.v.k x.v.x x.v.s x.v.r (HK0.out) _).mono ?_; rintro e w9 ⟨rfl, hb⟩
          rw [sameV_refl HMAY.out]
          replace B8 := hidB (B8.out.trans (hb.mono B8.out.size))
          clear hb
          go_wp2_with fail
          go_ret
          exact ⟨rfl, B8.out⟩
        · have c0 : w8.cell? ⟨g6, 61, none⟩ = some (.int .u8 1) := by rw [← h2]; exact W8.out.cell 61
          have d0 : w8.cell? ⟨gO, 0, none⟩ = some (.int .u8 1) := by rw [← h1]; exact XO.out.cell 0
          have HV := hidB h3
          clear h1 h2 h3
          go_wp2_with (first | ((with_reducible refine ldId 24 (.tmp 77) ?_); refine wpList_wload_mid 24 (.tmp 77) (by rfl) (by rfl) (g6) 62 (by rfl) (y.v.cells) _ (by exact Bk.mid W8.out 62 _ rfl) Try.underlying24 (by rfl) (by kernel_rfl) ?_))
          refine (isObjB_any y.v _).mono ?_; rintro e w9 ⟨rfl, hb⟩
          rw [HV.out]
          replace d0 : w9.cell? ⟨gO, 0, none⟩ = some (.int .u8 1) := (World.cell?_of_block (hb.block gO XO.out.lt)).trans d0
          replace B8 := hidB (B8.out.trans (hb.mono B8.out.size))
          clear hb c0 x0
          go_wp2_with fail
          go_ret
          exact ⟨rfl, B8.out⟩

end Go.Proofs.Ytbkjbpefbdoenaa
