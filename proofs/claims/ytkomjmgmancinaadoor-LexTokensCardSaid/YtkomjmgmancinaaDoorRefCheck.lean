/-
  The reference's Check of tokens.
-/
import Derived.Test.YtkomjmgmancinaaDoorRefMayTok
import Derived.Test.YtkomjmgmancinaaDoorLexGo
namespace Go.Proofs.YtkomjmgmancinaaDoor
open Go.RowKit

/-- What is wrong with tokens. -/
def chkR (l : List TI) : Int :=
  if 16385 < l.length then 4 else if (l.getLast?.map endB).getD false = false then 5 else if l.dropLast.all mayB = false then 5 else 0
theorem writeR_bad1 {l : List TI} (h : chkR l ≠ 0) : writeR l = ([], chkR l) := by
  unfold chkR at h ⊢
  unfold writeR
  split
  · rfl
  · split
    · rfl
    · split
      · rfl
      · rename_i h1 h2 h3
        rw [if_neg h1, if_neg h2, if_neg h3] at h
        exact absurd rfl h
theorem writeR_good {l : List TI} (h : chkR l = 0) : writeR l = match writeGo l.dropLast true [] with | none => ([], 3) | some s => (s, 0) := by
  unfold chkR at h
  unfold writeR
  split
  · rename_i h1; rw [if_pos h1] at h; cases h
  · rename_i h1
    rw [if_neg h1] at h
    split
    · rename_i h2; rw [if_pos h2] at h; cases h
    · rename_i h2
      rw [if_neg h2] at h
      split
      · rename_i h3; rw [if_pos h3] at h; cases h
      · rfl
theorem chk_good {l : List TI} (h : chkR l = 0) : l.length ≤ 16385 ∧ 0 < l.length ∧ l.dropLast.all mayB = true := by
  unfold chkR at h
  split at h
  · cases h
  · split at h
    · cases h
    · rename_i h1 h2
      split at h
      · cases h
      · rename_i h3
        refine ⟨by omega, ?_, by simpa using h3⟩
        cases l with
        | nil => exact absurd rfl h2
        | cons a l => simp
def ChkQ (ts : List TI) (w : World) (e : Ending) (w' : World) : Prop := e = .returned (.int .i64 (chkR ts)) ∧ Below w.heap.size w w'
theorem chkQ_of {ts : List TI} {w : World} {k : Int} (h : chkR ts = k) {e : Ending} {w' : World} (he : e = .returned (.int .i64 k)) (hb : Below w.heap.size w w') : ChkQ ts w e w' := by
  unfold ChkQ; rw [h]; exact ⟨he, hb⟩

set_option maxRecDepth 100000 in
theorem refCheck_none (c : Nat) (pa : Option Addr) (w : World) : Calls Tryd.prog 30 #[.slice pa 0 c] w (ChkQ [] w) := by
  go_enter Tryd.func30, Tryd.ntmps30
  go_wp2_with fail
  go_ret
  exact chkQ_of (k := 5) rfl rfl (Below.refl _ _)

set_option maxRecDepth 100000 in
theorem refCheck_many (ts : List TI) (h : 16385 < ts.length) (hl : ts.length ≤ maxLen) (c : Nat) (pa : Option Addr) (w : World) : Calls Tryd.prog 30 #[.slice pa ts.length c] w (ChkQ ts w) := by
  have e : chkR ts = 4 := by unfold chkR; rw [if_pos h]
  have He := hidB e
  clear e
  have hx : (16385 : Int) < (ts.length : Int) := by omega
  unfold maxLen at hl
  go_enter Tryd.func30, Tryd.ntmps30
  go_wp2_with fail
  go_ret
  exact chkQ_of He.out rfl (Below.refl _ _)

theorem endC_none {ts : List TI} (h0 : 0 < ts.length) (h1 : ts.length ≤ 16385) (h : endB ts[ts.length - 1] = false) : chkR ts = 5 := by
  unfold chkR
  have hg : ts.getLast? = some ts[ts.length - 1] := by rw [List.getLast?_eq_getElem?, List.getElem?_eq_getElem]
  rw [if_neg (by omega), if_pos (by rw [hg]; exact h)]

set_option maxHeartbeats 4000000 in
set_option maxRecDepth 100000 in
theorem refCheck_end (ts : List TI) (m : Nat) (hm : ts.length = m + 1) (h1 : ts.length ≤ 16385) (g o c : Nat) (w : World) (hr : w.rangeAt g (o + m * 4) (ts[m]'(by omega)).cells) (h : endB (ts[m]'(by omega)) = false) : Calls Tryd.prog 30 #[.slice (some ⟨g, o, none⟩) (m + 1) c] w (ChkQ ts w) := by
  have e : chkR ts = 5 := endC_none (by omega) h1 (by rw [show ts[ts.length - 1]'(by omega) = ts[m]'(by omega) by congr 1; omega]; exact h)
  have He := hidB e
  clear e
  obtain ⟨r0, r1, r2, r3⟩ := RdT.four hr
  clear hr
  unfold endB at h
  have hm4 : m ≤ 16384 := by omega
  have hm5 : ¬ (16385 : Int) < (m : Int) + 1 := by omega
  have hm6 : (((m : Int) + 1) == 0) = false := by rw [beq_eq_false_iff_ne]; omega
  have hm7 : (m : Int) + 1 - 1 = (m : Int) := by omega
  clear h1
  generalize (ts[m]'(by omega)) = t at *
  obtain ⟨k, p, s, x⟩ := t
  simp only at r0 r1 r2 r3 h
  by_cases hk : k = 0
  · subst hk
    by_cases hs : s.toList.isEmpty = true
    · have hx : (FloatKind.f64.format.order x 0 != some .eq) = true := by
        rw [isE] at hs
        rw [hs] at h
        unfold eq0 at h
        simpa [bne] using h
      clear h
      go_enter Tryd.func30, Tryd.ntmps30
      go_wp2_with fail
      go_ret
      exact chkQ_of He.out rfl (Below.refl _ _)
    · have hs2 : s.toList.isEmpty = false := by simpa using hs
      clear h hs
      go_enter Tryd.func30, Tryd.ntmps30
      go_wp2_with fail
      go_ret
      exact chkQ_of He.out rfl (Below.refl _ _)
  · have hk2 : (k != 0) = true := by rw [bne_iff_ne]; exact hk
    clear h hk
    go_enter Tryd.func30, Tryd.ntmps30
    go_wp2_with fail
    go_ret
    exact chkQ_of He.out rfl (Below.refl _ _)

theorem chkR_not {ts : List TI} {m k : Nat} (hm : ts.length = m + 1) (h1 : ts.length ≤ 16385) (he : endB (ts[m]'(by omega)) = true) (hk : k < m) (ha : mayB (ts[k]'(by omega)) = false) : chkR ts = 5 := by
  have h := writeR_not hm h1 he hk ha
  by_cases h0 : chkR ts = 0
  · rw [writeR_good h0] at h
    split at h <;> cases h
  · rw [writeR_bad1 h0] at h
    exact (Prod.mk.inj h).2
theorem chkR_ok {ts : List TI} {m : Nat} (hm : ts.length = m + 1) (h1 : ts.length ≤ 16385) (he : endB (ts[m]'(by omega)) = true) (ha : (ts.take m).all mayB = true) : chkR ts = 0 := by
  unfold chkR
  have hg : ts.getLast? = some (ts[m]'(by omega)) := by rw [List.getLast?_eq_getElem?, show ts.length - 1 = m by omega, List.getElem?_eq_getElem]
  have hd : ts.dropLast = ts.take m := by rw [List.dropLast_eq_take, show ts.length - 1 = m by omega]
  rw [if_neg (by omega), if_neg (by rw [hg]; simp [he]), hd, if_neg (by rw [ha]; decide)]

set_option maxHeartbeats 4000000 in
set_option maxRecDepth 100000 in
theorem refCheck_go (ts : List TI) (m : Nat) (hm : ts.length = m + 1) (h1 : ts.length ≤ 16385) (g o c : Nat) (w : World) (hg : g < w.heap.size) (hr : ∀ i (h : i < ts.length), w.rangeAt g (o + i * 4) ts[i].cells) (hz : ∀ i (h : i < ts.length), ts[i].text.size ≤ 140737488351232) (h : endB (ts[m]'(by omega)) = true) :
    Calls Tryd.prog 30 #[.slice (some ⟨g, o, none⟩) (m + 1) c] w (ChkQ ts w) := by
  have HN : Hid (∀ (k : Nat) (hk : k < m) (hkl : k < ts.length), mayB ts[k] = false → chkR ts = 5) := hidB (fun k hk hkl ha => chkR_not hm h1 h hk ha)
  have HG := hidB (fun (ha : (ts.take m).all mayB = true) => chkR_ok hm h1 h ha)
  have HZ := hidB hz
  have HR := hidB hr
  have Hg := hidB hg
  obtain ⟨r0, r1, r2, r3⟩ := RdT.four (hr m (by omega))
  unfold endB at h
  simp only [Bool.and_eq_true, decide_eq_true_eq] at h
  obtain ⟨hk0, hs0, hx0⟩ := h
  have hm4 : m ≤ 16384 := by omega
  have hm5 : ¬ (16385 : Int) < (m : Int) + 1 := by omega
  have hm6 : (((m : Int) + 1) == 0) = false := by rw [beq_eq_false_iff_ne]; omega
  have hm7 : (m : Int) + 1 - 1 = (m : Int) := by omega
  rw [hk0] at r0
  rw [← isE] at hs0
  have hx1 : (FloatKind.f64.format.order (ts[m]'(by omega)).num 0 != some .eq) = false := by
    unfold eq0 at hx0; simp [bne, hx0]
  clear hr hz hx0 hk0 h1
  have HM := hidB hm
  generalize hs1 : (ts[m]'(by omega)).text = s1 at *
  generalize hx2 : (ts[m]'(by omega)).num = x1 at *
  clear hs1 hx2 r1 hm
  go_enter Tryd.func30, Tryd.ntmps30
  go_wp2_with fail
  clear r0 r2 r3 hs0 hx1
  go_loopw [4] (fun i wr => ∃ k : Nat, k ≤ m ∧ i = .int .i64 k ∧ (ts.take k).all mayB = true ∧ Below w.heap.size w wr) (fun i _ => m - (intOf i).toNat)
  case atStart => exact ⟨0, by omega, rfl, rfl, Below.refl _ _⟩
  case round =>
    obtain ⟨k, hk, rfl, hall, hb⟩ := hrel
    have HA := hidB hall
    have Hb := hidB hb
    clear hall hb
    by_cases hlt : k < m
    · have hkl : k < ts.length := by have := HM.out; omega
      have hx1 : (k : Int) < (m : Int) := by omega
      have hx2 : (0 : Int) ≤ (k : Int) := by omega
      have hx3 : (k : Int) < (m : Int) + 1 := by omega
      have LD := hidB (range_on Hb.out Hg.out (HR.out k hkl))
      have MT := hidB (fun W => refOne_any ts[k] (HZ.out k hkl) W)
      have HQ := hidB (HN.out k hlt hkl)
      have HA2 := hidB (take_more HA.out hkl)
      clear HN HG HA HZ HR
      generalize ts[k]'hkl = t at *
      obtain ⟨tk, tp, tt, tx⟩ := t
      cases hmb : mayB ⟨tk, tp, tt, tx⟩
      · rw [hmb] at MT
        have HQ2 := hidB (HQ.out hmb)
        clear hmb
        go_wp2_with (first | (refine wpList_load_mid (by rfl) 25 (.tmp 46) (by rfl) g (o + k * 4) (by rfl) [.int .u8 tk, .int .i64 tp, .string tt, .float .f64 tx] _ LD.out Tryd.underlying25 (by rfl) (by kernel_rfl) ?_) | (go_at_call 48; refine (MT.out _).mono ?_; rintro e w2 ⟨rfl, hb⟩; have B1 := hidB hb; clear hb))
        go_ret
        exact chkQ_of HQ2.out rfl (Hb.out.trans (B1.out.mono Hb.out.size))
      · rw [hmb] at MT
        have HA3 := hidB (HA2.out hmb)
        clear hmb
        go_wp2_with (first | (refine wpList_load_mid (by rfl) 25 (.tmp 46) (by rfl) g (o + k * 4) (by rfl) [.int .u8 tk, .int .i64 tp, .string tt, .float .f64 tx] _ LD.out Tryd.underlying25 (by rfl) (by kernel_rfl) ?_) | (go_at_call 48; refine (MT.out _).mono ?_; rintro e w2 ⟨rfl, hb⟩; have B1 := hidB hb; clear hb))
        have Hb2 := hidB (Hb.out.trans (B1.out.mono Hb.out.size))
        go_roundw
        case rel => exact ⟨k + 1, by omega, by go_num, HA3.out, Hb2.out⟩
        case measure => simp [intOf]; omega
    · obtain rfl : m = k := by omega
      have hx4 : ¬ ((m : Int) < (m : Int)) := by omega
      have HGO := hidB (HG.out HA.out)
      go_wp2_with fail
      go_ret
      exact chkQ_of HGO.out rfl Hb.out

theorem refCheck_any (ts : List TI) (v : Value) (w : World) (hr : RdT ts v w) (hz : ∀ i (h : i < ts.length), ts[i].text.size ≤ 140737488351232) : Calls Tryd.prog 30 #[v] w (ChkQ ts w) := by
  obtain ⟨pa, c, rfl, hc, hc2, hx⟩ := hr
  by_cases h0 : ts.length = 0
  · obtain rfl : ts = [] := List.length_eq_zero_iff.1 h0
    exact refCheck_none c pa w
  by_cases h1 : 16385 < ts.length
  · exact refCheck_many ts h1 (by omega) c pa w
  obtain ⟨g, o, rfl, hg, hcell⟩ := hx (by omega)
  obtain ⟨m, hm2⟩ : ∃ m, ts.length = m + 1 := ⟨ts.length - 1, by omega⟩
  rw [hm2]
  cases he : endB (ts[m]'(by omega))
  · exact refCheck_end ts m hm2 (by omega) g o c w (hcell m (by omega)) he
  · exact refCheck_go ts m hm2 (by omega) g o c w hg hcell hz he

end Go.Proofs.YtkomjmgmancinaaDoor
