/-
  The object that a name with points tells: the walks of owner and found.
-/
import Derived.Test.YtchpkopeblgifaaRlm
import Derived.Deep.LoopGhost
namespace Go.Proofs.Ytchpkopeblgifaa
open Go.RowKit

/-- The last point's place below 'k'. -/
def lastD (s : ByteArray) : Nat → Option Nat
  | 0 => none
  | k + 1 => if (s.data.toList.getD k 0).toNat = 46 then some k else lastD s k
def ownO (s : ByteArray) : ByteArray := match lastD s s.size with | none => ⟨#[]⟩ | some i => s.extract 0 i
def ownW (s : ByteArray) : ByteArray := match lastD s s.size with | none => s | some i => s.extract (i + 1) s.size
theorem lastD_lt (s : ByteArray) : ∀ {k i : Nat}, lastD s k = some i → i < k
  | 0, _, h => by cases h
  | k + 1, i, h => by
    unfold lastD at h
    split at h
    · cases h; omega
    · have := lastD_lt s h; omega
theorem ownO_lt (s : ByteArray) : (ownO s).size = 0 ∨ (ownO s).size < s.size := by
  unfold ownO
  split
  · exact Or.inl rfl
  · rename_i i h
    have := lastD_lt s h
    right
    rw [ByteArray.size_extract]; omega
theorem ownW_le (s : ByteArray) : (ownW s).size ≤ s.size := by
  unfold ownW
  split
  · exact Nat.le_refl _
  · rw [ByteArray.size_extract]; omega
theorem belowDN {B : Nat} {a w : World} (h : Below B a w) (n : Nat) : Below B a (w.drewN n) := ⟨h.os, h.tape, h.output, h.size, h.block⟩
theorem lt_of_cell {w : World} {b i : Nat} {v : Value} (h : w.cell? ⟨b, i, none⟩ = some v) : b < w.heap.size := by
  rcases Nat.lt_or_ge b w.heap.size with hl | hg
  · exact hl
  · simp [World.cell?, Array.getElem?_eq_none hg] at h
theorem getD_at (s : ByteArray) (k : Nat) (h : k < s.size) : s.data.toList.getD k 0 = s[k] := by
  rw [List.getD_eq_getElem?_getD, List.getElem?_eq_getElem (by simpa using h)]
  rfl

set_option maxHeartbeats 8000000 in
set_option maxRecDepth 100000 in
theorem owner_any (s : ByteArray) (hs : s.size ≤ maxLen) (w : World) : Calls Try.prog 45 #[.string s] w fun e w' => e = .returned (.tuple #[.string (ownO s), .string (ownW s)]) ∧ Below w.heap.size w w' := by
  unfold maxLen at hs
  have hlm : s.size ≤ 9223372036854775807 := by omega
  skip
  go_enter Try.func45, Try.ntmps45
  go_wp2_with fail
  go_loopg [4] s.size (fun n s4 wr => n ≤ s.size ∧ s4 = .int .i64 ((n : Int) - 1) ∧ Hid (lastD s s.size = lastD s n) ∧ Below w.heap.size w wr)
  case atStart => exact ⟨Nat.le_refl _, by first | rfl | go_num, hidB rfl, Below.refl _ _⟩
  case round =>
    obtain ⟨hn, rfl, HL, hb⟩ := hrel
    have B := hidB hb
    clear hb
    cases gk with
    | zero =>
      have HO := hidB (show ownO s = ⟨#[]⟩ by unfold ownO; rw [HL.out]; rfl)
      have HW := hidB (show ownW s = s by unfold ownW; rw [HL.out]; rfl)
      go_wp2_with fail
      go_ret2
      exact ⟨by rw [HO.out, HW.out]; rfl, B.out⟩
    | succ j =>
      have hj : j < s.size := by omega
      have e1 : ((j + 1 : Nat) : Int) - 1 = (j : Int) := by omega
      rw [e1]
      clear e1
      have hj0 : (0 : Int) ≤ (j : Int) := by omega
      have hj1 : (j : Int) < (s.size : Int) := by omega
      by_cases h46 : s[j].toNat = 46
      · have H46 := hidB (show lastD s (j + 1) = some j by unfold lastD; rw [getD_at s j hj, if_pos h46])
        have HO := hidB (show ownO s = s.extract 0 j by unfold ownO; rw [HL.out, H46.out])
        have HW := hidB (show ownW s = s.extract (j + 1) s.size by unfold ownW; rw [HL.out, H46.out])
        have t46 : ((s[j].toNat : Int) == 46) = true := by rw [h46]; rfl
        clear h46
        go_wp2_with fail
        have hj2 : (0 : Int) ≤ (j : Int) + 1 := by omega
        have hj3 : (j : Int) + 1 ≤ (s.size : Int) := by omega
        have hj5 : ((j : Int) + 1).toNat = j + 1 := by omega
        have hj4 : IntKind.i64.wrap ((j : Int) + 1) = (j : Int) + 1 := by rw [IntKind.wrap_i64]; omega
        clear t46
        go_quiet (fail)
        go_wp2_with fail
        go_ret2
        exact ⟨by rw [HO.out, HW.out]; rfl, belowDN B.out _⟩
      · have H46 := hidB (show lastD s (j + 1) = lastD s j by rw [lastD, getD_at s j hj, if_neg h46])
        have t46 : ((s[j].toNat : Int) == 46) = false := by rw [beq_eq_false_iff_ne]; omega
        clear h46
        go_wp2_with fail
        go_roundg j
        case measure => omega
        case rel => exact ⟨by omega, rfl, hidB (HL.out.trans H46.out), B.out⟩

/-- A first object's properties. -/
def plI (n : Nat) : List PI := (pl n).map toPI
theorem plI_ok {n : Nat} (hn : n < 72) : ∀ q ∈ plI n, q.d.ok := plOk (at24 (f := fun n => (pl n).all fun r => decide (0 ≤ r.k)) (m := 72) (by decide +kernel) hn)
/-- The host's object of a name. -/
def hostN (s : ByteArray) : Int := match (List.range 15).find? fun i => decide (2 ≤ i) && ((hW i).toList == s.toList) with | some i => hp i | none => -1
/-- What is behind the owner's number. -/
def fndD (d : DI × Bool × Int) : Int := if d.2.2 = 0 then (if d.2.1 && isObj d.1.v.k then d.1.v.r else -1) else -1
def fndM (n : Int) (s : ByteArray) : Int := if n < 0 ∨ 72 ≤ n then -1 else fndD (findV (plI n.toNat) ⟨s, 0⟩)
def fndC (n : Int) (o s : ByteArray) : Int := if (o.toList == [79, 98, 106, 101, 99, 116]) && (s.toList == [112, 114, 111, 116, 111, 116, 121, 112, 101]) then 0 else if (o.toList == [65, 114, 114, 97, 121]) && (s.toList == [112, 114, 111, 116, 111, 116, 121, 112, 101]) then 2 else
  fndM (if o.toList == [70, 117, 110, 99, 116, 105, 111, 110, 46, 112, 114, 111, 116, 111, 116, 121, 112, 101] then 1 else n) s
theorem hostN_at {s : ByteArray} {i : Nat} (hi : i < 15) (h2 : 2 ≤ i) (hq : ((hW i).toList == s.toList) = true) (hno : ∀ j, j < i → (decide (2 ≤ j) && ((hW j).toList == s.toList)) = false) : hostN s = hp i := by
  unfold hostN
  rw [List.find?_range_eq_some.2 ⟨by rw [hq]; simp [h2], List.mem_range.2 hi, fun j hj => by rw [hno j hj]; rfl⟩]
theorem vitem_kind (r : Nat) {i : Nat} (hi : i < 15) : ∃ k n x, vitem r i = (VI.mk k x ⟨#[]⟩ n).cells ∧ isObj k = decide (2 ≤ i) ∧ (2 ≤ i → n = (hp i : Int)) := by
  match i, hi with
  | 0, _ => exact ⟨0, 0, 0, rfl, rfl, fun h => by omega⟩
  | 1, _ => exact ⟨3, 0, r, rfl, rfl, fun h => by omega⟩
  | i + 2, _ =>
    refine ⟨kd (hp (i + 2)), hp (i + 2), 0, rfl, ?_, fun _ => rfl⟩
    have : isObj (kd (hp (i + 2))) = true := by
      unfold isObj kd
      split
      · decide
      · split <;> decide
    rw [this]
    simp
theorem hosts_mid {w : World} {gv r : Nat} (h : ∀ j, j < 60 → w.cell? ⟨gv, j, none⟩ = (vals r 15)[j]?) {i : Nat} (hi : i < 15) : w.rangeAt gv (i * 4) (vitem r i) := by
  intro j u hj
  have hl : j < 4 := by have := (List.getElem?_eq_some_iff.1 hj).1; rwa [vitem_length] at this
  rw [h (i * 4 + j) (by omega), vals_get r 15 i j hi hl]
  exact hj
def fndN : Nat → ByteArray → Int
  | 0, _ => -1
  | f + 1, s => if (ownO s).toList.isEmpty then hostN (ownW s) else fndC (fndN f (ownO s)) (ownO s) (ownW s)

set_option maxHeartbeats 8000000 in
set_option maxRecDepth 100000 in
theorem found_any (vs : Nat → Value) (hv : Value) : ∀ (f : Nat) (s : ByteArray), s.size < f → s.size ≤ maxLen → ∀ w : World, RdH (rlm vs) hv w → Calls Try.prog 22 #[.agg #[hv], .string s] w fun e w' => e = .returned (.int .i64 (fndN f s)) ∧ Below w.heap.size w w'
  | 0, s, h, _ => absurd h (by omega)
  | f + 1, s, hf, hs => fun w hr => by
    have IH := hidB (found_any vs hv f)
    have HRD := hidB hr
    have hoo := ownO_lt s
    have hww := ownW_le s
    have HFN := hidB (show fndN (f + 1) s = if (ownO s).toList.isEmpty then hostN (ownW s) else fndC (fndN f (ownO s)) (ownO s) (ownW s) from rfl)
    have OW := hidB (fun W => owner_any s hs W)
    generalize fndN (f + 1) s = R at *
    obtain ⟨⟨pa, c, rfl, h1, h2, h3⟩, hpr⟩ := hr
    obtain ⟨g, o, rfl, hgl, hrow⟩ := h3 (by rw [rlm_length]; decide)
    rw [rlm_length] at IH HRD h1 ⊢
    unfold maxLen at h2
    have HGL := hidB hgl
    have HROW := hidB hrow
    have HPR := hidB hpr
    clear h3 hgl hrow hpr
    have Y := hidB (show Bk (w.alloc (.cells (#[(.slice (some ⟨g, o, none⟩) 72 c)]) 38)) (w.heap.size) 38 (#[(.slice (some ⟨g, o, none⟩) 72 c)]) from Bk.new w _ _)
    have B := hidB (show Below w.heap.size w (w.alloc (.cells (#[(.slice (some ⟨g, o, none⟩) 72 c)]) 38)) from box_one w _)
    go_enter Try.func22, Try.ntmps22
    go_upto_region 1 with fail
    generalize hW : (w.alloc (.cells (#[(.slice (some ⟨g, o, none⟩) 72 c)]) 38)) = w1 at *
    clear hW
    have HSZ := hidB (show (ownO s).size = 0 ∨ (ownO s).size < f by omega)
    have HWL := hidB (show (ownW s).size ≤ maxLen by omega)
    have HOL := hidB (show (ownO s).size ≤ maxLen from hoo.elim (fun h => by rw [h]; exact Nat.zero_le _) (fun h => Nat.le_trans (Nat.le_of_lt h) hs))
    clear hoo hww
    go_wp2_with fail
    refine (OW.out _).mono ?_; rintro e w2 ⟨rfl, hb⟩
    replace Y := hidB (Y.out.on hb)
    replace B := hidB (B.out.trans (hb.mono B.out.size))
    clear hb OW
    generalize ownO s = of at *
    generalize ownW s = sw at *
    clear hf hs
    cases hof : of.toList.isEmpty
    rotate_left
    · have hof2 : (of.toList == []) = true := by rw [← hof]; cases of.toList <;> rfl
      have HR := hidB (HFN.out.trans (if_pos hof))
      clear hof
      go_wp2_with fail
      clear hof2
      refine (names_any _).mono ?_; rintro e w3 ⟨gn, gv, cap, r, rfl, ⟨hr1, hl1, hl2⟩, hb⟩
      have HL1 := hidB hl1
      have HL2 := hidB hl2
      have HGN := hidB (show gn < w3.heap.size from lt_of_cell (hl1 0 (by decide)))
      have HGV := hidB (show gv < w3.heap.size from lt_of_cell ((hl2 0 (by decide)).trans (show _ = some (Value.int .u8 0) from rfl)))
      replace B := hidB (B.out.trans (hb.mono B.out.size))
      clear hb hl1 hl2 hr1 Y
      go_wp2_with fail
      go_loopg [9] 15 (fun n s9 wr => ∃ i : Nat, i ≤ 15 ∧ n = 15 - i ∧ s9 = .int .i64 i ∧ (∀ j, j < i → ((decide (2 ≤ j) && ((hW j).toList == sw.toList)) = false)) ∧ Below w3.heap.size w3 wr ∧ Below w.heap.size w wr)
      case atStart => exact ⟨0, by omega, rfl, rfl, fun j hj => absurd hj (by omega), Below.refl _ _, B.out⟩
      case round =>
        clear B
        obtain ⟨i, hi, rfl, rfl, hno, hb3, hb⟩ := hrel
        have B := hidB hb
        have B3 := hidB hb3
        have HNO := hidB hno
        clear hb hb3 hno
        by_cases hlt : i < 15
        rotate_left
        · obtain rfl : i = 15 := by omega
          have HH := hidB (show hostN sw = -1 by unfold hostN; rw [List.find?_eq_none.2 (fun j hj => by rw [HNO.out j (List.mem_range.1 hj)]; simp)])
          go_wp2_with fail
          go_ret
          exact ⟨by rw [HR.out, HH.out]; rfl, B.out⟩
        have hi0 : (0 : Int) ≤ (i : Int) := by omega
        have hi15 : (i : Int) < 15 := by omega
        have n0 : wr.cell? ⟨gn, i, none⟩ = some (.string (hW i)) := (World.cell?_of_block (B3.out.block gn (HGN.out))).trans (HL1.out i hlt)
        cases hq : ((hW i).toList == sw.toList)
        · have HNI := hidB (show (decide (2 ≤ i) && ((hW i).toList == sw.toList)) = false by rw [hq, Bool.and_false])
          go_wp2_with fail
          go_roundg (15 - (i + 1))
          case measure => omega
          case rel => exact ⟨i + 1, by omega, rfl, by go_num, fun j hj => (Nat.lt_succ_iff_lt_or_eq.1 hj).elim (fun a => HNO.out j a) (fun a => a ▸ HNI.out), B3.out, B.out⟩
        have HQ := hidB hq
        obtain ⟨kk, n, x, hvi, hob, hnn⟩ := vitem_kind r hlt
        have HVI := hidB (hvi ▸ rangeOn B3.out HGV.out (hosts_mid HL2.out hlt))
        have v3 : wr.cell? ⟨gv, i * 4 + 3, none⟩ = some (.int .i64 n) := HVI.out 3 _ rfl
        have HNN := hidB hnn
        have HOB := hidB hob
        clear hvi hnn hob
        go_wp2_with (first | ((with_reducible refine ldId 33 (.tmp 40) ?_); refine wpList_wload_mid 33 (.tmp 40) (by rfl) (by rfl) gv (i * 4) (by rfl) (VI.mk kk x ⟨#[]⟩ n).cells _ (by exact HVI.out) Try.underlying33 (by rfl) (by kernel_rfl) ?_))
        refine (isObj_any kk x ⟨#[]⟩ n _).mono ?_; rintro e w4 ⟨rfl, hb1⟩
        have hb := hb1 ▸ box_one wr (.cells (VI.mk kk x ⟨#[]⟩ n).cells.toArray 33)
        have v4 : w4.cell? ⟨gv, i * 4 + 3, none⟩ = some (.int .i64 n) := (World.cell?_of_block (hb.block gv (Nat.lt_of_lt_of_le HGV.out B3.out.size))).trans v3
        replace B3 := hidB (B3.out.trans (hb.mono B3.out.size))
        replace B := hidB (B.out.trans (hb.mono B.out.size))
        clear hb hb1 v3 n0
        rw [HOB.out]
        by_cases h2 : 2 ≤ i
        rotate_left
        · rw [decide_eq_false h2]
          have HNI := hidB (show (decide (2 ≤ i) && ((hW i).toList == sw.toList)) = false by rw [decide_eq_false h2]; rfl)
          clear h2
          go_wp2_with fail
          go_roundg (15 - (i + 1))
          case measure => omega
          case rel => exact ⟨i + 1, by omega, rfl, by go_num, fun j hj => (Nat.lt_succ_iff_lt_or_eq.1 hj).elim (fun a => HNO.out j a) (fun a => a ▸ HNI.out), B3.out, B.out⟩
        rw [decide_eq_true h2]
        have HN2 := hidB (HNN.out h2)
        have HHN := hidB (hostN_at hlt h2 HQ.out HNO.out)
        clear h2
        go_wp2_with fail
        go_ret
        exact ⟨by rw [HR.out, HHN.out, ← HN2.out]; rfl, B.out⟩
    have hof2 : (of.toList == []) = false := by rw [← hof]; cases of.toList <;> rfl
    have HR := hidB (HFN.out.trans (if_neg (by rw [hof]; decide)))
    have hofs : of.size < f := by
      rcases HSZ.out with h | h
      · have : of.toList = [] := by rw [ByteArray.toList_eq]; exact List.eq_nil_of_length_eq_zero (by simpa using h)
        rw [this] at hof; cases hof
      · exact h
    clear hof
    have HIH := hidB (IH.out of hofs HOL.out w2 (HRD.out.on B.out))
    clear hofs
    go_upto_region 10 with fail
    clear hof2
    go_wp2_with (first | ((with_reducible refine ldId 38 (.tmp 2) ?_); refine wpList_load_row (by rfl) 38 (.tmp 2) (by rfl) (w.heap.size) (by rfl) 38 (#[(.slice (some ⟨g, o, none⟩) 72 c)]) (0, 0) _ (by exact Y.out) Try.underlying38 (by rfl) (by kernel_rfl) ?_))
    refine HIH.out.mono ?_; rintro e w3 ⟨rfl, hb⟩
    replace Y := hidB (Y.out.on hb)
    replace B := hidB (B.out.trans (hb.mono B.out.size))
    clear hb HIH HFN
    generalize fndN f of = n at *
    obtain ⟨q1, h1q⟩ : ∃ q, (of.toList == [79, 98, 106, 101, 99, 116]) = q := ⟨_, rfl⟩
    obtain ⟨q2, h2q⟩ : ∃ q, (of.toList == [65, 114, 114, 97, 121]) = q := ⟨_, rfl⟩
    obtain ⟨q3, h3q⟩ : ∃ q, (of.toList == [70, 117, 110, 99, 116, 105, 111, 110, 46, 112, 114, 111, 116, 111, 116, 121, 112, 101]) = q := ⟨_, rfl⟩
    obtain ⟨qp, hpq⟩ : ∃ q, (sw.toList == [112, 114, 111, 116, 111, 116, 121, 112, 101]) = q := ⟨_, rfl⟩
    have HR2 := hidB (HR.out.trans (show fndC n of sw = if q1 && qp then 0 else if q2 && qp then 2 else fndM (if q3 then 1 else n) sw by unfold fndC; rw [h1q, h2q, h3q, hpq]))
    clear HR
    go_upto_region 11 with fail
    go_cut [57] from 15 to 102 (fun s57 wx => s57 = .bool (q1 && qp) ∧ w3 = wx)
    case first => as_aux_lemma =>
      cases q1 <;> cases qp
      all_goals
        go_wp2_with fail
        go_meet
        case rel => exact ⟨rfl, rfl⟩
    case rest =>
    obtain ⟨rfl, rfl⟩ := hcut
    cases hb1 : (q1 && qp)
    rotate_left
    · rw [hb1] at HR2
      have HR3 := hidB (HR2.out.trans (if_pos rfl))
      clear hb1 h1q h2q h3q hpq
      go_wp2_with fail
      go_ret
      exact ⟨by rw [HR3.out]; rfl, B.out⟩
    rw [hb1] at HR2
    replace HR2 := hidB (HR2.out.trans (if_neg (by decide)))
    clear hb1
    go_upto_region 13 with fail
    go_cut [63] from 15 to 102 (fun s63 wx => s63 = .bool (q2 && qp) ∧ w3 = wx)
    case first => as_aux_lemma =>
      cases q2 <;> cases qp
      all_goals
        go_wp2_with fail
        go_meet
        case rel => exact ⟨rfl, rfl⟩
    case rest =>
    obtain ⟨rfl, rfl⟩ := hcut
    cases hb1 : (q2 && qp)
    rotate_left
    · rw [hb1] at HR2
      have HR3 := hidB (HR2.out.trans (if_pos rfl))
      clear hb1 h1q h2q h3q hpq
      go_wp2_with fail
      go_ret
      exact ⟨by rw [HR3.out]; rfl, B.out⟩
    rw [hb1] at HR2
    replace HR2 := hidB (HR2.out.trans (if_neg (by decide)))
    clear hb1
    go_upto_if 65 with fail
    go_cut [10] from 15 to 102 (fun s10 wx => s10 = .int .i64 (if q3 then 1 else n) ∧ w3 = wx)
    case first => as_aux_lemma =>
      cases q3
      all_goals
        go_wp2_with fail
        go_meet
        case rel => exact ⟨rfl, rfl⟩
    case rest =>
    obtain ⟨rfl, rfl⟩ := hcut
    clear h1q h2q h3q hpq
    generalize (if q3 then 1 else n) = m at *
    have y0 : w3.cell? ⟨w.heap.size, 0, none⟩ = some (.slice (some ⟨g, o, none⟩) 72 c) := Y.out.cell 0
    by_cases hm0 : m < 0
    · have HM := hidB (show fndM m sw = -1 from if_pos (Or.inl hm0))
      go_wp2_with fail
      go_ret
      exact ⟨by rw [HR2.out, HM.out]; rfl, B.out⟩
    by_cases hm1 : 72 ≤ m
    · have HM := hidB (show fndM m sw = -1 from if_pos (Or.inr hm1))
      go_wp2_with fail
      go_ret
      exact ⟨by rw [HR2.out, HM.out]; rfl, B.out⟩
    obtain ⟨k, rfl⟩ : ∃ k : Nat, m = (k : Int) := ⟨m.toNat, by omega⟩
    have hk : k < 72 := by omega
    have HM := hidB (HR2.out.trans (show fndM (k : Int) sw = fndD (findV (plI k) ⟨sw, 0⟩) by unfold fndM; rw [if_neg (by omega), Int.toNat_natCast]))
    clear hm1 HR2
    have hk0 : (0 : Int) ≤ (k : Int) := by omega
    have hk72 : (k : Int) < 72 := by omega
    have hkl : k < (rlm vs).length := by rw [rlm_length]; exact hk
    have HC0 := HROW.out k hkl
    have HP0 := HPR.out _ (List.getElem_mem hkl)
    rw [rlm_at] at HC0 HP0
    have HC := hidB (show w.cell? ⟨g, o + k * 18 + 6, none⟩ = some (vs k) from HC0 6 _ rfl)
    have HP := hidB (show RdP (plI k) (vs k) w from HP0)
    clear HC0 HP0 HROW HPR hkl
    go_upto_region 19 with fail
    clear y0
    generalize vs k = vk at *
    have RD := hidB (fun W (hb : Below w3.heap.size w3 W) => RdP.on HP.out (B.out.trans (hb.mono B.out.size)))
    have HC8 := hidB (fun W (hb : Below w3.heap.size w3 W) => (World.cell?_of_block ((B.out.trans (hb.mono B.out.size)).block g HGL.out)).trans HC.out)
    have POK := hidB (plI_ok hk)
    skip
    skip
    obtain ⟨⟨dd, bb, ee⟩, hdd⟩ : ∃ d, findV (plI k) ⟨sw, 0⟩ = d := ⟨_, rfl⟩
    have HDD := hidB hdd
    rw [hdd] at HM
    clear hdd HC HP
    go_cut [11, 12, 13] from 15 to 102 (fun s11 s12 s13 wx => ∃ gd, s11 = .pointer (some ⟨gd, 0, none⟩) ∧ s12 = .bool bb ∧ s13 = .int .i64 ee ∧ Bk wx gd 47 dd.cs ∧ Below w3.heap.size w3 wx)
    case first =>
      refine wp_region_noPanic ?_
      refine wp_region_held_drew (S := fun W => Below w3.heap.size w3 W) (by kernel_rfl) ?_ (fun hHeld => ?_)
      · exact (Below.refl _ _).drew
      generalize hWd : w3.drew = wd at *
      clear hWd
      first | (refine wpAnyH_take (i := 0) (v := undef) (by simp only [List.getElem?_toArray, List.getElem?_cons_zero]; exact rfl) (by kernel_rfl) (by kernel_rfl) (by kernel_rfl) (fun _ _ _ h => h) (Or.inr ⟨?_, rfl⟩) (by assumption) ?_; (rfl); try simp only [Act.put, List.setIfInBounds_toArray, List.set_cons_zero, List.set_cons_succ]) | (refine wpAnyH_take (i := 0) (v := ?_) (by simp only [List.getElem?_toArray, List.getElem?_cons_zero]; exact rfl) (by kernel_rfl) (by kernel_rfl) (by kernel_rfl) (fun _ _ _ h => h) (Or.inl ⟨?_, ?_⟩) (by assumption) ?_; rotate_left; (rfl); (focus (intro w hSw; (try dsimp only at hSw); go_simp; try with_reducible rfl)); try simp only [Act.put, List.setIfInBounds_toArray, List.set_cons_zero, List.set_cons_succ])
      first | (refine wpAnyH_take (i := 1) (v := undef) (by simp only [List.getElem?_toArray, List.getElem?_cons_succ, List.getElem?_cons_zero]; exact rfl) (by kernel_rfl) (by kernel_rfl) (by kernel_rfl) (fun _ _ _ h => h) (Or.inr ⟨?_, rfl⟩) (by assumption) ?_; (rfl); try simp only [Act.put, List.setIfInBounds_toArray, List.set_cons_zero, List.set_cons_succ]) | (refine wpAnyH_take (i := 1) (v := ?_) (by simp only [List.getElem?_toArray, List.getElem?_cons_succ, List.getElem?_cons_zero]; exact rfl) (by kernel_rfl) (by kernel_rfl) (by kernel_rfl) (fun _ _ _ h => h) (Or.inl ⟨?_, ?_⟩) (by assumption) ?_; rotate_left; (rfl); (focus (intro W hSw; have hc0 := (show W.cell? ⟨w.heap.size, 0, none⟩ = some (.slice (some ⟨g, o, none⟩) 72 c) from (Y.out.on hSw).cell 0); clear hSw; go_simp; try with_reducible rfl)); try simp only [Act.put, List.setIfInBounds_toArray, List.set_cons_zero, List.set_cons_succ])
      first | (refine wpAnyH_take (i := 2) (v := undef) (by simp only [List.getElem?_toArray, List.getElem?_cons_succ, List.getElem?_cons_zero]; exact rfl) (by kernel_rfl) (by kernel_rfl) (by kernel_rfl) (fun _ _ _ h => h) (Or.inr ⟨?_, rfl⟩) (by assumption) ?_; (rfl); try simp only [Act.put, List.setIfInBounds_toArray, List.set_cons_zero, List.set_cons_succ]) | (refine wpAnyH_take (i := 2) (v := ?_) (by simp only [List.getElem?_toArray, List.getElem?_cons_succ, List.getElem?_cons_zero]; exact rfl) (by kernel_rfl) (by kernel_rfl) (by kernel_rfl) (fun _ _ _ h => h) (Or.inl ⟨?_, ?_⟩) (by assumption) ?_; rotate_left; (rfl); (focus (intro w hSw; (try dsimp only at hSw); go_simp; try with_reducible rfl)); try simp only [Act.put, List.setIfInBounds_toArray, List.set_cons_zero, List.set_cons_succ])
      first | (refine wpAnyH_take (i := 3) (v := undef) (by simp only [List.getElem?_toArray, List.getElem?_cons_succ, List.getElem?_cons_zero]; exact rfl) (by kernel_rfl) (by kernel_rfl) (by kernel_rfl) (fun _ _ _ h => h) (Or.inr ⟨?_, rfl⟩) (by assumption) ?_; (rfl); try simp only [Act.put, List.setIfInBounds_toArray, List.set_cons_zero, List.set_cons_succ]) | (refine wpAnyH_take (i := 3) (v := ?_) (by simp only [List.getElem?_toArray, List.getElem?_cons_succ, List.getElem?_cons_zero]; exact rfl) (by kernel_rfl) (by kernel_rfl) (by kernel_rfl) (fun _ _ _ h => h) (Or.inl ⟨?_, ?_⟩) (by assumption) ?_; rotate_left; (rfl); (focus (intro w hSw; (try dsimp only at hSw); go_simp; try with_reducible rfl)); try simp only [Act.put, List.setIfInBounds_toArray, List.set_cons_zero, List.set_cons_succ])
      first | (refine wpAnyH_take (i := 4) (v := undef) (by simp only [List.getElem?_toArray, List.getElem?_cons_succ, List.getElem?_cons_zero]; exact rfl) (by kernel_rfl) (by kernel_rfl) (by kernel_rfl) (fun _ _ _ h => h) (Or.inr ⟨?_, rfl⟩) (by assumption) ?_; (rfl); try simp only [Act.put, List.setIfInBounds_toArray, List.set_cons_zero, List.set_cons_succ]) | (refine wpAnyH_take (i := 4) (v := ?_) (by simp only [List.getElem?_toArray, List.getElem?_cons_succ, List.getElem?_cons_zero]; exact rfl) (by kernel_rfl) (by kernel_rfl) (by kernel_rfl) (fun _ _ _ h => h) (Or.inl ⟨?_, ?_⟩) (by assumption) ?_; rotate_left; (rfl); (focus (intro w hSw; (try dsimp only at hSw); go_simp; try with_reducible rfl)); try simp only [Act.put, List.setIfInBounds_toArray, List.set_cons_zero, List.set_cons_succ])
      first | (refine wpAnyH_take (i := 5) (v := undef) (by simp only [List.getElem?_toArray, List.getElem?_cons_succ, List.getElem?_cons_zero]; exact rfl) (by kernel_rfl) (by kernel_rfl) (by kernel_rfl) (fun _ _ _ h => h) (Or.inr ⟨?_, rfl⟩) (by assumption) ?_; (rfl); try simp only [Act.put, List.setIfInBounds_toArray, List.set_cons_zero, List.set_cons_succ]) | (refine wpAnyH_take (i := 5) (v := ?_) (by simp only [List.getElem?_toArray, List.getElem?_cons_succ, List.getElem?_cons_zero]; exact rfl) (by kernel_rfl) (by kernel_rfl) (by kernel_rfl) (fun _ _ _ h => h) (Or.inl ⟨?_, ?_⟩) (by assumption) ?_; rotate_left; (rfl); (focus (intro W hSw; have hc0 := (show W.cell? ⟨g, o + k * 18 + 6, none⟩ = some vk from HC8.out W hSw); clear hSw; go_simp; try with_reducible rfl)); try simp only [Act.put, List.setIfInBounds_toArray, List.set_cons_zero, List.set_cons_succ])
      first | (refine wpAnyH_take (i := 6) (v := undef) (by simp only [List.getElem?_toArray, List.getElem?_cons_succ, List.getElem?_cons_zero]; exact rfl) (by kernel_rfl) (by kernel_rfl) (by kernel_rfl) (fun _ _ _ h => h) (Or.inr ⟨?_, rfl⟩) (by assumption) ?_; (rfl); try simp only [Act.put, List.setIfInBounds_toArray, List.set_cons_zero, List.set_cons_succ]) | (refine wpAnyH_take (i := 6) (v := ?_) (by simp only [List.getElem?_toArray, List.getElem?_cons_succ, List.getElem?_cons_zero]; exact rfl) (by kernel_rfl) (by kernel_rfl) (by kernel_rfl) (fun _ _ _ h => h) (Or.inl ⟨?_, ?_⟩) (by assumption) ?_; rotate_left; (rfl); (focus (intro w hSw; (try dsimp only at hSw); go_simp; try with_reducible rfl)); try simp only [Act.put, List.setIfInBounds_toArray, List.set_cons_zero, List.set_cons_succ])
      refine wpAnyH_ready (rs := [7, 13]) (by kernel_rfl) (by simp) ?_
      refine AllReadyH.cons rfl (fun K hK => ?_) ?_
      · skip
        go_simp
        refine (keyOf_any sw _).mono ?_; rintro e v1 ⟨rfl, hb⟩
        replace hHeld := hHeld.trans (hb.mono hHeld.size)
        clear hb
        refine hK.out _ _ hHeld (fun _ => ?_)
        clear hK K
        try simp only [Act.put, List.setIfInBounds_toArray, List.set_cons_zero, List.set_cons_succ]
        refine wpAnyH_ready (rs := [8, 13]) (by kernel_rfl) (by simp) ?_
        refine AllReadyH.cons rfl (fun K hK => ?_) ?_
        · skip
          go_simp
          refine (tfind_any (plI k) POK.out ⟨sw, 0⟩ vk _ (RD.out _ hHeld)).mono ?_; rintro e v2 ⟨rfl, hb⟩
          rw [HDD.out]
          replace hHeld := hHeld.trans (hb.mono hHeld.size)
          clear hb
          refine hK.out _ _ hHeld (fun _ => ?_)
          clear hK K
          try simp only [Act.put, List.setIfInBounds_toArray, List.set_cons_zero, List.set_cons_succ]
          first | (refine wpAnyH_take (i := 9) (v := undef) (by simp only [List.getElem?_toArray, List.getElem?_cons_succ, List.getElem?_cons_zero]; exact rfl) (by kernel_rfl) (by kernel_rfl) (by kernel_rfl) (fun _ _ _ h => h) (Or.inr ⟨?_, rfl⟩) (by assumption) ?_; (rfl); try simp only [Act.put, List.setIfInBounds_toArray, List.set_cons_zero, List.set_cons_succ]) | (refine wpAnyH_take (i := 9) (v := ?_) (by simp only [List.getElem?_toArray, List.getElem?_cons_succ, List.getElem?_cons_zero]; exact rfl) (by kernel_rfl) (by kernel_rfl) (by kernel_rfl) (fun _ _ _ h => h) (Or.inl ⟨?_, ?_⟩) (by assumption) ?_; rotate_left; (rfl); (focus (intro w hSw; (try dsimp only at hSw); go_simp; try with_reducible rfl)); try simp only [Act.put, List.setIfInBounds_toArray, List.set_cons_zero, List.set_cons_succ])
          first | (refine wpAnyH_take (i := 10) (v := undef) (by simp only [List.getElem?_toArray, List.getElem?_cons_succ, List.getElem?_cons_zero]; exact rfl) (by kernel_rfl) (by kernel_rfl) (by kernel_rfl) (fun _ _ _ h => h) (Or.inr ⟨?_, rfl⟩) (by assumption) ?_; (rfl); try simp only [Act.put, List.setIfInBounds_toArray, List.set_cons_zero, List.set_cons_succ]) | (refine wpAnyH_take (i := 10) (v := ?_) (by simp only [List.getElem?_toArray, List.getElem?_cons_succ, List.getElem?_cons_zero]; exact rfl) (by kernel_rfl) (by kernel_rfl) (by kernel_rfl) (fun _ _ _ h => h) (Or.inl ⟨?_, ?_⟩) (by assumption) ?_; rotate_left; (rfl); (focus (intro w hSw; (try dsimp only at hSw); go_simp; try with_reducible rfl)); try simp only [Act.put, List.setIfInBounds_toArray, List.set_cons_zero, List.set_cons_succ])
          first | (refine wpAnyH_take (i := 11) (v := undef) (by simp only [List.getElem?_toArray, List.getElem?_cons_succ, List.getElem?_cons_zero]; exact rfl) (by kernel_rfl) (by kernel_rfl) (by kernel_rfl) (fun _ _ _ h => h) (Or.inr ⟨?_, rfl⟩) (by assumption) ?_; (rfl); try simp only [Act.put, List.setIfInBounds_toArray, List.set_cons_zero, List.set_cons_succ]) | (refine wpAnyH_take (i := 11) (v := ?_) (by simp only [List.getElem?_toArray, List.getElem?_cons_succ, List.getElem?_cons_zero]; exact rfl) (by kernel_rfl) (by kernel_rfl) (by kernel_rfl) (fun _ _ _ h => h) (Or.inl ⟨?_, ?_⟩) (by assumption) ?_; rotate_left; (rfl); (focus (intro w hSw; (try dsimp only at hSw); go_simp; try with_reducible rfl)); try simp only [Act.put, List.setIfInBounds_toArray, List.set_cons_zero, List.set_cons_succ])
          first | (refine wpAnyH_take (i := 12) (v := undef) (by simp only [List.getElem?_toArray, List.getElem?_cons_succ, List.getElem?_cons_zero]; exact rfl) (by kernel_rfl) (by kernel_rfl) (by kernel_rfl) (fun _ _ _ h => h) (Or.inr ⟨?_, rfl⟩) (by assumption) ?_; (rfl); try simp only [Act.put, List.setIfInBounds_toArray, List.set_cons_zero, List.set_cons_succ]) | (refine wpAnyH_take (i := 12) (v := ?_) (by simp only [List.getElem?_toArray, List.getElem?_cons_succ, List.getElem?_cons_zero]; exact rfl) (by kernel_rfl) (by kernel_rfl) (by kernel_rfl) (fun _ _ _ h => h) (Or.inl ⟨?_, ?_⟩) (by assumption) ?_; rotate_left; (rfl); (focus (intro w hSw; (try dsimp only at hSw); go_simp; try with_reducible rfl)); try simp only [Act.put, List.setIfInBounds_toArray, List.set_cons_zero, List.set_cons_succ])
          refine wpAnyH_ready (rs := [13]) (by kernel_rfl) (by simp) ?_
          refine AllReadyH.cons rfl (fun K hK => ?_) AllReadyH.nil
          go_simp
          have RD_ := hidB (Bk.new v2 47 #[.int .u8 0, .int .u8 0, .float .f64 0, .string ⟨#[]⟩, .int .i64 0, .int .u8 0, .float .f64 0, .string ⟨#[]⟩, .int .i64 0, .int .u8 0, .float .f64 0, .string ⟨#[]⟩, .int .i64 0, .bool false, .bool false, .bool false])
          have hgB_gR := hHeld.size
          replace hHeld := hHeld.alloc hHeld.size (.cells #[.int .u8 0, .int .u8 0, .float .f64 0, .string ⟨#[]⟩, .int .i64 0, .int .u8 0, .float .f64 0, .string ⟨#[]⟩, .int .i64 0, .int .u8 0, .float .f64 0, .string ⟨#[]⟩, .int .i64 0, .bool false, .bool false, .bool false] 47)
          refine hK.out _ _ hHeld (fun _ => ?_)
          clear hK K
          try simp only [Act.put, List.setIfInBounds_toArray, List.set_cons_zero, List.set_cons_succ]
          generalize hWn : (v2.alloc (.cells #[.int .u8 0, .int .u8 0, .float .f64 0, .string ⟨#[]⟩, .int .i64 0, .int .u8 0, .float .f64 0, .string ⟨#[]⟩, .int .i64 0, .int .u8 0, .float .f64 0, .string ⟨#[]⟩, .int .i64 0, .bool false, .bool false, .bool false] 47)) = v3 at *
          clear hWn
          generalize hGn : v2.heap.size = gR at *
          clear hGn
          refine wpAnyH_ready (rs := [14]) (by kernel_rfl) (by simp) ?_
          refine AllReadyH.cons rfl (fun K hK => ?_) AllReadyH.nil
          rw [if_pos (by kernel_rfl)]
          refine wp_store_row 47 (.tmp 11) (.tmp 85) (by rfl) gR dd.cs (by rfl) (by rfl) 47 #[.int .u8 0, .int .u8 0, .float .f64 0, .string ⟨#[]⟩, .int .i64 0, .int .u8 0, .float .f64 0, .string ⟨#[]⟩, .int .i64 0, .int .u8 0, .float .f64 0, .string ⟨#[]⟩, .int .i64 0, .bool false, .bool false, .bool false] (by exact RD_.out) (by kernel_rfl) (by rfl) (by exact (DI.one dd)) ?_
          replace RD_ := hidB (RD_.out.setRow dd.cs)
          replace hHeld := below_setRow hHeld hgB_gR dd.cs
          refine put_none_K (by first | rfl | kernel_rfl) ?_
          refine hK.out _ _ hHeld (fun _ => ?_)
          clear hK K
          generalize hWn : v3.setRow gR dd.cs = v4 at *
          clear hWn
          first | (refine wpAnyH_take (i := 15) (v := undef) (by simp only [List.getElem?_toArray, List.getElem?_cons_succ, List.getElem?_cons_zero]; exact rfl) (by kernel_rfl) (by kernel_rfl) (by kernel_rfl) (fun _ _ _ h => h) (Or.inr ⟨?_, rfl⟩) (by assumption) ?_; (rfl); try simp only [Act.put, List.setIfInBounds_toArray, List.set_cons_zero, List.set_cons_succ]) | (refine wpAnyH_take (i := 15) (v := ?_) (by simp only [List.getElem?_toArray, List.getElem?_cons_succ, List.getElem?_cons_zero]; exact rfl) (by kernel_rfl) (by kernel_rfl) (by kernel_rfl) (fun _ _ _ h => h) (Or.inl ⟨?_, ?_⟩) (by assumption) ?_; rotate_left; (rfl); (focus (intro w hSw; (try dsimp only at hSw); go_simp; try with_reducible rfl)); try simp only [Act.put, List.setIfInBounds_toArray, List.set_cons_zero, List.set_cons_succ])
          first | (refine wpAnyH_take (i := 16) (v := undef) (by simp only [List.getElem?_toArray, List.getElem?_cons_succ, List.getElem?_cons_zero]; exact rfl) (by kernel_rfl) (by kernel_rfl) (by kernel_rfl) (fun _ _ _ h => h) (Or.inr ⟨?_, rfl⟩) (by assumption) ?_; (rfl); try simp only [Act.put, List.setIfInBounds_toArray, List.set_cons_zero, List.set_cons_succ]) | (refine wpAnyH_take (i := 16) (v := ?_) (by simp only [List.getElem?_toArray, List.getElem?_cons_succ, List.getElem?_cons_zero]; exact rfl) (by kernel_rfl) (by kernel_rfl) (by kernel_rfl) (fun _ _ _ h => h) (Or.inl ⟨?_, ?_⟩) (by assumption) ?_; rotate_left; (rfl); (focus (intro w hSw; (try dsimp only at hSw); go_simp; try with_reducible rfl)); try simp only [Act.put, List.setIfInBounds_toArray, List.set_cons_zero, List.set_cons_succ])
          refine wpAnyH_done (by kernel_rfl) ?_ _
          refine NoPanic.normal ?_
          go_wp2_with fail
          go_meet
          case rel => exact ⟨_, rfl, rfl, rfl, RD_.out, hHeld⟩
        refine AllReadyH.cons rfl (fun K hK => ?_) AllReadyH.nil
        go_simp
        have RD_ := hidB (Bk.new v1 47 #[.int .u8 0, .int .u8 0, .float .f64 0, .string ⟨#[]⟩, .int .i64 0, .int .u8 0, .float .f64 0, .string ⟨#[]⟩, .int .i64 0, .int .u8 0, .float .f64 0, .string ⟨#[]⟩, .int .i64 0, .bool false, .bool false, .bool false])
        have hgB_gR := hHeld.size
        replace hHeld := hHeld.alloc hHeld.size (.cells #[.int .u8 0, .int .u8 0, .float .f64 0, .string ⟨#[]⟩, .int .i64 0, .int .u8 0, .float .f64 0, .string ⟨#[]⟩, .int .i64 0, .int .u8 0, .float .f64 0, .string ⟨#[]⟩, .int .i64 0, .bool false, .bool false, .bool false] 47)
        refine hK.out _ _ hHeld (fun _ => ?_)
        clear hK K
        try simp only [Act.put, List.setIfInBounds_toArray, List.set_cons_zero, List.set_cons_succ]
        generalize hWn : (v1.alloc (.cells #[.int .u8 0, .int .u8 0, .float .f64 0, .string ⟨#[]⟩, .int .i64 0, .int .u8 0, .float .f64 0, .string ⟨#[]⟩, .int .i64 0, .int .u8 0, .float .f64 0, .string ⟨#[]⟩, .int .i64 0, .bool false, .bool false, .bool false] 47)) = v2 at *
        clear hWn
        generalize hGn : v1.heap.size = gR at *
        clear hGn
        refine wpAnyH_ready (rs := [8]) (by kernel_rfl) (by simp) ?_
        refine AllReadyH.cons rfl (fun K hK => ?_) AllReadyH.nil
        go_simp
        refine (tfind_any (plI k) POK.out ⟨sw, 0⟩ vk _ (RD.out _ hHeld)).mono ?_; rintro e v3 ⟨rfl, hb⟩
        rw [HDD.out]
        replace RD_ := hidB (RD_.out.on hb)
        replace hHeld := hHeld.trans (hb.mono hHeld.size)
        clear hb
        refine hK.out _ _ hHeld (fun _ => ?_)
        clear hK K
        try simp only [Act.put, List.setIfInBounds_toArray, List.set_cons_zero, List.set_cons_succ]
        first | (refine wpAnyH_take (i := 9) (v := undef) (by simp only [List.getElem?_toArray, List.getElem?_cons_succ, List.getElem?_cons_zero]; exact rfl) (by kernel_rfl) (by kernel_rfl) (by kernel_rfl) (fun _ _ _ h => h) (Or.inr ⟨?_, rfl⟩) (by assumption) ?_; (rfl); try simp only [Act.put, List.setIfInBounds_toArray, List.set_cons_zero, List.set_cons_succ]) | (refine wpAnyH_take (i := 9) (v := ?_) (by simp only [List.getElem?_toArray, List.getElem?_cons_succ, List.getElem?_cons_zero]; exact rfl) (by kernel_rfl) (by kernel_rfl) (by kernel_rfl) (fun _ _ _ h => h) (Or.inl ⟨?_, ?_⟩) (by assumption) ?_; rotate_left; (rfl); (focus (intro w hSw; (try dsimp only at hSw); go_simp; try with_reducible rfl)); try simp only [Act.put, List.setIfInBounds_toArray, List.set_cons_zero, List.set_cons_succ])
        first | (refine wpAnyH_take (i := 10) (v := undef) (by simp only [List.getElem?_toArray, List.getElem?_cons_succ, List.getElem?_cons_zero]; exact rfl) (by kernel_rfl) (by kernel_rfl) (by kernel_rfl) (fun _ _ _ h => h) (Or.inr ⟨?_, rfl⟩) (by assumption) ?_; (rfl); try simp only [Act.put, List.setIfInBounds_toArray, List.set_cons_zero, List.set_cons_succ]) | (refine wpAnyH_take (i := 10) (v := ?_) (by simp only [List.getElem?_toArray, List.getElem?_cons_succ, List.getElem?_cons_zero]; exact rfl) (by kernel_rfl) (by kernel_rfl) (by kernel_rfl) (fun _ _ _ h => h) (Or.inl ⟨?_, ?_⟩) (by assumption) ?_; rotate_left; (rfl); (focus (intro w hSw; (try dsimp only at hSw); go_simp; try with_reducible rfl)); try simp only [Act.put, List.setIfInBounds_toArray, List.set_cons_zero, List.set_cons_succ])
        first | (refine wpAnyH_take (i := 11) (v := undef) (by simp only [List.getElem?_toArray, List.getElem?_cons_succ, List.getElem?_cons_zero]; exact rfl) (by kernel_rfl) (by kernel_rfl) (by kernel_rfl) (fun _ _ _ h => h) (Or.inr ⟨?_, rfl⟩) (by assumption) ?_; (rfl); try simp only [Act.put, List.setIfInBounds_toArray, List.set_cons_zero, List.set_cons_succ]) | (refine wpAnyH_take (i := 11) (v := ?_) (by simp only [List.getElem?_toArray, List.getElem?_cons_succ, List.getElem?_cons_zero]; exact rfl) (by kernel_rfl) (by kernel_rfl) (by kernel_rfl) (fun _ _ _ h => h) (Or.inl ⟨?_, ?_⟩) (by assumption) ?_; rotate_left; (rfl); (focus (intro w hSw; (try dsimp only at hSw); go_simp; try with_reducible rfl)); try simp only [Act.put, List.setIfInBounds_toArray, List.set_cons_zero, List.set_cons_succ])
        first | (refine wpAnyH_take (i := 12) (v := undef) (by simp only [List.getElem?_toArray, List.getElem?_cons_succ, List.getElem?_cons_zero]; exact rfl) (by kernel_rfl) (by kernel_rfl) (by kernel_rfl) (fun _ _ _ h => h) (Or.inr ⟨?_, rfl⟩) (by assumption) ?_; (rfl); try simp only [Act.put, List.setIfInBounds_toArray, List.set_cons_zero, List.set_cons_succ]) | (refine wpAnyH_take (i := 12) (v := ?_) (by simp only [List.getElem?_toArray, List.getElem?_cons_succ, List.getElem?_cons_zero]; exact rfl) (by kernel_rfl) (by kernel_rfl) (by kernel_rfl) (fun _ _ _ h => h) (Or.inl ⟨?_, ?_⟩) (by assumption) ?_; rotate_left; (rfl); (focus (intro w hSw; (try dsimp only at hSw); go_simp; try with_reducible rfl)); try simp only [Act.put, List.setIfInBounds_toArray, List.set_cons_zero, List.set_cons_succ])
        refine wpAnyH_ready (rs := [14]) (by kernel_rfl) (by simp) ?_
        refine AllReadyH.cons rfl (fun K hK => ?_) AllReadyH.nil
        rw [if_pos (by kernel_rfl)]
        refine wp_store_row 47 (.tmp 11) (.tmp 85) (by rfl) gR dd.cs (by rfl) (by rfl) 47 #[.int .u8 0, .int .u8 0, .float .f64 0, .string ⟨#[]⟩, .int .i64 0, .int .u8 0, .float .f64 0, .string ⟨#[]⟩, .int .i64 0, .int .u8 0, .float .f64 0, .string ⟨#[]⟩, .int .i64 0, .bool false, .bool false, .bool false] (by exact RD_.out) (by kernel_rfl) (by rfl) (by exact (DI.one dd)) ?_
        replace RD_ := hidB (RD_.out.setRow dd.cs)
        replace hHeld := below_setRow hHeld hgB_gR dd.cs
        refine put_none_K (by first | rfl | kernel_rfl) ?_
        refine hK.out _ _ hHeld (fun _ => ?_)
        clear hK K
        generalize hWn : v3.setRow gR dd.cs = v4 at *
        clear hWn
        first | (refine wpAnyH_take (i := 15) (v := undef) (by simp only [List.getElem?_toArray, List.getElem?_cons_succ, List.getElem?_cons_zero]; exact rfl) (by kernel_rfl) (by kernel_rfl) (by kernel_rfl) (fun _ _ _ h => h) (Or.inr ⟨?_, rfl⟩) (by assumption) ?_; (rfl); try simp only [Act.put, List.setIfInBounds_toArray, List.set_cons_zero, List.set_cons_succ]) | (refine wpAnyH_take (i := 15) (v := ?_) (by simp only [List.getElem?_toArray, List.getElem?_cons_succ, List.getElem?_cons_zero]; exact rfl) (by kernel_rfl) (by kernel_rfl) (by kernel_rfl) (fun _ _ _ h => h) (Or.inl ⟨?_, ?_⟩) (by assumption) ?_; rotate_left; (rfl); (focus (intro w hSw; (try dsimp only at hSw); go_simp; try with_reducible rfl)); try simp only [Act.put, List.setIfInBounds_toArray, List.set_cons_zero, List.set_cons_succ])
        first | (refine wpAnyH_take (i := 16) (v := undef) (by simp only [List.getElem?_toArray, List.getElem?_cons_succ, List.getElem?_cons_zero]; exact rfl) (by kernel_rfl) (by kernel_rfl) (by kernel_rfl) (fun _ _ _ h => h) (Or.inr ⟨?_, rfl⟩) (by assumption) ?_; (rfl); try simp only [Act.put, List.setIfInBounds_toArray, List.set_cons_zero, List.set_cons_succ]) | (refine wpAnyH_take (i := 16) (v := ?_) (by simp only [List.getElem?_toArray, List.getElem?_cons_succ, List.getElem?_cons_zero]; exact rfl) (by kernel_rfl) (by kernel_rfl) (by kernel_rfl) (fun _ _ _ h => h) (Or.inl ⟨?_, ?_⟩) (by assumption) ?_; rotate_left; (rfl); (focus (intro w hSw; (try dsimp only at hSw); go_simp; try with_reducible rfl)); try simp only [Act.put, List.setIfInBounds_toArray, List.set_cons_zero, List.set_cons_succ])
        refine wpAnyH_done (by kernel_rfl) ?_ _
        refine NoPanic.normal ?_
        go_wp2_with fail
        go_meet
        case rel => exact ⟨_, rfl, rfl, rfl, RD_.out, hHeld⟩
      refine AllReadyH.cons rfl (fun K hK => ?_) AllReadyH.nil
      go_simp
      have RD_ := hidB (Bk.new wd 47 #[.int .u8 0, .int .u8 0, .float .f64 0, .string ⟨#[]⟩, .int .i64 0, .int .u8 0, .float .f64 0, .string ⟨#[]⟩, .int .i64 0, .int .u8 0, .float .f64 0, .string ⟨#[]⟩, .int .i64 0, .bool false, .bool false, .bool false])
      have hgB_gR := hHeld.size
      replace hHeld := hHeld.alloc hHeld.size (.cells #[.int .u8 0, .int .u8 0, .float .f64 0, .string ⟨#[]⟩, .int .i64 0, .int .u8 0, .float .f64 0, .string ⟨#[]⟩, .int .i64 0, .int .u8 0, .float .f64 0, .string ⟨#[]⟩, .int .i64 0, .bool false, .bool false, .bool false] 47)
      refine hK.out _ _ hHeld (fun _ => ?_)
      clear hK K
      try simp only [Act.put, List.setIfInBounds_toArray, List.set_cons_zero, List.set_cons_succ]
      generalize hWn : (wd.alloc (.cells #[.int .u8 0, .int .u8 0, .float .f64 0, .string ⟨#[]⟩, .int .i64 0, .int .u8 0, .float .f64 0, .string ⟨#[]⟩, .int .i64 0, .int .u8 0, .float .f64 0, .string ⟨#[]⟩, .int .i64 0, .bool false, .bool false, .bool false] 47)) = v1 at *
      clear hWn
      generalize hGn : wd.heap.size = gR at *
      clear hGn
      refine wpAnyH_ready (rs := [7]) (by kernel_rfl) (by simp) ?_
      refine AllReadyH.cons rfl (fun K hK => ?_) AllReadyH.nil
      go_simp
      refine (keyOf_any sw _).mono ?_; rintro e v2 ⟨rfl, hb⟩
      replace RD_ := hidB (RD_.out.on hb)
      replace hHeld := hHeld.trans (hb.mono hHeld.size)
      clear hb
      refine hK.out _ _ hHeld (fun _ => ?_)
      clear hK K
      try simp only [Act.put, List.setIfInBounds_toArray, List.set_cons_zero, List.set_cons_succ]
      refine wpAnyH_ready (rs := [8]) (by kernel_rfl) (by simp) ?_
      refine AllReadyH.cons rfl (fun K hK => ?_) AllReadyH.nil
      go_simp
      refine (tfind_any (plI k) POK.out ⟨sw, 0⟩ vk _ (RD.out _ hHeld)).mono ?_; rintro e v3 ⟨rfl, hb⟩
      rw [HDD.out]
      replace RD_ := hidB (RD_.out.on hb)
      replace hHeld := hHeld.trans (hb.mono hHeld.size)
      clear hb
      refine hK.out _ _ hHeld (fun _ => ?_)
      clear hK K
      try simp only [Act.put, List.setIfInBounds_toArray, List.set_cons_zero, List.set_cons_succ]
      first | (refine wpAnyH_take (i := 9) (v := undef) (by simp only [List.getElem?_toArray, List.getElem?_cons_succ, List.getElem?_cons_zero]; exact rfl) (by kernel_rfl) (by kernel_rfl) (by kernel_rfl) (fun _ _ _ h => h) (Or.inr ⟨?_, rfl⟩) (by assumption) ?_; (rfl); try simp only [Act.put, List.setIfInBounds_toArray, List.set_cons_zero, List.set_cons_succ]) | (refine wpAnyH_take (i := 9) (v := ?_) (by simp only [List.getElem?_toArray, List.getElem?_cons_succ, List.getElem?_cons_zero]; exact rfl) (by kernel_rfl) (by kernel_rfl) (by kernel_rfl) (fun _ _ _ h => h) (Or.inl ⟨?_, ?_⟩) (by assumption) ?_; rotate_left; (rfl); (focus (intro w hSw; (try dsimp only at hSw); go_simp; try with_reducible rfl)); try simp only [Act.put, List.setIfInBounds_toArray, List.set_cons_zero, List.set_cons_succ])
      first | (refine wpAnyH_take (i := 10) (v := undef) (by simp only [List.getElem?_toArray, List.getElem?_cons_succ, List.getElem?_cons_zero]; exact rfl) (by kernel_rfl) (by kernel_rfl) (by kernel_rfl) (fun _ _ _ h => h) (Or.inr ⟨?_, rfl⟩) (by assumption) ?_; (rfl); try simp only [Act.put, List.setIfInBounds_toArray, List.set_cons_zero, List.set_cons_succ]) | (refine wpAnyH_take (i := 10) (v := ?_) (by simp only [List.getElem?_toArray, List.getElem?_cons_succ, List.getElem?_cons_zero]; exact rfl) (by kernel_rfl) (by kernel_rfl) (by kernel_rfl) (fun _ _ _ h => h) (Or.inl ⟨?_, ?_⟩) (by assumption) ?_; rotate_left; (rfl); (focus (intro w hSw; (try dsimp only at hSw); go_simp; try with_reducible rfl)); try simp only [Act.put, List.setIfInBounds_toArray, List.set_cons_zero, List.set_cons_succ])
      first | (refine wpAnyH_take (i := 11) (v := undef) (by simp only [List.getElem?_toArray, List.getElem?_cons_succ, List.getElem?_cons_zero]; exact rfl) (by kernel_rfl) (by kernel_rfl) (by kernel_rfl) (fun _ _ _ h => h) (Or.inr ⟨?_, rfl⟩) (by assumption) ?_; (rfl); try simp only [Act.put, List.setIfInBounds_toArray, List.set_cons_zero, List.set_cons_succ]) | (refine wpAnyH_take (i := 11) (v := ?_) (by simp only [List.getElem?_toArray, List.getElem?_cons_succ, List.getElem?_cons_zero]; exact rfl) (by kernel_rfl) (by kernel_rfl) (by kernel_rfl) (fun _ _ _ h => h) (Or.inl ⟨?_, ?_⟩) (by assumption) ?_; rotate_left; (rfl); (focus (intro w hSw; (try dsimp only at hSw); go_simp; try with_reducible rfl)); try simp only [Act.put, List.setIfInBounds_toArray, List.set_cons_zero, List.set_cons_succ])
      first | (refine wpAnyH_take (i := 12) (v := undef) (by simp only [List.getElem?_toArray, List.getElem?_cons_succ, List.getElem?_cons_zero]; exact rfl) (by kernel_rfl) (by kernel_rfl) (by kernel_rfl) (fun _ _ _ h => h) (Or.inr ⟨?_, rfl⟩) (by assumption) ?_; (rfl); try simp only [Act.put, List.setIfInBounds_toArray, List.set_cons_zero, List.set_cons_succ]) | (refine wpAnyH_take (i := 12) (v := ?_) (by simp only [List.getElem?_toArray, List.getElem?_cons_succ, List.getElem?_cons_zero]; exact rfl) (by kernel_rfl) (by kernel_rfl) (by kernel_rfl) (fun _ _ _ h => h) (Or.inl ⟨?_, ?_⟩) (by assumption) ?_; rotate_left; (rfl); (focus (intro w hSw; (try dsimp only at hSw); go_simp; try with_reducible rfl)); try simp only [Act.put, List.setIfInBounds_toArray, List.set_cons_zero, List.set_cons_succ])
      refine wpAnyH_ready (rs := [14]) (by kernel_rfl) (by simp) ?_
      refine AllReadyH.cons rfl (fun K hK => ?_) AllReadyH.nil
      rw [if_pos (by kernel_rfl)]
      refine wp_store_row 47 (.tmp 11) (.tmp 85) (by rfl) gR dd.cs (by rfl) (by rfl) 47 #[.int .u8 0, .int .u8 0, .float .f64 0, .string ⟨#[]⟩, .int .i64 0, .int .u8 0, .float .f64 0, .string ⟨#[]⟩, .int .i64 0, .int .u8 0, .float .f64 0, .string ⟨#[]⟩, .int .i64 0, .bool false, .bool false, .bool false] (by exact RD_.out) (by kernel_rfl) (by rfl) (by exact (DI.one dd)) ?_
      replace RD_ := hidB (RD_.out.setRow dd.cs)
      replace hHeld := below_setRow hHeld hgB_gR dd.cs
      refine put_none_K (by first | rfl | kernel_rfl) ?_
      refine hK.out _ _ hHeld (fun _ => ?_)
      clear hK K
      generalize hWn : v3.setRow gR dd.cs = v4 at *
      clear hWn
      first | (refine wpAnyH_take (i := 15) (v := undef) (by simp only [List.getElem?_toArray, List.getElem?_cons_succ, List.getElem?_cons_zero]; exact rfl) (by kernel_rfl) (by kernel_rfl) (by kernel_rfl) (fun _ _ _ h => h) (Or.inr ⟨?_, rfl⟩) (by assumption) ?_; (rfl); try simp only [Act.put, List.setIfInBounds_toArray, List.set_cons_zero, List.set_cons_succ]) | (refine wpAnyH_take (i := 15) (v := ?_) (by simp only [List.getElem?_toArray, List.getElem?_cons_succ, List.getElem?_cons_zero]; exact rfl) (by kernel_rfl) (by kernel_rfl) (by kernel_rfl) (fun _ _ _ h => h) (Or.inl ⟨?_, ?_⟩) (by assumption) ?_; rotate_left; (rfl); (focus (intro w hSw; (try dsimp only at hSw); go_simp; try with_reducible rfl)); try simp only [Act.put, List.setIfInBounds_toArray, List.set_cons_zero, List.set_cons_succ])
      first | (refine wpAnyH_take (i := 16) (v := undef) (by simp only [List.getElem?_toArray, List.getElem?_cons_succ, List.getElem?_cons_zero]; exact rfl) (by kernel_rfl) (by kernel_rfl) (by kernel_rfl) (fun _ _ _ h => h) (Or.inr ⟨?_, rfl⟩) (by assumption) ?_; (rfl); try simp only [Act.put, List.setIfInBounds_toArray, List.set_cons_zero, List.set_cons_succ]) | (refine wpAnyH_take (i := 16) (v := ?_) (by simp only [List.getElem?_toArray, List.getElem?_cons_succ, List.getElem?_cons_zero]; exact rfl) (by kernel_rfl) (by kernel_rfl) (by kernel_rfl) (fun _ _ _ h => h) (Or.inl ⟨?_, ?_⟩) (by assumption) ?_; rotate_left; (rfl); (focus (intro w hSw; (try dsimp only at hSw); go_simp; try with_reducible rfl)); try simp only [Act.put, List.setIfInBounds_toArray, List.set_cons_zero, List.set_cons_succ])
      refine wpAnyH_done (by kernel_rfl) ?_ _
      refine NoPanic.normal ?_
      go_wp2_with fail
      go_meet
      case rel => exact ⟨_, rfl, rfl, rfl, RD_.out, hHeld⟩
    case rest =>
    obtain ⟨gd, rfl, rfl, rfl, hD, hb⟩ := hcut
    have D1 := hidB hD
    replace B := hidB (B.out.trans (hb.mono B.out.size))
    clear hD hb Y RD HC8 HDD
    by_cases he : ee = 0
    rotate_left
    · have HF := hidB (show fndD (dd, bb, ee) = -1 from if_neg he)
      have he2 : (ee == 0) = false := by rw [beq_eq_false_iff_ne]; exact he
      have he3 : (ee != 0) = true := by rw [bne, he2]; rfl
      clear he
      go_wp2_with fail
      go_ret
      exact ⟨by rw [HM.out, HF.out]; rfl, B.out⟩
    subst he
    cases bb
    · have HF := hidB (show fndD (dd, false, 0) = -1 from rfl)
      go_wp2_with fail
      go_ret
      exact ⟨by rw [HM.out, HF.out]; rfl, B.out⟩
    have d4 : wc.cell? ⟨gd, 4, none⟩ = some (.int .i64 dd.v.r) := D1.out.cell 4
    go_wp2_with (first | ((with_reducible refine ldId 33 (.tmp 95) ?_); refine wpList_wload_mid 33 (.tmp 95) (by rfl) (by rfl) gd 1 (by rfl) dd.v.cells _ (by exact Bk.mid D1.out 1 _ rfl) Try.underlying33 (by rfl) (by kernel_rfl) ?_))
    refine (isObj_any dd.v.k dd.v.x dd.v.s dd.v.r _).mono ?_; rintro e w6 ⟨rfl, hb1⟩
    have hb := hb1 ▸ box_one wc (.cells dd.v.cells.toArray 33)
    have d5 : w6.cell? ⟨gd, 4, none⟩ = some (.int .i64 dd.v.r) := (D1.out.on hb).cell 4
    replace B := hidB (B.out.trans (hb.mono B.out.size))
    clear hb hb1 d4 D1
    cases hio : isObj dd.v.k
    · have HF := hidB (show fndD (dd, true, 0) = -1 by unfold fndD; rw [hio]; rfl)
      clear hio
      go_wp2_with fail
      go_ret
      exact ⟨by rw [HM.out, HF.out]; rfl, B.out⟩
    · have HF := hidB (show fndD (dd, true, 0) = dd.v.r by unfold fndD; rw [hio]; rfl)
      clear hio
      go_wp2_with fail
      go_ret
      exact ⟨by rw [HM.out, HF.out]; rfl, B.out⟩

end Go.Proofs.Ytchpkopeblgifaa
