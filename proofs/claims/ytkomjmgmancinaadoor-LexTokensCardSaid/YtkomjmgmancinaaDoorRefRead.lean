/-
  The walk of the reference's Read.
-/
import Derived.Test.YtkomjmgmancinaaDoorLxJ
import Derived.Test.YtkomjmgmancinaaDoorLxL
namespace Go.Proofs.YtkomjmgmancinaaDoor
open Go.RowKit

theorem refNaN_any (w : World) : Calls Tryd.prog 85 #[] w fun e w' => (∃ r, e = .returned (.float .f64 r) ∧ Fl.isNaN r = true) ∧ w.drew = w' := by
  obtain ⟨r, hr, hrun⟩ := run_div_0_0 (P := Tryd.prog) 23 w
  have Hr := hid hr
  clear hr
  go_enter Tryd.func85, Tryd.ntmps85
  go_wp2
  go_ret
  exact ⟨⟨r, rfl, Hr.out⟩, rfl⟩

/-- How many bytes the sign takes. -/
def signN (t : List UInt8) : Nat := if t.head? = some 45 ∨ t.head? = some 43 then 1 else 0

theorem unsigned_drop (t : List UInt8) : unsigned t = t.drop (signN t) := by
  unfold unsigned signN
  split
  · rw [List.drop_one]
  · rfl

theorem unsigned_at (t : List UInt8) (k : Nat) (h : k < (unsigned t).length) (h2 : signN t + k < t.length) : (unsigned t)[k] = t[signN t + k] := by
  have e := unsigned_drop t
  have : (unsigned t)[k]? = t[signN t + k]? := by rw [e, List.getElem?_drop]
  rw [List.getElem?_eq_getElem h, List.getElem?_eq_getElem h2] at this
  exact Option.some.inj this

theorem unsigned_length (t : List UInt8) : (unsigned t).length = t.length - signN t := by rw [unsigned_drop, List.length_drop]

theorem ref_end {t : List UInt8} {m : Bool} (h0 : t ≠ []) (h1 : unsigned t ≠ []) (hm : m = decide (t.head? = some 45)) (hd : (unsigned t).all isDig = true) (hw : worth (unsigned t) ≤ 9007199254740991) :
    bareR t = if (m && decide (worth (unsigned t) = 0)) then (10, some 0) else (0, some (if m then -(worth (unsigned t) : Int) else (worth (unsigned t) : Int))) := by
  have h := rd_end (W := worth (unsigned t)) (g := false) h0 h1 hm ⟨by rw [List.take_length]; exact hd, by rw [List.take_length]; symm; rw [decide_eq_false_iff_not]; omega, by rw [List.take_length]; rfl⟩
  rw [h]
  unfold endR
  rw [Bool.false_or]

theorem ref_great {t : List UInt8} (h0 : t ≠ []) (h1 : unsigned t ≠ []) (hd : (unsigned t).all isDig = true) (k : Nat) (hw : 9007199254740991 < worth ((unsigned t).take k)) : bareR t = (10, some 0) := by
  have := worth_take_le (unsigned t) k
  unfold bareR
  rw [if_neg h0, if_neg h1, if_neg (by rw [hd]; decide), if_pos (Or.inl (by omega))]

theorem worth_step {t : List UInt8} (k : Nat) (hk : k < (unsigned t).length) : worth ((unsigned t).take (k + 1)) = 10 * worth ((unsigned t).take k) + ((unsigned t)[k].toNat - 48) := by
  rw [List.take_succ_eq_append_getElem hk, worth_snoc]

set_option maxHeartbeats 2000000 in
set_option maxRecDepth 100000 in
theorem refRead_any (s : ByteArray) (w : World) (hs : s.size ≤ 5000) :
    Calls Tryd.prog 62 #[.string s] w (Tells (readR s.data.toList) w) := by
  have T := hid (fun W => bare_any s W hs)
  have hT := trimS_length s.data.toList blanks
  unfold readR
  generalize Lib.trimS s.data.toList blanks = t at *
  have ht : t.length ≤ 5000 := by have := ba_size s; omega
  clear hT hs
  by_cases h0 : t = []
  · subst h0
    go_enter Tryd.func62, Tryd.ntmps62
    go_wp2_with fail
    refine (T.out _).mono ?_
    rintro e w1 ⟨⟨r, rfl, hr⟩, rfl⟩
    have hr2 : r.toList.isEmpty = true := by rw [toList_data, hr]; rfl
    clear hr
    go_wp2_with fail
    go_ret2
    exact ⟨⟨0, rfl, Fl.is_0⟩, Below.refl _ _⟩
  have H0 := hid h0
  have hlen : 0 < t.length := List.length_pos_iff.2 h0
  obtain ⟨m, hm⟩ : ∃ m, m = decide (t.head? = some 45) := ⟨_, rfl⟩
  obtain ⟨p, hp⟩ : ∃ p, p = decide (t.head? = some 43) := ⟨_, rfl⟩
  have Hm := hid hm
  have Hp := hid hp
  have hh : t.head? = some (t[0]'hlen) := by rw [List.head?_eq_getElem?, List.getElem?_eq_getElem hlen]
  have hsg : signN t = if (m || p) then 1 else 0 := by
    unfold signN
    rw [hm, hp]
    by_cases h1 : t.head? = some 45
    · simp [h1]
    · by_cases h2 : t.head? = some 43 <;> simp [h1, h2]
  rw [hh] at hm hp
  have Hsg := hid hsg
  clear h0 hsg
  go_enter Tryd.func62, Tryd.ntmps62
  go_wp2_with fail
  refine (T.out _).mono ?_
  rintro e w1 ⟨⟨r, rfl, hr⟩, rfl⟩
  clear T
  have hr2 : r.toList.isEmpty = false := by rw [toList_data, hr]; simpa using H0.out
  have hsz : r.size = t.length := by rw [ba_size, hr]
  have hrs : 0 < r.size := by omega
  have hrz : r.size ≤ 5000 := by omega
  have e0 := ba_at r t hr 0 hrs hlen
  have f1 : ((r[0].toNat : Int) == 45) = m := by
    rw [hm, e0, Bool.eq_iff_iff, beq_iff_eq, decide_eq_true_eq, Option.some.injEq, ← UInt8.toNat_inj]
    show ((t[0]'_).toNat : Int) = 45 ↔ (t[0]'_).toNat = 45
    omega
  have f2 : ((r[0].toNat : Int) == 43) = p := by
    rw [hp, e0, Bool.eq_iff_iff, beq_iff_eq, decide_eq_true_eq, Option.some.injEq, ← UInt8.toNat_inj]
    show ((t[0]'_).toNat : Int) = 43 ↔ (t[0]'_).toNat = 43
    omega
  have Hr := hid hr
  have Hsz := hid hsz
  have F1 := hid f1
  clear hr hm hp hh e0 hsz
  go_upto_region 5 with fail
  go_cut [20] from 13 to 69 (fun s20 wx => s20 = .bool (m || p) ∧ w = wx)
  case first =>
    cases m <;> cases p
    all_goals
      go_wp2_with fail
      go_meet
      case rel => exact ⟨rfl, rfl⟩
  case rest =>
  obtain ⟨rfl, rfl⟩ := hcut
  go_upto_if 20 with fail
  go_cut [5] from 13 to 69 (fun s5 wx => s5 = .int .i64 (signN t) ∧ w = wx)
  case first =>
    cases hmp : (m || p)
    · go_wp2_with fail
      go_meet
      case rel => exact ⟨by rw [Hsg.out, hmp]; rfl, rfl⟩
    · go_wp2_with fail
      go_meet
      case rel => exact ⟨by rw [Hsg.out, hmp]; rfl, rfl⟩
  case rest =>
    obtain ⟨rfl, rfl⟩ := hcut
    have Hul := hid (unsigned_length t)
    have hsle : signN t ≤ 1 := by unfold signN; split <;> omega
    obtain ⟨a, haE⟩ : ∃ a, a = signN t := ⟨_, rfl⟩
    rw [← haE] at hsle Hul Hsg ⊢
    have HA := hid haE
    clear haE f1 f2 hr2
    by_cases h1 : unsigned t = []
    · have e : bareR t = (0, none) := by unfold bareR; rw [if_neg H0.out, if_pos h1]
      have E := hid e
      have hz : ((a : Int) == (r.size : Int)) = true := by
        have h2 := Hul.out
        rw [h1] at h2
        rw [Hsz.out, beq_iff_eq]
        simp at h2
        omega
      clear e h1
      go_wp2_with (go_at_call 85; refine (refNaN_any _).mono ?_; rintro e w' ⟨⟨z, rfl, hz⟩, rfl⟩; have Hz := hid hz; clear hz)
      go_ret2
      rw [E.out]
      exact ⟨⟨z, rfl, Hz.out⟩, (Below.refl _ _).drew⟩
    have H1 := hid h1
    have hlt : a < r.size := by
      have h2 := Hul.out
      have h3 : 0 < (unsigned t).length := List.length_pos_iff.2 h1
      rw [Hsz.out]; omega
    have hz : ((a : Int) == (r.size : Int)) = false := by rw [beq_eq_false_iff_ne]; omega
    clear h1
    have hat : ∀ k (hk : a + k < r.size), ∃ hk2 : k < (unsigned t).length, r[a + k] = (unsigned t)[k] := by
      intro k hk
      have hk2 : k < (unsigned t).length := by rw [Hul.out, ← Hsz.out]; omega
      have hk3 : a + k < t.length := by rw [← Hsz.out]; exact hk
      refine ⟨hk2, ?_⟩
      rw [ba_at r t Hr.out (a + k) hk hk3, unsigned_at t k hk2 (by rw [← HA.out]; exact hk3)]
      congr 1
      rw [HA.out]
    have Hat := hid hat
    clear hat
    go_upto_block 0 with fail
    go_cut [5] from 27 to 69 (fun s5 wx => s5 = .int .i64 a ∧ (unsigned t).all isDig = true ∧ w = wx)
    case first =>
      go_wp2_with fail
      go_loop [6] (fun v => ∃ k : Nat, v = .int .i64 ((a + k : Nat) : Int) ∧ a + k ≤ r.size ∧ ((unsigned t).take k).all isDig = true) (fun v => r.size - (intOf v).toNat)
      case atStart => exact ⟨0, rfl, by omega, rfl⟩
      case round =>
        obtain ⟨k, rfl, hk, hd⟩ := hrel
        have Hd := hid hd
        clear hd
        by_cases hkl : a + k < r.size
        · obtain ⟨hk2, e0⟩ := Hat.out k hkl
          have E0 := hid e0
          clear e0
          have h256 := (r[a + k]).toNat_lt
          by_cases hd : isDig (unsigned t)[k] = true
          · have hd2 := hd
            unfold isDig at hd2
            rw [← E0.out] at hd2
            simp only [Bool.and_eq_true, decide_eq_true_eq] at hd2
            obtain ⟨d1, d2⟩ := hd2
            have c1 : ¬ (r[a + k].toNat : Int) < 48 := by omega
            have c2 : ¬ (57 : Int) < (r[a + k].toNat : Int) := by omega
            have Hdk := hid hd
            clear hd d1 d2
            go_wp2_with fail
            refine ⟨⟨k + 1, by go_num, by omega, ?_⟩, by simp [intOf]; omega⟩
            rw [List.take_succ_eq_append_getElem hk2, List.all_append, Hd.out]
            simp [Hdk.out]
          · have e : bareR t = (0, none) := rd_no H0.out hk2 (by simpa using hd)
            have E := hid e
            unfold isDig at hd
            rw [← E0.out] at hd
            simp only [Bool.and_eq_true, decide_eq_true_eq] at hd
            have hd : r[a + k].toNat < 48 ∨ 57 < r[a + k].toNat := by omega
            rcases hd with hd | hd
            · have c1 : (r[a + k].toNat : Int) < 48 := by omega
              clear e hd
              go_wp2_with (go_at_call 85; refine (refNaN_any _).mono ?_; rintro e w' ⟨⟨z, rfl, hz⟩, rfl⟩; have Hz := hid hz; clear hz)
              go_ret2
              rw [E.out]
              exact ⟨⟨z, rfl, Hz.out⟩, (Below.refl _ _).drew⟩
            · have c1 : ¬ (r[a + k].toNat : Int) < 48 := by omega
              have c2 : (57 : Int) < (r[a + k].toNat : Int) := by omega
              clear e hd
              go_wp2_with (go_at_call 85; refine (refNaN_any _).mono ?_; rintro e w' ⟨⟨z, rfl, hz⟩, rfl⟩; have Hz := hid hz; clear hz)
              go_ret2
              rw [E.out]
              exact ⟨⟨z, rfl, Hz.out⟩, (Below.refl _ _).drew⟩
        · go_wp2_with fail
          go_meet
          case rel =>
            refine ⟨rfl, ?_, rfl⟩
            have := Hd.out
            rw [List.take_of_length_le (by rw [Hul.out, ← Hsz.out]; omega)] at this
            exact this
    case rest =>
      obtain ⟨rfl, hd, rfl⟩ := hcut
      have HD := hid hd
      clear hd
      go_wp2_with fail
      go_loop [7, 8] (fun n v => ∃ k W : Nat, v = .int .i64 ((a + k : Nat) : Int) ∧ a + k ≤ r.size ∧ n = .int .i64 W ∧ W ≤ 9007199254740991 ∧ W = worth ((unsigned t).take k)) (fun _ v => r.size - (intOf v).toNat)
      case atStart => exact ⟨0, 0, rfl, by omega, rfl, by omega, rfl⟩
      case round =>
        obtain ⟨k, W, rfl, hk, rfl, hW, hw⟩ := hrel
        have HW := hid hw
        clear hw
        by_cases hkl : a + k < r.size
        · obtain ⟨hk2, e0⟩ := Hat.out k hkl
          have E0 := hid e0
          clear e0
          have h256 := (r[a + k]).toNat_lt
          have hd : isDig (unsigned t)[k] = true := List.all_eq_true.1 HD.out _ (List.getElem_mem hk2)
          unfold isDig at hd
          rw [← E0.out] at hd
          simp only [Bool.and_eq_true, decide_eq_true_eq] at hd
          obtain ⟨d1, d2⟩ := hd
          have c1 : (48 : Int) ≤ (r[a + k].toNat : Int) := by omega
          have c2 : (r[a + k].toNat : Int) ≤ 57 := by omega
          have hs := worth_step k hk2
          rw [← HW.out, ← E0.out] at hs
          have Hs := hid hs
          have EW := hid (show ((10 * W + (r[a + k].toNat - 48) : Nat) : Int) = 10 * (W : Int) + (r[a + k].toNat : Int) - 48 by omega)
          by_cases hV : (9007199254740991 : Int) < 10 * (W : Int) + (r[a + k].toNat : Int) - 48
          · have E := hid (ref_great H0.out H1.out HD.out (k + 1) (by rw [hs]; omega))
            clear hs d1 d2
            go_wp2_with fail
            go_ret2
            rw [E.out]
            exact ⟨⟨0, rfl, Fl.is_0⟩, Below.refl _ _⟩
          · clear hs d1 d2
            go_wp2_with fail
            refine ⟨⟨k + 1, _, by go_num, by omega, congrArg (Value.int .i64) EW.out.symm, by omega, Hs.out.symm⟩, by simp [intOf]; omega⟩
        · have hw := HW.out
          rw [List.take_of_length_le (by rw [Hul.out, ← Hsz.out]; omega)] at hw
          have e := ref_end H0.out H1.out Hm.out HD.out (by omega)
          rw [← hw] at e
          have E := hid e
          have f1 := F1.out
          have z : ((W : Int) == 0) = decide (W = 0) := by rw [Bool.eq_iff_iff, beq_iff_eq, decide_eq_true_eq]; omega
          clear e hw
          cases m
          · have hi := hid (Fl.is_nearest (W : Int) (by omega) (by omega))
            clear z
            go_wp2_with fail
            go_ret2
            rw [E.out]
            exact ⟨⟨_, rfl, hi.out⟩, Below.refl _ _⟩
          · by_cases hz0 : W = 0
            · rw [decide_eq_true hz0] at z
              have E2 : Hid (bareR t = (10, some 0)) := hid (by rw [E.out, if_pos (by simp [hz0])])
              clear E
              clear hz0
              go_wp2_with fail
              go_ret2
              rw [E2.out]
              exact ⟨⟨0, rfl, Fl.is_0⟩, Below.refl _ _⟩
            · rw [decide_eq_false hz0] at z
              have E2 : Hid (bareR t = (0, some (-(W : Int)))) := hid (by rw [E.out, if_neg (by simp [hz0]), if_pos (by trivial)])
              clear E
              have hi := hid (Fl.is_nearest (-(W : Int)) (by omega) (by omega))
              clear hz0
              go_wp2_with fail
              go_ret2
              rw [E2.out]
              exact ⟨⟨_, rfl, hi.out⟩, Below.refl _ _⟩

end Go.Proofs.YtkomjmgmancinaaDoor
