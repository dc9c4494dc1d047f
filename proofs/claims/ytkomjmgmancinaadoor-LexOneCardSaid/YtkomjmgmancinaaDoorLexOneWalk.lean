/-
  The walk of the statement LexOne.
-/
import Derived.Test.YtkomjmgmancinaaDoorOnlyWalk
import Derived.Test.YtkomjmgmancinaaDoorAliveT
import Derived.Deep.CutRange
namespace Go.Proofs.YtkomjmgmancinaaDoor
open Go.RowKit

/-- May a text be a name: neither empty nor too long, no digit in front? -/
def n0B (l : List UInt8) : Bool := (decide (0 < l.length) && decide (l.length ≤ 4096)) && !(l.take 1).any isDig
def nmB (l : List UInt8) (k : Nat) : Bool := n0B l && (l.take k).all isNm
theorem nm_zero (l : List UInt8) : nmB l 0 = n0B l := by unfold nmB; simp
theorem nm_step {l : List UInt8} {k : Nat} (h : k < l.length) : nmB l (k + 1) = (nmB l k && isNm l[k]) := by
  unfold nmB
  rw [List.take_succ_eq_append_getElem h, List.all_append, List.all_cons, List.all_nil, Bool.and_true, Bool.and_assoc]
theorem n0_first {l : List UInt8} (h : 0 < l.length) (h2 : l.length ≤ 4096) : n0B l = !isDig l[0] := by
  unfold n0B
  cases l with
  | nil => simp at h
  | cons c r => simp; intro h3; simp at h2; omega
theorem n0_short {l : List UInt8} (h : l.length = 0) : n0B l = false := by unfold n0B; rw [h]; rfl
theorem n0_long {l : List UInt8} (h : 4096 < l.length) : n0B l = false := by
  unfold n0B; rw [decide_eq_false (by omega : ¬ l.length ≤ 4096), Bool.and_false]; rfl
theorem n0_of_nm {l : List UInt8} {k : Nat} (h : nmB l k = true) : n0B l = true := by
  unfold nmB at h; rw [Bool.and_eq_true] at h; exact h.1
theorem nm_word {l : List UInt8} {k : Nat} (h : nmB l k = false) : wordB l = false := by
  cases hw : wordB l with
  | false => rfl
  | true =>
    exfalso
    have h1 := word_short hw
    have h2 : 0 < l.length := List.length_pos_iff.2 (among_from hw).1
    have hlet : ∀ b ∈ l, isLet b = true := fun b hb => word_let hw hb
    have h3 : isDig l[0] = false := by
      have := hlet _ (List.getElem_mem h2)
      rcases kind_cases l[0] with ⟨h1, _, _⟩ | ⟨h1, _⟩ | ⟨h1, _⟩ | ⟨h1, _⟩
      · have hl := (isLet_iff _).1 h1
        exact bfalse (isDig_iff _) (by omega)
      · rw [h1] at this; cases this
      · rw [h1] at this; cases this
      · rw [h1] at this; cases this
    have h4 : nmB l k = true := by
      unfold nmB
      rw [n0_first h2 (by omega), h3, Bool.not_false, Bool.true_and, List.all_eq_true]
      intro b hb
      unfold isNm
      rw [hlet b (List.mem_of_mem_take hb)]; rfl
    rw [h4] at h; cases h
theorem nm_all {l : List UInt8} (h : nmB l l.length = true) : oneOk (if wordB l then 2 else 1) l ∧ l.length ≤ 4096 ∧ 0 < l.length := by
  have h0 := n0_of_nm h
  have hx := h0
  unfold n0B at hx
  simp only [Bool.and_eq_true, decide_eq_true_eq] at hx
  obtain ⟨⟨h1, h2⟩, _⟩ := hx
  have h3 := n0_first h1 h2
  rw [h0] at h3
  refine ⟨name_one h1 h2 ?_ (by simpa using h3.symm), h2, h1⟩
  unfold nmB at h
  rw [Bool.and_eq_true, List.take_length] at h
  exact h.2
theorem nm_sign {l : List UInt8} (h : nmB l l.length = true) : signB l = false := by
  cases hs : signB l with
  | false => rfl
  | true =>
    exfalso
    obtain ⟨_, _, h0⟩ := nm_all h
    have h1 := sign_not hs (List.getElem_mem h0)
    unfold nmB at h
    rw [Bool.and_eq_true, List.take_length] at h
    have := List.all_eq_true.1 h.2 _ (List.getElem_mem h0)
    rw [h1] at this; cases this
theorem isNm_of {b : UInt8} (h : (97 ≤ b.toNat ∧ b.toNat ≤ 122) ∨ (65 ≤ b.toNat ∧ b.toNat ≤ 90) ∨ b.toNat = 95 ∨ b.toNat = 36 ∨ (48 ≤ b.toNat ∧ b.toNat ≤ 57)) : isNm b = true := by
  unfold isNm
  rw [Bool.or_eq_true, isLet_iff, isDig_iff]; omega
theorem isNm_not {b : UInt8} (h : ¬ ((97 ≤ b.toNat ∧ b.toNat ≤ 122) ∨ (65 ≤ b.toNat ∧ b.toNat ≤ 90) ∨ b.toNat = 95 ∨ b.toNat = 36 ∨ (48 ≤ b.toNat ∧ b.toNat ≤ 57))) : isNm b = false := by
  unfold isNm
  rw [Bool.or_eq_false_iff]
  exact ⟨bfalse (isLet_iff b) (by omega), bfalse (isDig_iff b) (by omega)⟩

set_option maxHeartbeats 8000000 in
set_option maxRecDepth 100000 in
theorem law_one (s : ByteArray) (hs0 : s.size ≤ 140737488351232) (w : World) (hm : Mx w) : Calls Tryd.prog 5 #[.string s] w fun e w' => e = .returned (.bool true) ∧ Below w.heap.size w w' := by
  have hs : s.size ≤ 9223372036854775800 := by omega
  clear hs0
  obtain ⟨l, hl⟩ : ∃ l, l = s.data.toList := ⟨_, rfl⟩
  have hsz : l.length = s.size := by rw [hl]; rfl
  have SZ := hidB hsz
  have HL := hidB hl
  have AL := hidB (fun W h => alive_any W h)
  have WA : Hid (∀ W, Mx W → Calls Tryd.prog 15 #[.string s] W fun e w' => e = .returned (.bool (wordB l)) ∧ W = w') := hidB (fun W h => by rw [HL.out]; exact wordP_any s hs W h)
  have SA : Hid (∀ W, Mx W → Calls Tryd.prog 17 #[.string s] W fun e w' => e = .returned (.bool (signB l)) ∧ W = w') := hidB (fun W h => by rw [HL.out]; exact signP_any s hs W h)
  have M := hidB hm
  clear hm hl hsz
  go_enter Tryd.func5, Tryd.ntmps5
  go_wp2_with fail
  refine (AL.out _ M.out).mono ?_; rintro e w1 ⟨rfl, hb1⟩
  have B1 := hidB hb1
  have M1 := hidB (mx_below M.out hb1)
  clear hb1
  go_upto_region 4 with fail
  go_cut [4] from 8 to 101 (fun s4 wx => s4 = .bool (n0B l) ∧ wx = w1)
  case first =>
    by_cases h0 : s.size = 0
    · have e := hidB (n0_short (l := l) (by rw [SZ.out, h0]))
      have hx : ¬ (0 : Int) < (s.size : Int) := by omega
      clear h0
      go_wp2_with fail
      go_meet
      case rel => exact ⟨by rw [e.out], rfl⟩
    by_cases h4 : s.size ≤ 4096
    · have hp : 0 < s.size := by omega
      have hx : (0 : Int) < (s.size : Int) := by omega
      have hx4 : (s.size : Int) ≤ 4096 := by omega
      have hp2 : 0 < l.length := by rw [SZ.out]; exact hp
      have e := hidB (n0_first hp2 (by rw [SZ.out]; exact h4))
      have E0 : Hid (l[0] = s[0]) := hidB (by have hh := HL.out; subst hh; rfl)
      rw [E0.out] at e
      clear E0 hp2 h0 h4
      have h256 := s[0].toNat_lt
      by_cases g1 : s[0].toNat < 48
      · have hx5 : (s[0].toNat : Int) < 48 := by omega
        have hd := hidB (bfalse (isDig_iff s[0]) (by omega))
        clear g1 h256
        go_wp2_with fail
        go_meet
        case rel => exact ⟨by rw [e.out, hd.out]; rfl, rfl⟩
      by_cases g2 : s[0].toNat ≤ 57
      · have hx5 : ¬ (s[0].toNat : Int) < 48 := by omega
        have hx6 : ¬ (57 : Int) < (s[0].toNat : Int) := by omega
        have hd := hidB ((isDig_iff s[0]).2 (by omega))
        clear g1 g2 h256
        go_wp2_with fail
        go_meet
        case rel => exact ⟨by rw [e.out, hd.out]; rfl, rfl⟩
      · have hx5 : ¬ (s[0].toNat : Int) < 48 := by omega
        have hx6 : (57 : Int) < (s[0].toNat : Int) := by omega
        have hd := hidB (bfalse (isDig_iff s[0]) (by omega))
        clear g1 g2 h256
        go_wp2_with fail
        go_meet
        case rel => exact ⟨by rw [e.out, hd.out]; rfl, rfl⟩
    · have hx : (0 : Int) < (s.size : Int) := by omega
      have hx4 : ¬ (s.size : Int) ≤ 4096 := by omega
      have e := hidB (n0_long (l := l) (by rw [SZ.out]; omega))
      clear h0 h4
      go_wp2_with fail
      go_meet
      case rel => exact ⟨by rw [e.out], rfl⟩
  case rest =>
  obtain ⟨rfl, rfl⟩ := hcut
  go_wp2_with fail
  go_loop [4, 5] (fun v4 i => ∃ k : Nat, k ≤ s.size ∧ i = .int .i64 k ∧ v4 = .bool (nmB l k)) (fun _ i => s.size - (intOf i).toNat)
  case atStart => exact ⟨0, by omega, rfl, by rw [nm_zero]⟩
  case round =>
    obtain ⟨k, hk, rfl, rfl⟩ := hrel
    cases hn : nmB l k
    · have NW := hidB (nm_word hn)
      clear hn
      have WA2 := WA.out
      rw [NW.out] at WA2
      have WA3 := hidB WA2
      clear WA2 WA
      have TAIL : True := trivial
      by_cases hlt : k < s.size
      · have hx2 : (k : Int) < (s.size : Int) := by omega
        clear hlt hk TAIL
        go_wp2_with fail
        refine (WA3.out _ M1.out).mono ?_; rintro e w2 ⟨rfl, rfl⟩
        go_wp2_with fail
        refine (SA.out _ M1.out).mono ?_; rintro e w2 ⟨rfl, rfl⟩
        cases hsg : signB l
        · go_wp2_with fail
          go_ret
          exact ⟨rfl, B1.out⟩
        · have O2 := sign_one hsg
          have h4 := sign_short hsg
          have OA := hidB (fun W h => only_any s s (by rw [SZ.out] at h4; omega) 5 _ _ (by rw [← HL.out]; exact O2) rfl (by exact HL.out.symm) W h)
          clear O2 h4 hsg
          go_wp2_with fail
          refine (OA.out _ M1.out).mono ?_; rintro e w2 ⟨rfl, hb2⟩
          have B2 := hidB (grow B1.out hb2)
          clear hb2
          go_wp2_with fail
          go_ret
          exact ⟨rfl, B2.out⟩
      · have hx2 : ¬ (k : Int) < (s.size : Int) := by omega
        clear hlt hk TAIL
        go_wp2_with fail
        refine (WA3.out _ M1.out).mono ?_; rintro e w2 ⟨rfl, rfl⟩
        go_wp2_with fail
        refine (SA.out _ M1.out).mono ?_; rintro e w2 ⟨rfl, rfl⟩
        cases hsg : signB l
        · go_wp2_with fail
          go_ret
          exact ⟨rfl, B1.out⟩
        · have O2 := sign_one hsg
          have h4 := sign_short hsg
          have OA := hidB (fun W h => only_any s s (by rw [SZ.out] at h4; omega) 5 _ _ (by rw [← HL.out]; exact O2) rfl (by exact HL.out.symm) W h)
          clear O2 h4 hsg
          go_wp2_with fail
          refine (OA.out _ M1.out).mono ?_; rintro e w2 ⟨rfl, hb2⟩
          have B2 := hidB (grow B1.out hb2)
          clear hb2
          go_wp2_with fail
          go_ret
          exact ⟨rfl, B2.out⟩
    · by_cases hlt : k < s.size
      · have hx2 : (k : Int) < (s.size : Int) := by omega
        have hx1 : (0 : Int) ≤ (k : Int) := by omega
        have hkl : k < l.length := by rw [SZ.out]; exact hlt
        have st := nm_step hkl
        have EK : Hid (l[k] = s[k]) := hidB (by have hh := HL.out; subst hh; rfl)
        rw [hn, Bool.true_and, EK.out] at st
        have ST := hidB st
        have HN := hidB hn
        clear EK hn st hkl
        have h256 := s[k].toNat_lt
        obtain ⟨n, hnn⟩ : ∃ n, s[k].toNat = n := ⟨_, rfl⟩
        rcases (show (0 ≤ n ∧ n ≤ 35) ∨ (36 ≤ n ∧ n ≤ 36) ∨ (37 ≤ n ∧ n ≤ 47) ∨ (48 ≤ n ∧ n ≤ 57) ∨ (58 ≤ n ∧ n ≤ 64) ∨ (65 ≤ n ∧ n ≤ 90) ∨ (91 ≤ n ∧ n ≤ 94) ∨ (95 ≤ n ∧ n ≤ 95) ∨ (96 ≤ n ∧ n ≤ 96) ∨ (97 ≤ n ∧ n ≤ 122) ∨ (123 ≤ n ∧ n ≤ 255) by omega) with ⟨r1, r2⟩ | ⟨r1, r2⟩ | ⟨r1, r2⟩ | ⟨r1, r2⟩ | ⟨r1, r2⟩ | ⟨r1, r2⟩ | ⟨r1, r2⟩ | ⟨r1, r2⟩ | ⟨r1, r2⟩ | ⟨r1, r2⟩ | ⟨r1, r2⟩
        · have st2 := ST.out
          rw [isNm_not (by omega)] at st2
          have ST2 := hidB st2
          clear st2
          have g97 : ¬ (97 : Int) ≤ (s[k].toNat : Int) := by omega
          have g65 : ¬ (65 : Int) ≤ (s[k].toNat : Int) := by omega
          have g48 : ¬ (48 : Int) ≤ (s[k].toNat : Int) := by omega
          have l122 : (s[k].toNat : Int) ≤ 122 := by omega
          have l90 : (s[k].toNat : Int) ≤ 90 := by omega
          have l57 : (s[k].toNat : Int) ≤ 57 := by omega
          have e95 : ((s[k].toNat : Int) == 95) = false := by first | (rw [beq_iff_eq]; omega) | (rw [beq_eq_false_iff_ne]; omega)
          have e36 : ((s[k].toNat : Int) == 36) = false := by first | (rw [beq_iff_eq]; omega) | (rw [beq_eq_false_iff_ne]; omega)
          clear r1 r2 hnn h256
          go_wp2_with fail
          go_round
          case rel => exact ⟨k + 1, by omega, by go_num, by rw [ST2.out]⟩
          case measure => simp [intOf]; omega
        · have st2 := ST.out
          rw [isNm_of (by omega)] at st2
          have ST2 := hidB st2
          clear st2
          have g97 : ¬ (97 : Int) ≤ (s[k].toNat : Int) := by omega
          have g65 : ¬ (65 : Int) ≤ (s[k].toNat : Int) := by omega
          have g48 : ¬ (48 : Int) ≤ (s[k].toNat : Int) := by omega
          have l122 : (s[k].toNat : Int) ≤ 122 := by omega
          have l90 : (s[k].toNat : Int) ≤ 90 := by omega
          have l57 : (s[k].toNat : Int) ≤ 57 := by omega
          have e95 : ((s[k].toNat : Int) == 95) = false := by first | (rw [beq_iff_eq]; omega) | (rw [beq_eq_false_iff_ne]; omega)
          have e36 : ((s[k].toNat : Int) == 36) = true := by first | (rw [beq_iff_eq]; omega) | (rw [beq_eq_false_iff_ne]; omega)
          clear r1 r2 hnn h256
          go_wp2_with fail
          go_round
          case rel => exact ⟨k + 1, by omega, by go_num, by rw [ST2.out]⟩
          case measure => simp [intOf]; omega
        · have st2 := ST.out
          rw [isNm_not (by omega)] at st2
          have ST2 := hidB st2
          clear st2
          have g97 : ¬ (97 : Int) ≤ (s[k].toNat : Int) := by omega
          have g65 : ¬ (65 : Int) ≤ (s[k].toNat : Int) := by omega
          have g48 : ¬ (48 : Int) ≤ (s[k].toNat : Int) := by omega
          have l122 : (s[k].toNat : Int) ≤ 122 := by omega
          have l90 : (s[k].toNat : Int) ≤ 90 := by omega
          have l57 : (s[k].toNat : Int) ≤ 57 := by omega
          have e95 : ((s[k].toNat : Int) == 95) = false := by first | (rw [beq_iff_eq]; omega) | (rw [beq_eq_false_iff_ne]; omega)
          have e36 : ((s[k].toNat : Int) == 36) = false := by first | (rw [beq_iff_eq]; omega) | (rw [beq_eq_false_iff_ne]; omega)
          clear r1 r2 hnn h256
          go_wp2_with fail
          go_round
          case rel => exact ⟨k + 1, by omega, by go_num, by rw [ST2.out]⟩
          case measure => simp [intOf]; omega
        · have st2 := ST.out
          rw [isNm_of (by omega)] at st2
          have ST2 := hidB st2
          clear st2
          have g97 : ¬ (97 : Int) ≤ (s[k].toNat : Int) := by omega
          have g65 : ¬ (65 : Int) ≤ (s[k].toNat : Int) := by omega
          have g48 : (48 : Int) ≤ (s[k].toNat : Int) := by omega
          have l122 : (s[k].toNat : Int) ≤ 122 := by omega
          have l90 : (s[k].toNat : Int) ≤ 90 := by omega
          have l57 : (s[k].toNat : Int) ≤ 57 := by omega
          have e95 : ((s[k].toNat : Int) == 95) = false := by first | (rw [beq_iff_eq]; omega) | (rw [beq_eq_false_iff_ne]; omega)
          have e36 : ((s[k].toNat : Int) == 36) = false := by first | (rw [beq_iff_eq]; omega) | (rw [beq_eq_false_iff_ne]; omega)
          clear r1 r2 hnn h256
          go_wp2_with fail
          go_round
          case rel => exact ⟨k + 1, by omega, by go_num, by rw [ST2.out]⟩
          case measure => simp [intOf]; omega
        · have st2 := ST.out
          rw [isNm_not (by omega)] at st2
          have ST2 := hidB st2
          clear st2
          have g97 : ¬ (97 : Int) ≤ (s[k].toNat : Int) := by omega
          have g65 : ¬ (65 : Int) ≤ (s[k].toNat : Int) := by omega
          have g48 : (48 : Int) ≤ (s[k].toNat : Int) := by omega
          have l122 : (s[k].toNat : Int) ≤ 122 := by omega
          have l90 : (s[k].toNat : Int) ≤ 90 := by omega
          have l57 : ¬ (s[k].toNat : Int) ≤ 57 := by omega
          have e95 : ((s[k].toNat : Int) == 95) = false := by first | (rw [beq_iff_eq]; omega) | (rw [beq_eq_false_iff_ne]; omega)
          have e36 : ((s[k].toNat : Int) == 36) = false := by first | (rw [beq_iff_eq]; omega) | (rw [beq_eq_false_iff_ne]; omega)
          clear r1 r2 hnn h256
          go_wp2_with fail
          go_round
          case rel => exact ⟨k + 1, by omega, by go_num, by rw [ST2.out]⟩
          case measure => simp [intOf]; omega
        · have st2 := ST.out
          rw [isNm_of (by omega)] at st2
          have ST2 := hidB st2
          clear st2
          have g97 : ¬ (97 : Int) ≤ (s[k].toNat : Int) := by omega
          have g65 : (65 : Int) ≤ (s[k].toNat : Int) := by omega
          have g48 : (48 : Int) ≤ (s[k].toNat : Int) := by omega
          have l122 : (s[k].toNat : Int) ≤ 122 := by omega
          have l90 : (s[k].toNat : Int) ≤ 90 := by omega
          have l57 : ¬ (s[k].toNat : Int) ≤ 57 := by omega
          have e95 : ((s[k].toNat : Int) == 95) = false := by first | (rw [beq_iff_eq]; omega) | (rw [beq_eq_false_iff_ne]; omega)
          have e36 : ((s[k].toNat : Int) == 36) = false := by first | (rw [beq_iff_eq]; omega) | (rw [beq_eq_false_iff_ne]; omega)
          clear r1 r2 hnn h256
          go_wp2_with fail
          go_round
          case rel => exact ⟨k + 1, by omega, by go_num, by rw [ST2.out]⟩
          case measure => simp [intOf]; omega
        · have st2 := ST.out
          rw [isNm_not (by omega)] at st2
          have ST2 := hidB st2
          clear st2
          have g97 : ¬ (97 : Int) ≤ (s[k].toNat : Int) := by omega
          have g65 : (65 : Int) ≤ (s[k].toNat : Int) := by omega
          have g48 : (48 : Int) ≤ (s[k].toNat : Int) := by omega
          have l122 : (s[k].toNat : Int) ≤ 122 := by omega
          have l90 : ¬ (s[k].toNat : Int) ≤ 90 := by omega
          have l57 : ¬ (s[k].toNat : Int) ≤ 57 := by omega
          have e95 : ((s[k].toNat : Int) == 95) = false := by first | (rw [beq_iff_eq]; omega) | (rw [beq_eq_false_iff_ne]; omega)
          have e36 : ((s[k].toNat : Int) == 36) = false := by first | (rw [beq_iff_eq]; omega) | (rw [beq_eq_false_iff_ne]; omega)
          clear r1 r2 hnn h256
          go_wp2_with fail
          go_round
          case rel => exact ⟨k + 1, by omega, by go_num, by rw [ST2.out]⟩
          case measure => simp [intOf]; omega
        · have st2 := ST.out
          rw [isNm_of (by omega)] at st2
          have ST2 := hidB st2
          clear st2
          have g97 : ¬ (97 : Int) ≤ (s[k].toNat : Int) := by omega
          have g65 : (65 : Int) ≤ (s[k].toNat : Int) := by omega
          have g48 : (48 : Int) ≤ (s[k].toNat : Int) := by omega
          have l122 : (s[k].toNat : Int) ≤ 122 := by omega
          have l90 : ¬ (s[k].toNat : Int) ≤ 90 := by omega
          have l57 : ¬ (s[k].toNat : Int) ≤ 57 := by omega
          have e95 : ((s[k].toNat : Int) == 95) = true := by first | (rw [beq_iff_eq]; omega) | (rw [beq_eq_false_iff_ne]; omega)
          have e36 : ((s[k].toNat : Int) == 36) = false := by first | (rw [beq_iff_eq]; omega) | (rw [beq_eq_false_iff_ne]; omega)
          clear r1 r2 hnn h256
          go_wp2_with fail
          go_round
          case rel => exact ⟨k + 1, by omega, by go_num, by rw [ST2.out]⟩
          case measure => simp [intOf]; omega
        · have st2 := ST.out
          rw [isNm_not (by omega)] at st2
          have ST2 := hidB st2
          clear st2
          have g97 : ¬ (97 : Int) ≤ (s[k].toNat : Int) := by omega
          have g65 : (65 : Int) ≤ (s[k].toNat : Int) := by omega
          have g48 : (48 : Int) ≤ (s[k].toNat : Int) := by omega
          have l122 : (s[k].toNat : Int) ≤ 122 := by omega
          have l90 : ¬ (s[k].toNat : Int) ≤ 90 := by omega
          have l57 : ¬ (s[k].toNat : Int) ≤ 57 := by omega
          have e95 : ((s[k].toNat : Int) == 95) = false := by first | (rw [beq_iff_eq]; omega) | (rw [beq_eq_false_iff_ne]; omega)
          have e36 : ((s[k].toNat : Int) == 36) = false := by first | (rw [beq_iff_eq]; omega) | (rw [beq_eq_false_iff_ne]; omega)
          clear r1 r2 hnn h256
          go_wp2_with fail
          go_round
          case rel => exact ⟨k + 1, by omega, by go_num, by rw [ST2.out]⟩
          case measure => simp [intOf]; omega
        · have st2 := ST.out
          rw [isNm_of (by omega)] at st2
          have ST2 := hidB st2
          clear st2
          have g97 : (97 : Int) ≤ (s[k].toNat : Int) := by omega
          have g65 : (65 : Int) ≤ (s[k].toNat : Int) := by omega
          have g48 : (48 : Int) ≤ (s[k].toNat : Int) := by omega
          have l122 : (s[k].toNat : Int) ≤ 122 := by omega
          have l90 : ¬ (s[k].toNat : Int) ≤ 90 := by omega
          have l57 : ¬ (s[k].toNat : Int) ≤ 57 := by omega
          have e95 : ((s[k].toNat : Int) == 95) = false := by first | (rw [beq_iff_eq]; omega) | (rw [beq_eq_false_iff_ne]; omega)
          have e36 : ((s[k].toNat : Int) == 36) = false := by first | (rw [beq_iff_eq]; omega) | (rw [beq_eq_false_iff_ne]; omega)
          clear r1 r2 hnn h256
          go_wp2_with fail
          go_round
          case rel => exact ⟨k + 1, by omega, by go_num, by rw [ST2.out]⟩
          case measure => simp [intOf]; omega
        · have st2 := ST.out
          rw [isNm_not (by omega)] at st2
          have ST2 := hidB st2
          clear st2
          have g97 : (97 : Int) ≤ (s[k].toNat : Int) := by omega
          have g65 : (65 : Int) ≤ (s[k].toNat : Int) := by omega
          have g48 : (48 : Int) ≤ (s[k].toNat : Int) := by omega
          have l122 : ¬ (s[k].toNat : Int) ≤ 122 := by omega
          have l90 : ¬ (s[k].toNat : Int) ≤ 90 := by omega
          have l57 : ¬ (s[k].toNat : Int) ≤ 57 := by omega
          have e95 : ((s[k].toNat : Int) == 95) = false := by first | (rw [beq_iff_eq]; omega) | (rw [beq_eq_false_iff_ne]; omega)
          have e36 : ((s[k].toNat : Int) == 36) = false := by first | (rw [beq_iff_eq]; omega) | (rw [beq_eq_false_iff_ne]; omega)
          clear r1 r2 hnn h256
          go_wp2_with fail
          go_round
          case rel => exact ⟨k + 1, by omega, by go_num, by rw [ST2.out]⟩
          case measure => simp [intOf]; omega
      · have hx2 : ¬ (k : Int) < (s.size : Int) := by omega
        obtain rfl : k = s.size := by omega
        have hn2 : nmB l l.length = true := by rw [SZ.out]; exact hn
        obtain ⟨o1, o2, o3⟩ := nm_all hn2
        have NS := hidB (nm_sign hn2)
        have O1 := hidB o1
        have hx7 : s.size ≤ 4096 := by rw [← SZ.out]; exact o2
        have HX7 := hidB hx7
        clear hn hlt hk hn2 o1 o2 o3 hx7
        have SA2 := SA.out
        rw [NS.out] at SA2
        have SA3 := hidB SA2
        clear SA2 SA
        cases hw : wordB l
        · have WA2 := WA.out
          rw [hw] at WA2
          have WA3 := hidB WA2
          have O2 := O1.out
          rw [hw] at O2
          have OA := hidB (fun W h => only_any s s (by have := HX7.out; omega) 1 _ _ (by rw [← HL.out]; exact O2) rfl (by exact HL.out.symm) W h)
          clear WA2 WA O2 O1 hw
          go_wp2_with fail
          refine (WA3.out _ M1.out).mono ?_; rintro e w2 ⟨rfl, rfl⟩
          go_wp2_with fail
          refine (OA.out _ M1.out).mono ?_; rintro e w2 ⟨rfl, hb2⟩
          have B2 := hidB (grow B1.out hb2)
          have M2 := hidB (mx_below M1.out hb2)
          clear hb2
          go_wp2_with fail
          refine (SA3.out _ M2.out).mono ?_; rintro e w3 ⟨rfl, rfl⟩
          go_wp2_with fail
          go_ret
          exact ⟨rfl, B2.out⟩
        · have WA2 := WA.out
          rw [hw] at WA2
          have WA3 := hidB WA2
          have O2 := O1.out
          rw [hw] at O2
          have OA := hidB (fun W h => only_any s s (by have := HX7.out; omega) 2 _ _ (by rw [← HL.out]; exact O2) rfl (by exact HL.out.symm) W h)
          clear WA2 WA O2 O1 hw
          go_wp2_with fail
          refine (WA3.out _ M1.out).mono ?_; rintro e w2 ⟨rfl, rfl⟩
          go_wp2_with fail
          refine (OA.out _ M1.out).mono ?_; rintro e w2 ⟨rfl, hb2⟩
          have B2 := hidB (grow B1.out hb2)
          have M2 := hidB (mx_below M1.out hb2)
          clear hb2
          go_wp2_with fail
          refine (SA3.out _ M2.out).mono ?_; rintro e w3 ⟨rfl, rfl⟩
          go_wp2_with fail
          go_ret
          exact ⟨rfl, B2.out⟩

end Go.Proofs.YtkomjmgmancinaaDoor
