/-
  The walks of Find, Less and Trim, the program's and the reference's.
-/
import Derived.Test.YtnlaolehpofmlaaDoorFindPlain
import Derived.Test.YtnlaolehpofmlaaDoorPlaceWalk
import Derived.Test.YtnlaolehpofmlaaDoorBareWalk
import Derived.Test.YtnlaolehpofmlaaDoorShelf
namespace Go.Proofs.YtnlaolehpofmlaaDoor
open Go.RowKit

/-- The library's variable MaxLen holds some number. -/
def Mx (W : World) : Prop := ∃ m, W.cell? ⟨1, 0, none⟩ = some (.int .i64 m)
theorem mx_below {W W' : World} (h : Mx W) (hb : Below W.heap.size W W') : Mx W' := by
  obtain ⟨m, hm⟩ := h
  refine ⟨m, ?_⟩
  rw [hb.cell (p := ⟨1, 0, none⟩) ?_]
  · exact hm
  · show 1 < W.heap.size
    rcases Nat.lt_or_ge 1 W.heap.size with h | h
    · exact h
    · exfalso
      simp only [World.cell?, Array.getElem?_eq_none h] at hm
      cases hm
theorem index_any (s t : ByteArray) (hs : s.size < 4294967281) (w : World) (h : Mx w) : Calls Tryd.prog 23 #[.string s, .string t] w fun e w' => e = .returned (.int .i64 (Lib.index s.data.toList t.data.toList)) ∧ w' = w := by
  obtain ⟨m, hm⟩ := h
  exact Any.strings_Index { Tryd.laysM143 with } s t m w hs hm

theorem clamp_eq (n : Nat) (i : Int) : max 0 (min i (n : Int)) = (clampR n i : Int) := by
  unfold clampR; split
  · omega
  · split <;> omega

set_option maxRecDepth 100000 in
theorem find_at (s t : ByteArray) (i : Int) (f : Nat) (hs : s.size ≤ 9000) (w : World) (hf : f ≤ s.size) (hM : max 0 (min i (s.size : Int)) = (f : Int)) (hix : Calls Tryd.prog 23 #[.string (s.extract f s.size), .string t] w fun e w' => e = .returned (.int .i64 (Lib.index (s.extract f s.size).data.toList t.data.toList)) ∧ w' = w) :
    Calls Tryd.prog 10 #[.string s, .string t, .int .i64 i] w fun e w' => e = .returned (.int .i64 (findAt s t f)) ∧ w = w' := by
  have IX := hidB hix
  clear hix
  unfold findAt
  have hg := Lib.index_ge (s.data.toList.drop f) t.data.toList
  have hl := Lib.index_le (s.data.toList.drop f) t.data.toList
  rw [List.length_drop, ← ba_size] at hl
  rw [Lib.extract_to_end] at IX
  generalize Lib.index (s.data.toList.drop f) t.data.toList = k at *
  by_cases h0 : 0 ≤ k
  all_goals
    first | rw [if_pos h0] | rw [if_neg h0]
    go_enter Tryd.func10, Tryd.ntmps10
    go_wp2_with fail
    refine IX.out.mono ?_; rintro e w1 ⟨rfl, rfl⟩
    go_wp2_with fail
    go_ret
    exact ⟨rfl, rfl⟩

theorem find_any (s t : ByteArray) (i : Int) (hs : s.size ≤ 9000) (w : World) (hm : Mx w) : Calls Tryd.prog 10 #[.string s, .string t, .int .i64 i] w fun e w' => e = .returned (.int .i64 (findR s t i)) ∧ w = w' :=
  find_at s t i _ hs w (clampR_le _ _) (clamp_eq _ _) (index_any _ _ (by have := ba_size (s.extract (clampR s.size i) s.size); rw [Lib.extract_to_end, List.length_drop, ← ba_size] at this; omega) w hm)

theorem clamp_cases (n : Nat) (i : Int) : (i < 0 ∧ clampR n i = 0) ∨ (¬ i < 0 ∧ (n : Int) < i ∧ clampR n i = n) ∨ (¬ i < 0 ∧ ¬ (n : Int) < i ∧ i = clampR n i) := by
  unfold clampR
  by_cases h1 : i < 0
  · exact Or.inl ⟨h1, if_pos h1⟩
  · by_cases h2 : (n : Int) < i
    · exact Or.inr (Or.inl ⟨h1, h2, by rw [if_neg h1, if_pos h2]⟩)
    · exact Or.inr (Or.inr ⟨h1, h2, by rw [if_neg h1, if_neg h2]; omega⟩)

set_option maxHeartbeats 1000000 in
set_option maxRecDepth 100000 in
theorem refFind_at (s t : ByteArray) (i : Int) (f : Nat) (hs : s.size ≤ 9000) (ht : t.size ≤ 9000) (hf : f ≤ s.size) (w : World)
    (hc : (i < 0 ∧ f = 0) ∨ (¬ i < 0 ∧ (s.size : Int) < i ∧ f = s.size) ∨ (¬ i < 0 ∧ ¬ (s.size : Int) < i ∧ i = f)) : Calls Tryd.prog 11 #[.string s, .string t, .int .i64 i] w fun e w' => e = .returned (.int .i64 (findAt s t f)) ∧ Below w.heap.size w w' := by
  obtain ⟨r, hr⟩ : ∃ r, findAt s t f = r := ⟨_, rfl⟩
  have HR := hidB hr
  rw [hr]
  clear hr
  have F0 : Hid ((i < 0 ∧ f = 0) ∨ (¬ i < 0 ∧ (s.size : Int) < i ∧ f = s.size) ∨ (¬ i < 0 ∧ ¬ (s.size : Int) < i ∧ i = f)) := hidB hc
  have h12 : (i < 0) ∨ (¬ i < 0 ∧ (s.size : Int) < i) ∨ (¬ i < 0 ∧ ¬ (s.size : Int) < i) := by omega
  clear hc
  rcases h12 with h1 | ⟨h1, h2⟩ | ⟨h1, h2⟩
  all_goals
    go_enter Tryd.func11, Tryd.ntmps11
    go_wp2_with fail
    go_loopw [7] (fun v wr => ∃ d : Nat, f + d ≤ s.size + 1 ∧ v = .int .i64 ((f + d : Nat) : Int) ∧ Lib.NoOcc (s.data.toList.drop f) t.data.toList d ∧ Below w.heap.size w wr) (fun v _ => s.size + 1 - (intOf v).toNat)
    case atStart => exact ⟨0, by omega, congrArg (fun k => Value.int .i64 k) (by have := F0.out; omega), Lib.NoOcc.zero _ _, Below.refl _ _⟩
    case round =>
      obtain ⟨d, hd, rfl, hno, hb⟩ := hrel
      have NO := hidB hno
      have Bt := hidB hb
      clear hno hb
      by_cases hlt : f + d + t.size ≤ s.size
      · have ho := occ_eq s t f d hlt
        have HH := hidB (find_hit s t f d (by omega) NO.out)
        have HS := hidB (noOcc_step NO.out)
        generalize hj : f + d = j at *
        have HJ := hidB hj
        clear hj
        have hx1 : (j : Int) ≤ (s.size : Int) - (t.size : Int) := by omega
        have hx2 : IntKind.i64.wrap ((j : Int) + (t.size : Int)) = (j : Int) + (t.size : Int) := IntWalk.i64_in _ (by omega)
        have hx3 : (0 : Int) ≤ (j : Int) + (t.size : Int) := by omega
        have hx4 : ((j : Int) + (t.size : Int)).toNat = j + t.size := by omega
        have hx5 : (j : Int) + (t.size : Int) ≤ (s.size : Int) := by omega
        have hx6 : (j : Int) ≤ (j : Int) + (t.size : Int) := by omega
        cases hq : Lib.occAt (s.data.toList.drop f) t.data.toList d
        · rw [hq] at ho
          have HQ := hidB hq
          clear hq
          go_wp2_with fail
          refine ⟨⟨d + 1, by have := HJ.out; omega, ?_, HS.out HQ.out, Bt.out⟩, by simp [intOf]; omega⟩
          rw [← HJ.out]
          exact congrArg (fun k => Value.int .i64 k) (by omega)
        · rw [hq] at ho
          have HQ := hidB hq
          clear hq
          go_wp2_with fail
          go_ret
          refine ⟨?_, Bt.out⟩
          rw [← HR.out, HH.out HQ.out]; rfl
      · have HN := hidB (find_none s t f d hf (by omega) NO.out)
        go_wp2_with fail
        go_ret
        refine ⟨?_, Bt.out⟩
        rw [← HR.out, HN.out]; rfl

theorem refFind_any (s t : ByteArray) (i : Int) (hs : s.size ≤ 9000) (ht : t.size ≤ 9000) (w : World) : Calls Tryd.prog 11 #[.string s, .string t, .int .i64 i] w fun e w' => e = .returned (.int .i64 (findR s t i)) ∧ Below w.heap.size w w' :=
  refFind_at s t i _ hs ht (clampR_le _ _) w (clamp_cases _ _)

/-- Which of two texts is the lesser. -/
def lessR (a b : ByteArray) : Bool := Op.bytesLess a.data.toList b.data.toList

theorem less_any (a b : ByteArray) (w : World) : Calls Tryd.prog 12 #[.string a, .string b] w fun e w' => e = .returned (.bool (lessR a b)) ∧ w = w' := by
  have h : ∀ t w, (binOp .lss t (.string a) (.string b)).run Tryd.prog w = .ok (.bool (lessR a b)) w := fun t w => by
    rw [binOp_string_lss, ByteArray.toList_eq, ByteArray.toList_eq]; rfl
  go_enter Tryd.func12, Tryd.ntmps12
  go_wp2_with fail
  go_ret
  refine ⟨?_, rfl⟩
  simp [lessR, ByteArray.toList_eq]

set_option maxHeartbeats 1000000 in
set_option maxRecDepth 100000 in
theorem refLess_any (a b : ByteArray) (ha : a.size ≤ 9000) (hb : b.size ≤ 9000) (w : World) : Calls Tryd.prog 13 #[.string a, .string b] w fun e w' => e = .returned (.bool (lessR a b)) ∧ Below w.heap.size w w' := by
  obtain ⟨r, hr⟩ : ∃ r, lessR a b = r := ⟨_, rfl⟩
  rw [hr]
  obtain ⟨al, hal⟩ : ∃ al, al = a.data.toList := ⟨_, rfl⟩
  obtain ⟨bl, hbl⟩ : ∃ bl, bl = b.data.toList := ⟨_, rfl⟩
  have HR : Hid (Op.bytesLess al bl = r) := hidB (by rw [hal, hbl]; exact hr)
  have za : a.size = al.length := by rw [hal, ba_size]
  have zb : b.size = bl.length := by rw [hbl, ba_size]
  have HA := hidB hal.symm
  have HB := hidB hbl.symm
  have ZA := hidB za
  have ZB := hidB zb
  clear hr hal hbl za zb
  go_enter Tryd.func13, Tryd.ntmps13
  go_wp2_with fail
  go_loopw [5] (fun v wr => ∃ j : Nat, j ≤ a.size ∧ j ≤ b.size ∧ v = .int .i64 j ∧ Op.bytesLess al bl = Op.bytesLess (al.drop j) (bl.drop j) ∧ Below w.heap.size w wr) (fun v _ => a.size - (intOf v).toNat)
  case atStart => exact ⟨0, by omega, by omega, rfl, rfl, Below.refl _ _⟩
  case round =>
    obtain ⟨j, h1, h2, rfl, hL, hb⟩ := hrel
    have HL := hidB hL
    have Bt := hidB hb
    clear hL hb
    by_cases hj : j < a.size ∧ j < b.size
    · obtain ⟨ja, jb⟩ := hj
      have ja2 : j < al.length := by rw [← ZA.out]; exact ja
      have jb2 : j < bl.length := by rw [← ZB.out]; exact jb
      have ea := hidB (ba_at a al HA.out j ja ja2)
      have eb := hidB (ba_at b bl HB.out j jb jb2)
      have HD := hidB (less_drop al bl j ja2 jb2)
      have hx0 : (0 : Int) ≤ (j : Int) := by omega
      have hx1 : (j : Int) < (a.size : Int) := by omega
      have hx2 : (j : Int) < (b.size : Int) := by omega
      by_cases hq : al[j] = bl[j]
      · have hn : ((a[j].toNat : Int) != (b[j].toNat : Int)) = false := by rw [ea.out, eb.out, hq]; simp
        have HQ := hidB hq
        clear hq
        go_upto_region 4 with fail
        go_quiet (fail)
        go_wp2_with fail
        refine ⟨⟨j + 1, by omega, by omega, by go_num, ?_, below_drewP Bt.out _⟩, by simp [intOf]; omega⟩
        rw [HL.out, HD.out, HQ.out]
        simp
      · have hn : ((a[j].toNat : Int) != (b[j].toNat : Int)) = true := by
          rw [ea.out, eb.out, bne_iff_ne]
          intro h
          exact hq (UInt8.toNat_inj.1 (by omega))
        have HQ := hidB hq
        clear hq
        go_upto_region 4 with fail
        go_quiet (fail)
        go_wp2_with fail
        go_quiet (fail)
        go_wp2_with fail
        go_ret
        refine ⟨?_, by first | exact below_drewP Bt.out _ | exact below_drewP (below_drewP Bt.out _) _⟩
        have hz : decide (al[j] < bl[j]) = r := by
          rw [← HR.out, HL.out, HD.out]
          have : (al[j] == bl[j]) = false := by rw [beq_eq_false_iff_ne]; exact HQ.out
          rw [this]; simp
        rw [← hz]
        have hc : decide (a[j].toNat < b[j].toNat) = decide (al[j] < bl[j]) := by
          rw [ea.out, eb.out, decide_eq_decide, UInt8.lt_iff_toNat_lt]
        exact congrArg (fun q => Ending.returned (.bool q)) hc
    · have HE := hidB (less_end al bl j (by rw [← ZA.out]; exact h1) (by rw [← ZB.out]; exact h2) (by rw [← ZA.out, ← ZB.out]; omega))
      have hz : decide (a.size < b.size) = r := by rw [← HR.out, HL.out, HE.out, ZA.out, ZB.out]
      by_cases ja : j < a.size
      · have jb : ¬ j < b.size := by omega
        have HZ := hidB hz
        clear hz hj
        go_wp2_with fail
        go_ret
        refine ⟨?_, Bt.out⟩
        rw [← HZ.out]
        simp
      · have HZ := hidB hz
        clear hz hj
        go_wp2_with fail
        go_ret
        refine ⟨?_, Bt.out⟩
        rw [← HZ.out]
        simp

set_option maxRecDepth 100000 in
theorem trimP_any (s : ByteArray) (w : World) (hs : s.size ≤ 9000) : Calls Tryd.prog 14 #[.string s] w fun e w' => (∃ r : ByteArray, e = .returned (.string r) ∧ r.data.toList = Lib.trimS s.data.toList blanks) ∧ Below w.heap.size w w' := by
  have T := hidB (trim_any s w (by omega))
  go_enter Tryd.func14, Tryd.ntmps14
  go_wp2_with fail
  refine T.out.mono ?_; rintro e w1 ⟨⟨r, rfl, hr⟩, hb⟩
  have H := hidB hr
  have Bt := hidB hb
  clear hr hb
  go_wp2_with fail
  go_ret
  exact ⟨⟨r, rfl, H.out⟩, Bt.out⟩

set_option maxRecDepth 100000 in
theorem refTrim_any (s : ByteArray) (w : World) (hs : s.size ≤ 9000) : Calls Tryd.prog 15 #[.string s] w fun e w' => (∃ r : ByteArray, e = .returned (.string r) ∧ r.data.toList = Lib.trimS s.data.toList blanks) ∧ Below w.heap.size w w' := by
  have T := hidB (bare_wide s w hs)
  go_enter Tryd.func15, Tryd.ntmps15
  go_wp2_with fail
  refine T.out.mono ?_; rintro e w1 ⟨⟨r, rfl, hr⟩, rfl⟩
  have H := hidB hr
  clear hr
  go_wp2_with fail
  go_ret
  exact ⟨⟨r, rfl, H.out⟩, Below.refl _ _⟩

end Go.Proofs.YtnlaolehpofmlaaDoor
