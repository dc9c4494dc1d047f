/-
  The heap of all first objects, as the reference makes it.
-/
import Derived.Test.YtchpkopeblgifaaRefPropsWalk
import Derived.Deep.CutRange
namespace Go.Proofs.Ytchpkopeblgifaa
open Go.RowKit

theorem refProps_any (n : Nat) (w : World) : Calls Try.prog 39 #[.int .i64 n] w (PropsQ n w) := by
  by_cases hn : n < 24
  · exact refProps_lo n hn w
  · have hge : (24 : Int) ≤ n := by omega
    have HP := hid (pl_ge hn)
    go_enter Try.func39, Try.ntmps39
    go_wp2_with fail
    refine (all_any _).mono ?_; rintro e w1 ⟨⟨v, rfl, hv⟩, hb1⟩
    have Bt := hid hb1
    clear hv hb1
    go_wp2_with fail
    go_ret
    exact ⟨_, rfl, by rw [HP.out]; exact own_nil _ _, Bt.out⟩

/-- Some cells of one block, stored one behind another. -/
def setL (w : World) (g : Nat) (l : List (Nat × Value)) : World := l.foldl (fun w p => w.setCell ⟨g, p.1, none⟩ p.2) w
theorem setL_own {w : World} {base : Nat} {e : TypeId} {sz : Nat} {v : Value} {n : Nat} {xs : List Value} {g : Nat} (h : w.ownsRow base e sz v n xs) (hp : v.ownBlock ≠ some g) (l : List (Nat × Value)) : (setL w g l).ownsRow base e sz v n xs := by
  induction l generalizing w with
  | nil => exact h
  | cons a l ih => exact ih (own_far (p := ⟨g, a.1, none⟩) h hp a.2)
theorem setL_far {w : World} {g g2 : Nat} {t : TypeId} {cs : Array Value} (h : Bk w g2 t cs) (hp : g2 ≠ g) (l : List (Nat × Value)) : Bk (setL w g l) g2 t cs := by
  induction l generalizing w with
  | nil => exact h
  | cons a l ih => exact ih (h.far (p := ⟨g, a.1, none⟩) hp a.2)
theorem setL_below {w w1 : World} {B g : Nat} (h : Below B w w1) (hg : B ≤ g) (l : List (Nat × Value)) : Below B w (setL w1 g l) := by
  induction l generalizing w1 with
  | nil => exact h
  | cons a l ih => exact ih (h.setCell (p := ⟨g, a.1, none⟩) hg a.2)
theorem setL_size (w : World) (g : Nat) (l : List (Nat × Value)) : w.heap.size = (setL w g l).heap.size := by
  induction l generalizing w with
  | nil => rfl
  | cons a l ih =>
    have h := ih (w := w.setCell ⟨g, a.1, none⟩ a.2)
    show _ = (setL (w.setCell ⟨g, a.1, none⟩ a.2) g l).heap.size
    rw [← h]; simp [World.setCell]

theorem refObj0_any (w : World) : Calls Try.prog 35 #[.int .i64 0] w fun e w' => e = .returned (val 6 0 ⟨#[]⟩ 0) ∧ Below w.heap.size w w' := refObject_any 0 w
theorem refObj1_any (w : World) : Calls Try.prog 35 #[.int .i64 1] w fun e w' => e = .returned (val 7 0 ⟨#[]⟩ 1) ∧ Below w.heap.size w w' := refObject_any 1 w
theorem refObj7_any (w : World) : Calls Try.prog 35 #[.int .i64 7] w fun e w' => e = .returned (val 6 0 ⟨#[]⟩ 7) ∧ Below w.heap.size w w' := refObject_any 7 w

/-- Two tests. -/
def b9 (k : Nat) : Bool := decide (8 ≤ k ∧ k ≤ 10)
def b13 (k : Nat) : Bool := decide (k = 1 ∨ 14 ≤ k)
/-- The prototype's kind and number on the way. -/
def q1 (k : Nat) : Int := if k = 0 then 1 else 6
def q2 (k : Nat) : Int := if 8 ≤ k ∧ k ≤ 10 then 7 else 0

/-- Where the making stands. -/
def RefR (w : World) (ga cap : Nat) (k : Nat) (wr : World) : Prop := ∃ (v : Value) (vs : Nat → Value), Bk wr (w.heap.size + 1) 38 #[v] ∧ wr.ownsRow w.heap.size 43 18 v k (obs vs k) ∧ (∀ i, i < k → OwnP w.heap.size (pl i) (vs i) wr) ∧ wr.ownsRow w.heap.size 9 1 (.slice (some ⟨ga, 0, none⟩) 72 cap) 72 (nms 0 72) ∧ Bk wr w.heap.size 38 #[.slice none 0 0] ∧ Below w.heap.size w wr
theorem refR_step {w w5 : World} {ga cap k : Nat} {v v' : Value} {vs : Nat → Value} {vp : Value} (hB : Bk w5 (w.heap.size + 1) 38 #[v]) (hO : w5.ownsRow w.heap.size 43 18 v' (k + 1) (obs vs k ++ obC k vp)) (hP : ∀ i, i < k → OwnP w.heap.size (pl i) (vs i) w5)
    (hQ : OwnP w.heap.size (pl k) vp w5) (hN : w5.ownsRow w.heap.size 9 1 (.slice (some ⟨ga, 0, none⟩) 72 cap) 72 (nms 0 72)) (hR : Bk w5 w.heap.size 38 #[.slice none 0 0]) (hb : Below w.heap.size w w5) : RefR w ga cap (k + 1) (w5.setCell ⟨w.heap.size + 1, 0, none⟩ v') := by
  refine ⟨v', put vs k vp, Bk.eq (hB.set 0 v') rfl, own_set (p := ⟨w.heap.size + 1, 0, none⟩) (by rw [obs_put]; exact hO) hB (by decide) v', fun i hi => ?_, own_set (p := ⟨w.heap.size + 1, 0, none⟩) hN hB (by decide) v', hR.far (p := ⟨w.heap.size + 1, 0, none⟩) (by show w.heap.size ≠ w.heap.size + 1; omega) v', hb.setCell (p := ⟨w.heap.size + 1, 0, none⟩) (by show w.heap.size ≤ w.heap.size + 1; omega) v'⟩
  unfold put
  by_cases h : i = k
  · subst h; rw [if_pos rfl]; exact own_set (p := ⟨w.heap.size + 1, 0, none⟩) hQ hB (by decide) v'
  · rw [if_neg h]; exact own_set (p := ⟨w.heap.size + 1, 0, none⟩) (hP i (by omega)) hB (by decide) v'

set_option maxHeartbeats 8000000 in
set_option maxRecDepth 100000 in
theorem refNew_any (w : World) : Calls Try.prog 16 #[] w (NewQ w) := by
  obtain ⟨i0, hi, hz0, hz1, hz2⟩ := info_parts info_obj
  go_enter Try.func16, Try.ntmps16
  go_wp2_with fail
  refine (all_any _).mono ?_; rintro e w1 ⟨⟨va, rfl, hv⟩, hb1⟩
  obtain ⟨ga, cap, rfl, _, -⟩ := named_slice hv (by decide)
  have HN : Hid (w1.ownsRow w.heap.size 9 1 (.slice (some ⟨ga, 0, none⟩) 72 cap) 72 (nms 0 72)) := hid (own_base hv (by simp; omega))
  have HR := hid (((Bk.new w 38 #[.slice none 0 0]).alloc (.cells #[.slice none 0 0] 38)).on hb1)
  have HB := hid ((Bk.new2 w (.cells #[.slice none 0 0] 38) 38 #[.slice none 0 0]).on hb1)
  have Bt := hid (grow ((Below.refl w.heap.size w).alloc (Nat.le_refl _) _ |>.alloc (by simp) _) (hb1.mono (Nat.le_refl _)))
  clear hv hb1
  go_wp2_with fail
  go_loopw [3] (fun i wr => ∃ k : Nat, k ≤ 72 ∧ i = .int .i64 k ∧ RefR w ga cap k wr) (fun i _ => 72 - (intOf i).toNat)
  case atStart => exact ⟨0, by omega, rfl, .slice none 0 0, fun _ => .slice none 0 0, HB.out, World.ownsRow_nil _ _ _ _, fun i hi => by omega, HN.out, HR.out, Bt.out⟩
  case round =>
    clear HN HR HB Bt
    obtain ⟨k, hk, rfl, v, vs, hB, hO, hP, hN, hR, hb⟩ := hrel
    have HB := hid hB
    have HO := hid hO
    have HP := hid hP
    have HN := hid hN
    have HR := hid hR
    have Bt := hid hb
    clear hB hO hP hN hR hb
    by_cases hlt : k < 72
    · go_upto_region 6 with fail
      go_cut [4] from 6 to 52 (fun s4 wx => ∃ (G : Nat) (pb : Option Addr) (pn pc : Nat), s4 = .pointer (some ⟨G, 0, none⟩) ∧ Bk wx G 43 #[.int .u8 1, .int .u8 6, .float .f64 0, .string ⟨#[]⟩, .int .i64 0, .bool true, .slice pb pn pc, .int .u8 0, .float .f64 0, .string ⟨#[]⟩, .int .i64 0, .int .u8 0, .float .f64 0, .string ⟨#[]⟩, .int .i64 0, .string ⟨#[]⟩, .bool false, .bool false] ∧ OwnP w.heap.size (pl k) (.slice pb pn pc) wx ∧ v.ownBlock ≠ some G ∧ w.heap.size + 1 < G ∧ Bk wx (w.heap.size + 1) 38 #[v] ∧ wx.ownsRow w.heap.size 43 18 v k (obs vs k) ∧ (∀ i, i < k → OwnP w.heap.size (pl i) (vs i) wx) ∧ wx.ownsRow w.heap.size 9 1 (.slice (some ⟨ga, 0, none⟩) 72 cap) 72 (nms 0 72) ∧ Bk wx w.heap.size 38 #[.slice none 0 0] ∧ Below w.heap.size w wx)
      case first =>
        go_wp2_with fail
        refine (refObj0_any _).mono ?_; rintro e w3 ⟨rfl, hb3⟩
        replace HB := hid (HB.out.on hb3)
        replace HO := hid (own_below HO.out hb3)
        replace HP := hid (fun i hi => own_below (HP.out i hi) hb3)
        replace HN := hid (own_below HN.out hb3)
        replace HR := hid (HR.out.on hb3)
        replace Bt := hid (grow Bt.out hb3)
        clear hb3
        go_wp2_with fail
        refine (refProps_any k _).mono ?_; rintro e w4 ⟨vp, rfl, hp, hb4⟩
        obtain ⟨pb, pn, pc, rfl⟩ := own_form hp
        have HQ := hid (own_base hp Bt.out.size)
        replace HB := hid (HB.out.on hb4)
        replace HO := hid (own_below HO.out hb4)
        replace HP := hid (fun i hi => own_below (HP.out i hi) hb4)
        replace HN := hid (own_below HN.out hb4)
        replace HR := hid (HR.out.on hb4)
        replace Bt := hid (grow Bt.out hb4)
        clear hb4 hp
        go_wp2_with (first | (refine wpList_build_to (by rfl) 43 _ (by rfl) #[.int .u8 1, .int .u8 6, .float .f64 0, .string ⟨#[]⟩, .int .i64 0, .bool true, .slice pb pn pc, .int .u8 0, .float .f64 0, .string ⟨#[]⟩, .int .i64 0, .int .u8 0, .float .f64 0, .string ⟨#[]⟩, .int .i64 0, .string ⟨#[]⟩, .bool false, .bool false] (by kernel_rfl) ?_) | (refine wpList_store_new (by rfl) 43 (.tmp 4) (.tmp 15) (by rfl) #[.int .u8 1, .int .u8 6, .float .f64 0, .string ⟨#[]⟩, .int .i64 0, .bool true, .slice pb pn pc, .int .u8 0, .float .f64 0, .string ⟨#[]⟩, .int .i64 0, .int .u8 0, .float .f64 0, .string ⟨#[]⟩, .int .i64 0, .string ⟨#[]⟩, .bool false, .bool false] 43 zeroObj (by rfl) (by rfl) (by kernel_rfl) (by rfl) (by kernel_rfl) ?_))
        go_meet
        case rel => exact ⟨w4.heap.size, pb, pn, pc, rfl, Bk.new _ _ _, HQ.out.alloc _, fun e => by have := (HO.out.lt _ e).2; omega, HB.out.lt, HB.out.alloc _, HO.out.alloc _, fun i hi => (HP.out i hi).alloc _, HN.out.alloc _, HR.out.alloc _, Bt.out.alloc Bt.out.size _⟩
      case rest =>
      obtain ⟨G, pb, pn, pc, rfl, hu, hq, hne, hG, hB, hO, hP, hN, hR, hb⟩ := hcut
      have UU := hid hu
      have HQ := hid hq
      replace HB := hid hB
      replace HO := hid hO
      replace HP := hid hP
      replace HN := hid hN
      replace HR := hid hR
      replace Bt := hid hb
      have NE := hid hne
      clear hu hq hB hO hP hN hR hb hne
      have L3 : Hid (k + 1 ≤ maxLen) := hid (by unfold maxLen; omega)
      have L4 : Hid ((k + 1) * 184 ≤ 140737488355328) := hid (by omega)
      go_upto_if 17 with fail
      go_cut [] from 6 to 52 (fun wx => Bk wx G 43 #[.int .u8 (1), .int .u8 (q1 k), .float .f64 0, .string ⟨#[]⟩, .int .i64 (0), .bool true, .slice pb pn pc, .int .u8 0, .float .f64 0, .string ⟨#[]⟩, .int .i64 0, .int .u8 0, .float .f64 0, .string ⟨#[]⟩, .int .i64 0, .string ⟨#[]⟩, .bool (false), .bool (false)] ∧ OwnP w.heap.size (pl k) (.slice pb pn pc) wx ∧ Bk wx (w.heap.size + 1) 38 #[v] ∧ wx.ownsRow w.heap.size 43 18 v k (obs vs k) ∧ (∀ i, i < k → OwnP w.heap.size (pl i) (vs i) wx) ∧ wx.ownsRow w.heap.size 9 1 (.slice (some ⟨ga, 0, none⟩) 72 cap) 72 (nms 0 72) ∧ Bk wx w.heap.size 38 #[.slice none 0 0] ∧ Below w.heap.size w wx)
      case first =>
        rcases (show (k = 0) ∨ (k ≠ 0) by omega) with h | h
        · have v0 : q1 k = 1 := by unfold q1; split <;> (try split) <;> (try split) <;> omega
          have V0 := hid v0
          clear v0
          have c0 : ((k : Int) == 0) = true := by rw [beq_iff_eq]; omega
          clear h
          obtain ⟨u0', u1', u2', u3', u4', u5', u6', u7', u8', u9', u10', u11', u12', u13', u14', u15', u16', u17', fu⟩ := UU.out.facts18
          go_wp2_with fail
          clear u0' u1' u2' u3' u4' u5' u6' u7' u8' u9' u10' u11' u12' u13' u14' u15' u16' u17' fu
          go_meet
          case rel => exact ⟨by rw [V0.out]; exact Bk.eq ((((UU.out.set 1 _).set 2 _).set 3 _).set 4 _) rfl, (by have h := setL_own HQ.out (own_ne_type HQ.out (by decide) UU.out) [(1, .int .u8 1), (2, .float .f64 0), (3, .string ⟨#[]⟩), (4, .int .i64 0)]; simpa only [setL, List.foldl] using h), (by have h := setL_far (g := G) HB.out (by omega) [(1, .int .u8 1), (2, .float .f64 0), (3, .string ⟨#[]⟩), (4, .int .i64 0)]; simpa only [setL, List.foldl] using h), (by have h := setL_own HO.out NE.out [(1, .int .u8 1), (2, .float .f64 0), (3, .string ⟨#[]⟩), (4, .int .i64 0)]; simpa only [setL, List.foldl] using h), fun i hi => (by have h := setL_own (HP.out i hi) (own_ne_type (HP.out i hi) (by decide) UU.out) [(1, .int .u8 1), (2, .float .f64 0), (3, .string ⟨#[]⟩), (4, .int .i64 0)]; simpa only [setL, List.foldl] using h), (by have h := setL_own HN.out (own_ne_type HN.out (by decide) UU.out) [(1, .int .u8 1), (2, .float .f64 0), (3, .string ⟨#[]⟩), (4, .int .i64 0)]; simpa only [setL, List.foldl] using h), (by have h := setL_far (g := G) HR.out (by omega) [(1, .int .u8 1), (2, .float .f64 0), (3, .string ⟨#[]⟩), (4, .int .i64 0)]; simpa only [setL, List.foldl] using h), (by have h := setL_below (g := G) Bt.out (by omega) [(1, .int .u8 1), (2, .float .f64 0), (3, .string ⟨#[]⟩), (4, .int .i64 0)]; simpa only [setL, List.foldl] using h)⟩
        · have v0 : q1 k = 6 := by unfold q1; split <;> (try split) <;> (try split) <;> omega
          have V0 := hid v0
          clear v0
          have c0 : ((k : Int) == 0) = false := by rw [beq_eq_false_iff_ne]; omega
          clear h
          go_wp2_with fail
          go_meet
          case rel => exact ⟨by rw [V0.out]; exact UU.out, HQ.out, HB.out, HO.out, HP.out, HN.out, HR.out, Bt.out⟩
      case rest =>
      obtain ⟨hu, hq, hB, hO, hP, hN, hR, hb⟩ := hcut
      replace UU := hid hu
      replace HQ := hid hq
      replace HB := hid hB
      replace HO := hid hO
      replace HP := hid hP
      replace HN := hid hN
      replace HR := hid hR
      replace Bt := hid hb
      clear hu hq hB hO hP hN hR hb
      go_upto_region 9 with fail
      go_cut [25] from 6 to 52 (fun sx wx => sx = .bool (b9 k) ∧ wx = wc)
      case first =>
        rcases (show (8 ≤ k ∧ k ≤ 10) ∨ (8 ≤ k ∧ ¬ k ≤ 10) ∨ (¬ 8 ≤ k) by omega) with h | h | h
        · have hv : b9 k = true := by unfold b9; rw [decide_eq_true_iff]; omega
          have HV := hid hv
          clear hv
          have c0 : (8 : Int) ≤ k := by omega
          have c1 : (k : Int) ≤ 10 := by omega
          clear h
          go_wp2_with fail
          go_meet
          case rel => exact ⟨by rw [HV.out], rfl⟩
        · have hv : b9 k = false := by unfold b9; rw [decide_eq_false_iff_not]; omega
          have HV := hid hv
          clear hv
          have c0 : (8 : Int) ≤ k := by omega
          have c1 : ¬ (k : Int) ≤ 10 := by omega
          clear h
          go_wp2_with fail
          go_meet
          case rel => exact ⟨by rw [HV.out], rfl⟩
        · have hv : b9 k = false := by unfold b9; rw [decide_eq_false_iff_not]; omega
          have HV := hid hv
          clear hv
          have c0 : ¬ (8 : Int) ≤ k := by omega
          clear h
          go_wp2_with fail
          go_meet
          case rel => exact ⟨by rw [HV.out], rfl⟩
      case rest =>
      obtain ⟨rfl, rfl⟩ := hcut
      go_upto_if 25 with fail
      go_cut [] from 6 to 52 (fun wx => Bk wx G 43 #[.int .u8 (1), .int .u8 (q1 k), .float .f64 0, .string ⟨#[]⟩, .int .i64 (q2 k), .bool true, .slice pb pn pc, .int .u8 0, .float .f64 0, .string ⟨#[]⟩, .int .i64 0, .int .u8 0, .float .f64 0, .string ⟨#[]⟩, .int .i64 0, .string ⟨#[]⟩, .bool (false), .bool (false)] ∧ OwnP w.heap.size (pl k) (.slice pb pn pc) wx ∧ Bk wx (w.heap.size + 1) 38 #[v] ∧ wx.ownsRow w.heap.size 43 18 v k (obs vs k) ∧ (∀ i, i < k → OwnP w.heap.size (pl i) (vs i) wx) ∧ wx.ownsRow w.heap.size 9 1 (.slice (some ⟨ga, 0, none⟩) 72 cap) 72 (nms 0 72) ∧ Bk wx w.heap.size 38 #[.slice none 0 0] ∧ Below w.heap.size w wx)
      case first =>
        rcases (show (8 ≤ k ∧ k ≤ 10) ∨ (¬ (8 ≤ k ∧ k ≤ 10)) by omega) with h | h
        · have v0 : q1 k = 6 := by unfold q1; split <;> (try split) <;> (try split) <;> omega
          have V0 := hid v0
          clear v0
          have v1 : q2 k = 7 := by unfold q2; split <;> (try split) <;> (try split) <;> omega
          have V1 := hid v1
          clear v1
          rw [show b9 k = true from decide_eq_true h]
          clear h
          go_wp2_with fail
          refine (refObj7_any _).mono ?_; rintro e w6 ⟨rfl, hb6⟩
          have HB := hid (HB.out.on hb6)
          have HR := hid (HR.out.on hb6)
          have UU := hid (UU.out.on hb6)
          have HO := hid (own_below HO.out hb6)
          have HN := hid (own_below HN.out hb6)
          have HQ := hid (own_below HQ.out hb6)
          have HP := hid (fun i hi => own_below (HP.out i hi) hb6)
          have Bt := hid (grow Bt.out hb6)
          clear hb6
          obtain ⟨u0', u1', u2', u3', u4', u5', u6', u7', u8', u9', u10', u11', u12', u13', u14', u15', u16', u17', fu⟩ := UU.out.facts18
          go_wp2_with fail
          clear u0' u1' u2' u3' u4' u5' u6' u7' u8' u9' u10' u11' u12' u13' u14' u15' u16' u17' fu
          go_meet
          case rel => exact ⟨by rw [V0.out, V1.out]; exact Bk.eq ((((UU.out.set 1 _).set 2 _).set 3 _).set 4 _) rfl, (by have h := setL_own HQ.out (own_ne_type HQ.out (by decide) UU.out) [(1, .int .u8 6), (2, .float .f64 0), (3, .string ⟨#[]⟩), (4, .int .i64 7)]; simpa only [setL, List.foldl] using h), (by have h := setL_far (g := G) HB.out (by omega) [(1, .int .u8 6), (2, .float .f64 0), (3, .string ⟨#[]⟩), (4, .int .i64 7)]; simpa only [setL, List.foldl] using h), (by have h := setL_own HO.out NE.out [(1, .int .u8 6), (2, .float .f64 0), (3, .string ⟨#[]⟩), (4, .int .i64 7)]; simpa only [setL, List.foldl] using h), fun i hi => (by have h := setL_own (HP.out i hi) (own_ne_type (HP.out i hi) (by decide) UU.out) [(1, .int .u8 6), (2, .float .f64 0), (3, .string ⟨#[]⟩), (4, .int .i64 7)]; simpa only [setL, List.foldl] using h), (by have h := setL_own HN.out (own_ne_type HN.out (by decide) UU.out) [(1, .int .u8 6), (2, .float .f64 0), (3, .string ⟨#[]⟩), (4, .int .i64 7)]; simpa only [setL, List.foldl] using h), (by have h := setL_far (g := G) HR.out (by omega) [(1, .int .u8 6), (2, .float .f64 0), (3, .string ⟨#[]⟩), (4, .int .i64 7)]; simpa only [setL, List.foldl] using h), (by have h := setL_below (g := G) Bt.out (by omega) [(1, .int .u8 6), (2, .float .f64 0), (3, .string ⟨#[]⟩), (4, .int .i64 7)]; simpa only [setL, List.foldl] using h)⟩
        · have v0 : q2 k = 0 := by unfold q2; split <;> (try split) <;> (try split) <;> omega
          have V0 := hid v0
          clear v0
          rw [show b9 k = false from decide_eq_false h]
          clear h
          go_wp2_with fail
          go_meet
          case rel => exact ⟨by rw [V0.out]; exact UU.out, HQ.out, HB.out, HO.out, HP.out, HN.out, HR.out, Bt.out⟩
      case rest =>
      obtain ⟨hu, hq, hB, hO, hP, hN, hR, hb⟩ := hcut
      replace UU := hid hu
      replace HQ := hid hq
      replace HB := hid hB
      replace HO := hid hO
      replace HP := hid hP
      replace HN := hid hN
      replace HR := hid hR
      replace Bt := hid hb
      clear hu hq hB hO hP hN hR hb
      go_upto_if 29 with fail
      go_cut [] from 6 to 52 (fun wx => Bk wx G 43 #[.int .u8 (1), .int .u8 (pK (k : Int)), .float .f64 0, .string ⟨#[]⟩, .int .i64 (pR (k : Int)), .bool true, .slice pb pn pc, .int .u8 0, .float .f64 0, .string ⟨#[]⟩, .int .i64 0, .int .u8 0, .float .f64 0, .string ⟨#[]⟩, .int .i64 0, .string ⟨#[]⟩, .bool (false), .bool (false)] ∧ OwnP w.heap.size (pl k) (.slice pb pn pc) wx ∧ Bk wx (w.heap.size + 1) 38 #[v] ∧ wx.ownsRow w.heap.size 43 18 v k (obs vs k) ∧ (∀ i, i < k → OwnP w.heap.size (pl i) (vs i) wx) ∧ wx.ownsRow w.heap.size 9 1 (.slice (some ⟨ga, 0, none⟩) 72 cap) 72 (nms 0 72) ∧ Bk wx w.heap.size 38 #[.slice none 0 0] ∧ Below w.heap.size w wx)
      case first =>
        rcases (show (14 ≤ k) ∨ (¬ 14 ≤ k) by omega) with h | h
        · have v0 : pK (k : Int) = 7 := by unfold pK; split <;> (try split) <;> (try split) <;> omega
          have V0 := hid v0
          clear v0
          have v1 : pR (k : Int) = 1 := by unfold pR; split <;> (try split) <;> (try split) <;> omega
          have V1 := hid v1
          clear v1
          have c0 : (14 : Int) ≤ k := by omega
          clear h
          go_wp2_with fail
          refine (refObj1_any _).mono ?_; rintro e w6 ⟨rfl, hb6⟩
          have HB := hid (HB.out.on hb6)
          have HR := hid (HR.out.on hb6)
          have UU := hid (UU.out.on hb6)
          have HO := hid (own_below HO.out hb6)
          have HN := hid (own_below HN.out hb6)
          have HQ := hid (own_below HQ.out hb6)
          have HP := hid (fun i hi => own_below (HP.out i hi) hb6)
          have Bt := hid (grow Bt.out hb6)
          clear hb6
          obtain ⟨u0', u1', u2', u3', u4', u5', u6', u7', u8', u9', u10', u11', u12', u13', u14', u15', u16', u17', fu⟩ := UU.out.facts18
          go_wp2_with fail
          clear u0' u1' u2' u3' u4' u5' u6' u7' u8' u9' u10' u11' u12' u13' u14' u15' u16' u17' fu
          go_meet
          case rel => exact ⟨by rw [V0.out, V1.out]; exact Bk.eq ((((UU.out.set 1 _).set 2 _).set 3 _).set 4 _) rfl, (by have h := setL_own HQ.out (own_ne_type HQ.out (by decide) UU.out) [(1, .int .u8 7), (2, .float .f64 0), (3, .string ⟨#[]⟩), (4, .int .i64 1)]; simpa only [setL, List.foldl] using h), (by have h := setL_far (g := G) HB.out (by omega) [(1, .int .u8 7), (2, .float .f64 0), (3, .string ⟨#[]⟩), (4, .int .i64 1)]; simpa only [setL, List.foldl] using h), (by have h := setL_own HO.out NE.out [(1, .int .u8 7), (2, .float .f64 0), (3, .string ⟨#[]⟩), (4, .int .i64 1)]; simpa only [setL, List.foldl] using h), fun i hi => (by have h := setL_own (HP.out i hi) (own_ne_type (HP.out i hi) (by decide) UU.out) [(1, .int .u8 7), (2, .float .f64 0), (3, .string ⟨#[]⟩), (4, .int .i64 1)]; simpa only [setL, List.foldl] using h), (by have h := setL_own HN.out (own_ne_type HN.out (by decide) UU.out) [(1, .int .u8 7), (2, .float .f64 0), (3, .string ⟨#[]⟩), (4, .int .i64 1)]; simpa only [setL, List.foldl] using h), (by have h := setL_far (g := G) HR.out (by omega) [(1, .int .u8 7), (2, .float .f64 0), (3, .string ⟨#[]⟩), (4, .int .i64 1)]; simpa only [setL, List.foldl] using h), (by have h := setL_below (g := G) Bt.out (by omega) [(1, .int .u8 7), (2, .float .f64 0), (3, .string ⟨#[]⟩), (4, .int .i64 1)]; simpa only [setL, List.foldl] using h)⟩
        · have v0 : pK (k : Int) = q1 k := by unfold pK q1; split <;> (try split) <;> (try split) <;> (try split) <;> omega
          have V0 := hid v0
          clear v0
          have v1 : pR (k : Int) = q2 k := by unfold pR q2; split <;> (try split) <;> (try split) <;> (try split) <;> omega
          have V1 := hid v1
          clear v1
          have c0 : ¬ (14 : Int) ≤ k := by omega
          clear h
          go_wp2_with fail
          go_meet
          case rel => exact ⟨by rw [V0.out, V1.out]; exact UU.out, HQ.out, HB.out, HO.out, HP.out, HN.out, HR.out, Bt.out⟩
      case rest =>
      obtain ⟨hu, hq, hB, hO, hP, hN, hR, hb⟩ := hcut
      replace UU := hid hu
      replace HQ := hid hq
      replace HB := hid hB
      replace HO := hid hO
      replace HP := hid hP
      replace HN := hid hN
      replace HR := hid hR
      replace Bt := hid hb
      clear hu hq hB hO hP hN hR hb
      go_upto_region 13 with fail
      go_cut [37] from 6 to 52 (fun sx wx => sx = .bool (b13 k) ∧ wx = wc)
      case first =>
        rcases (show (k = 1) ∨ (k ≠ 1 ∧ 14 ≤ k) ∨ (k ≠ 1 ∧ ¬ 14 ≤ k) by omega) with h | h | h
        · have hv : b13 k = true := by unfold b13; rw [decide_eq_true_iff]; omega
          have HV := hid hv
          clear hv
          have c0 : ((k : Int) == 1) = true := by rw [beq_iff_eq]; omega
          clear h
          go_wp2_with fail
          go_meet
          case rel => exact ⟨by rw [HV.out], rfl⟩
        · have hv : b13 k = true := by unfold b13; rw [decide_eq_true_iff]; omega
          have HV := hid hv
          clear hv
          have c0 : ((k : Int) == 1) = false := by rw [beq_eq_false_iff_ne]; omega
          have c1 : (14 : Int) ≤ k := by omega
          clear h
          go_wp2_with fail
          go_meet
          case rel => exact ⟨by rw [HV.out], rfl⟩
        · have hv : b13 k = false := by unfold b13; rw [decide_eq_false_iff_not]; omega
          have HV := hid hv
          clear hv
          have c0 : ((k : Int) == 1) = false := by rw [beq_eq_false_iff_ne]; omega
          have c1 : ¬ (14 : Int) ≤ k := by omega
          clear h
          go_wp2_with fail
          go_meet
          case rel => exact ⟨by rw [HV.out], rfl⟩
      case rest =>
      obtain ⟨rfl, rfl⟩ := hcut
      go_upto_if 37 with fail
      go_cut [] from 6 to 52 (fun wx => Bk wx G 43 #[.int .u8 (oK (k : Int)), .int .u8 (pK (k : Int)), .float .f64 0, .string ⟨#[]⟩, .int .i64 (pR (k : Int)), .bool true, .slice pb pn pc, .int .u8 0, .float .f64 0, .string ⟨#[]⟩, .int .i64 0, .int .u8 0, .float .f64 0, .string ⟨#[]⟩, .int .i64 0, .string ⟨#[]⟩, .bool (kd (k : Int) != 6), .bool (false)] ∧ OwnP w.heap.size (pl k) (.slice pb pn pc) wx ∧ Bk wx (w.heap.size + 1) 38 #[v] ∧ wx.ownsRow w.heap.size 43 18 v k (obs vs k) ∧ (∀ i, i < k → OwnP w.heap.size (pl i) (vs i) wx) ∧ wx.ownsRow w.heap.size 9 1 (.slice (some ⟨ga, 0, none⟩) 72 cap) 72 (nms 0 72) ∧ Bk wx w.heap.size 38 #[.slice none 0 0] ∧ Below w.heap.size w wx)
      case first =>
        rcases (show (k = 1 ∨ 14 ≤ k) ∨ (¬ (k = 1 ∨ 14 ≤ k)) by omega) with h | h
        · have v0 : oK (k : Int) = 5 := by unfold oK; split <;> (try split) <;> (try split) <;> omega
          have V0 := hid v0
          clear v0
          have v1 : (kd (k : Int) != 6) = true := by unfold kd; split <;> (try split) <;> first | rfl | omega
          have V1 := hid v1
          clear v1
          rw [show b13 k = true from decide_eq_true h]
          clear h
          obtain ⟨u0', u1', u2', u3', u4', u5', u6', u7', u8', u9', u10', u11', u12', u13', u14', u15', u16', u17', fu⟩ := UU.out.facts18
          go_wp2_with fail
          clear u0' u1' u2' u3' u4' u5' u6' u7' u8' u9' u10' u11' u12' u13' u14' u15' u16' u17' fu
          go_meet
          case rel => exact ⟨by rw [V0.out, V1.out]; exact Bk.eq ((UU.out.set 0 _).set 16 _) rfl, (by have h := setL_own HQ.out (own_ne_type HQ.out (by decide) UU.out) [(0, .int .u8 5), (16, .bool true)]; simpa only [setL, List.foldl] using h), (by have h := setL_far (g := G) HB.out (by omega) [(0, .int .u8 5), (16, .bool true)]; simpa only [setL, List.foldl] using h), (by have h := setL_own HO.out NE.out [(0, .int .u8 5), (16, .bool true)]; simpa only [setL, List.foldl] using h), fun i hi => (by have h := setL_own (HP.out i hi) (own_ne_type (HP.out i hi) (by decide) UU.out) [(0, .int .u8 5), (16, .bool true)]; simpa only [setL, List.foldl] using h), (by have h := setL_own HN.out (own_ne_type HN.out (by decide) UU.out) [(0, .int .u8 5), (16, .bool true)]; simpa only [setL, List.foldl] using h), (by have h := setL_far (g := G) HR.out (by omega) [(0, .int .u8 5), (16, .bool true)]; simpa only [setL, List.foldl] using h), (by have h := setL_below (g := G) Bt.out (by omega) [(0, .int .u8 5), (16, .bool true)]; simpa only [setL, List.foldl] using h)⟩
        · have v0 : oK (k : Int) = 1 := by unfold oK; split <;> (try split) <;> (try split) <;> omega
          have V0 := hid v0
          clear v0
          have v1 : (kd (k : Int) != 6) = false := by unfold kd; split <;> (try split) <;> first | rfl | omega
          have V1 := hid v1
          clear v1
          rw [show b13 k = false from decide_eq_false h]
          clear h
          go_wp2_with fail
          go_meet
          case rel => exact ⟨by rw [V0.out, V1.out]; exact UU.out, HQ.out, HB.out, HO.out, HP.out, HN.out, HR.out, Bt.out⟩
      case rest =>
      obtain ⟨hu, hq, hB, hO, hP, hN, hR, hb⟩ := hcut
      replace UU := hid hu
      replace HQ := hid hq
      replace HB := hid hB
      replace HO := hid hO
      replace HP := hid hP
      replace HN := hid hN
      replace HR := hid hR
      replace Bt := hid hb
      clear hu hq hB hO hP hN hR hb
      go_upto_region 16 with fail
      go_cut [] from 6 to 52 (fun wx => Bk wx G 43 #[.int .u8 (oK (k : Int)), .int .u8 (pK (k : Int)), .float .f64 0, .string ⟨#[]⟩, .int .i64 (pR (k : Int)), .bool true, .slice pb pn pc, .int .u8 0, .float .f64 0, .string ⟨#[]⟩, .int .i64 0, .int .u8 0, .float .f64 0, .string ⟨#[]⟩, .int .i64 0, .string ⟨#[]⟩, .bool (kd (k : Int) != 6), .bool (kd (k : Int) == 8)] ∧ OwnP w.heap.size (pl k) (.slice pb pn pc) wx ∧ Bk wx (w.heap.size + 1) 38 #[v] ∧ wx.ownsRow w.heap.size 43 18 v k (obs vs k) ∧ (∀ i, i < k → OwnP w.heap.size (pl i) (vs i) wx) ∧ wx.ownsRow w.heap.size 9 1 (.slice (some ⟨ga, 0, none⟩) 72 cap) 72 (nms 0 72) ∧ Bk wx w.heap.size 38 #[.slice none 0 0] ∧ Below w.heap.size w wx)
      case first =>
        rcases (show (14 ≤ k ∧ k ≤ 19) ∨ (14 ≤ k ∧ ¬ k ≤ 19) ∨ (¬ 14 ≤ k) by omega) with h | h | h
        · have v0 : (kd (k : Int) == 8) = true := by unfold kd; split <;> (try split) <;> first | rfl | omega
          have V0 := hid v0
          clear v0
          have c0 : (14 : Int) ≤ k := by omega
          have c1 : (k : Int) ≤ 19 := by omega
          clear h
          obtain ⟨u0', u1', u2', u3', u4', u5', u6', u7', u8', u9', u10', u11', u12', u13', u14', u15', u16', u17', fu⟩ := UU.out.facts18
          go_wp2_with fail
          clear u0' u1' u2' u3' u4' u5' u6' u7' u8' u9' u10' u11' u12' u13' u14' u15' u16' u17' fu
          go_meet
          case rel => exact ⟨by rw [V0.out]; exact Bk.eq (UU.out.set 17 _) rfl, (by have h := setL_own HQ.out (own_ne_type HQ.out (by decide) UU.out) [(17, .bool true)]; simpa only [setL, List.foldl] using h), (by have h := setL_far (g := G) HB.out (by omega) [(17, .bool true)]; simpa only [setL, List.foldl] using h), (by have h := setL_own HO.out NE.out [(17, .bool true)]; simpa only [setL, List.foldl] using h), fun i hi => (by have h := setL_own (HP.out i hi) (own_ne_type (HP.out i hi) (by decide) UU.out) [(17, .bool true)]; simpa only [setL, List.foldl] using h), (by have h := setL_own HN.out (own_ne_type HN.out (by decide) UU.out) [(17, .bool true)]; simpa only [setL, List.foldl] using h), (by have h := setL_far (g := G) HR.out (by omega) [(17, .bool true)]; simpa only [setL, List.foldl] using h), (by have h := setL_below (g := G) Bt.out (by omega) [(17, .bool true)]; simpa only [setL, List.foldl] using h)⟩
        · have v0 : (kd (k : Int) == 8) = false := by unfold kd; split <;> (try split) <;> first | rfl | omega
          have V0 := hid v0
          clear v0
          have c0 : (14 : Int) ≤ k := by omega
          have c1 : ¬ (k : Int) ≤ 19 := by omega
          clear h
          obtain ⟨u0', u1', u2', u3', u4', u5', u6', u7', u8', u9', u10', u11', u12', u13', u14', u15', u16', u17', fu⟩ := UU.out.facts18
          go_wp2_with fail
          clear u0' u1' u2' u3' u4' u5' u6' u7' u8' u9' u10' u11' u12' u13' u14' u15' u16' u17' fu
          go_meet
          case rel => exact ⟨by rw [V0.out]; exact Bk.eq (UU.out.set 17 _) rfl, (by have h := setL_own HQ.out (own_ne_type HQ.out (by decide) UU.out) [(17, .bool false)]; simpa only [setL, List.foldl] using h), (by have h := setL_far (g := G) HB.out (by omega) [(17, .bool false)]; simpa only [setL, List.foldl] using h), (by have h := setL_own HO.out NE.out [(17, .bool false)]; simpa only [setL, List.foldl] using h), fun i hi => (by have h := setL_own (HP.out i hi) (own_ne_type (HP.out i hi) (by decide) UU.out) [(17, .bool false)]; simpa only [setL, List.foldl] using h), (by have h := setL_own HN.out (own_ne_type HN.out (by decide) UU.out) [(17, .bool false)]; simpa only [setL, List.foldl] using h), (by have h := setL_far (g := G) HR.out (by omega) [(17, .bool false)]; simpa only [setL, List.foldl] using h), (by have h := setL_below (g := G) Bt.out (by omega) [(17, .bool false)]; simpa only [setL, List.foldl] using h)⟩
        · have v0 : (kd (k : Int) == 8) = false := by unfold kd; split <;> (try split) <;> first | rfl | omega
          have V0 := hid v0
          clear v0
          have c0 : ¬ (14 : Int) ≤ k := by omega
          clear h
          obtain ⟨u0', u1', u2', u3', u4', u5', u6', u7', u8', u9', u10', u11', u12', u13', u14', u15', u16', u17', fu⟩ := UU.out.facts18
          go_wp2_with fail
          clear u0' u1' u2' u3' u4' u5' u6' u7' u8' u9' u10' u11' u12' u13' u14' u15' u16' u17' fu
          go_meet
          case rel => exact ⟨by rw [V0.out]; exact Bk.eq (UU.out.set 17 _) rfl, (by have h := setL_own HQ.out (own_ne_type HQ.out (by decide) UU.out) [(17, .bool false)]; simpa only [setL, List.foldl] using h), (by have h := setL_far (g := G) HB.out (by omega) [(17, .bool false)]; simpa only [setL, List.foldl] using h), (by have h := setL_own HO.out NE.out [(17, .bool false)]; simpa only [setL, List.foldl] using h), fun i hi => (by have h := setL_own (HP.out i hi) (own_ne_type (HP.out i hi) (by decide) UU.out) [(17, .bool false)]; simpa only [setL, List.foldl] using h), (by have h := setL_own HN.out (own_ne_type HN.out (by decide) UU.out) [(17, .bool false)]; simpa only [setL, List.foldl] using h), (by have h := setL_far (g := G) HR.out (by omega) [(17, .bool false)]; simpa only [setL, List.foldl] using h), (by have h := setL_below (g := G) Bt.out (by omega) [(17, .bool false)]; simpa only [setL, List.foldl] using h)⟩
      case rest =>
      obtain ⟨hu, hq, hB, hO, hP, hN, hR, hb⟩ := hcut
      replace UU := hid hu
      replace HQ := hid hq
      replace HB := hid hB
      replace HO := hid hO
      replace HP := hid hP
      replace HN := hid hN
      replace HR := hid hR
      replace Bt := hid hb
      clear hu hq hB hO hP hN hR hb
      have hnb : w.heap.size + 1 ≠ G := by omega
      have hv0 : wc.cell? ⟨w.heap.size + 1, 0, none⟩ = some v := HB.out.cell 0
      go_upto_region 17 with fail
      go_wp2_with (first | (refine wpList_load_row (by rfl) 43 (.tmp 4) (by rfl) G (by rfl) 43 #[.int .u8 (oK (k : Int)), .int .u8 (pK (k : Int)), .float .f64 0, .string ⟨#[]⟩, .int .i64 (pR (k : Int)), .bool true, .slice pb pn pc, .int .u8 0, .float .f64 0, .string ⟨#[]⟩, .int .i64 0, .int .u8 0, .float .f64 0, .string ⟨#[]⟩, .int .i64 0, .string ⟨#[]⟩, .bool (kd (k : Int) != 6), .bool (kd (k : Int) == 8)] (0, 0) _ UU.out Try.underlying43 (by rfl) (by kernel_rfl) ?_) | (at_builtin; refine wpList_append_own _ (by rfl) _ _ 36 (by rfl) w.heap.size 43 i0 _ 18 184 Try.underlying36 hi hz0 hz1 hz2 rfl (by decide) _ _ _ (by rfl) (HO.out.alloc _) ⟨wc.heap.size, 0, none⟩ 1 1 (obC k (.slice pb pn pc)) (by rfl) (by rfl) (cellsL_at _ (obC k (.slice pb pn pc)) _ _ rfl) (obC_one rfl) L3.out L4.out (Nat.le_trans Bt.out.size (le_alloc _ _)) ?_))
      intro v' w5 hown' hgrow _
      obtain ⟨vb, vn, vc, rfl⟩ := own_form hown'
      have HX := hid HO.out
      replace HP := hid (fun i hi => own_app (HP.out i hi) (HX.out.alloc _) (by decide) hgrow)
      replace HQ := hid (own_app HQ.out (HX.out.alloc _) (by decide) hgrow)
      replace HN := hid (own_app HN.out (HX.out.alloc _) (by decide) hgrow)
      replace HB := hid (bk_app HB.out HX.out (by decide) hgrow)
      replace HR := hid (bk_app HR.out HX.out (by decide) hgrow)
      replace Bt := hid (own_below1 HX.out Bt.out hgrow)
      replace HO := hid hown'
      clear hgrow hown' hv0 HX UU
      have hv5 : w5.cell? ⟨w.heap.size + 1, 0, none⟩ = some v := HB.out.cell 0
      have hf5 : w5.frozen? ⟨w.heap.size + 1, 0, none⟩ = false := HB.out.free 0
      go_wp2_with fail
      go_roundw
      case rel => exact ⟨k + 1, by omega, by go_num, refR_step HB.out HO.out HP.out HQ.out HN.out HR.out Bt.out⟩
      case measure => simp [intOf]; omega
    · obtain rfl : k = 72 := by omega
      obtain ⟨vb, vn, vc, rfl⟩ := own_form HO.out
      have hv0 : wr.cell? ⟨w.heap.size + 1, 0, none⟩ = some (.slice vb vn vc) := HB.out.cell 0
      have hr0 : wr.cell? ⟨w.heap.size, 0, none⟩ = some (.slice none 0 0) := HR.out.cell 0
      have hrf : wr.frozen? ⟨w.heap.size, 0, none⟩ = false := HR.out.free 0
      go_wp2_with fail
      refine bodyPost_ret (v := .agg #[.slice vb vn vc]) (results_cell_row Try.results16 _ _ w.heap.size 38 #[.slice vb vn vc] (0, 0) _ rfl (HR.out.set 0 _) Try.underlying38 rfl (by kernel_rfl)) rfl ?_
      exact ⟨_, rfl, ⟨vs, own_set (p := ⟨w.heap.size, 0, none⟩) HO.out HR.out (by decide) _, fun i hi => own_set (p := ⟨w.heap.size, 0, none⟩) (HP.out i hi) HR.out (by decide) _⟩, Bt.out.setCell (p := ⟨w.heap.size, 0, none⟩) (Nat.le_refl _) _⟩

end Go.Proofs.Ytchpkopeblgifaa
