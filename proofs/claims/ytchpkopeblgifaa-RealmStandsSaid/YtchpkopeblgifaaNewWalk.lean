/-
  The heap of all first objects, as the program makes it.
-/
import Derived.Test.YtchpkopeblgifaaMadeObj
namespace Go.Proofs.Ytchpkopeblgifaa
open Go.RowKit

/-- The cells of the first objects, one behind another. -/
def obs (vs : Nat → Value) : Nat → List Value
  | 0 => []
  | k + 1 => obs vs k ++ obC k (vs k)
theorem obs_length (vs : Nat → Value) (k : Nat) : (obs vs k).length = k * 18 := by
  induction k with
  | zero => rfl
  | succ k ih => simp [obs, ih, obC_length]; omega
theorem obs_get (vs : Nat → Value) (k i f : Nat) (hi : i < k) (hf : f < 18) : (obs vs k)[i * 18 + f]? = (obC i (vs i))[f]? := by
  induction k with
  | zero => omega
  | succ k ih =>
    have hl := obs_length vs k
    unfold obs
    by_cases h : i < k
    · rw [List.getElem?_append_left (by omega), ih h]
    · obtain rfl : i = k := by omega
      rw [List.getElem?_append_right (by omega)]
      congr 1; omega
theorem obs_congr {vs us : Nat → Value} (k : Nat) (h : ∀ i, i < k → vs i = us i) : obs vs k = obs us k := by
  induction k with
  | zero => rfl
  | succ k ih => unfold obs; rw [ih (fun i hi => h i (by omega)), h k (by omega)]
def put (vs : Nat → Value) (k : Nat) (v : Value) : Nat → Value := fun i => if i = k then v else vs i
theorem obs_put (vs : Nat → Value) (k : Nat) (v : Value) : obs (put vs k v) (k + 1) = obs vs k ++ obC k v := by
  show obs (put vs k v) k ++ obC k (put vs k v k) = _
  rw [obs_congr k (us := vs) (fun i hi => by unfold put; rw [if_neg (by omega)]), show put vs k v k = v by unfold put; rw [if_pos rfl]]

theorem set_grown (w : World) (p : Addr) (u : Value) : w.grownBy (w.setCell p u) (some p.block) :=
  ⟨rfl, rfl, rfl, by simp [World.setCell], fun k _ hn => Below.heap_setCell w p u k (by rintro rfl; exact hn rfl)⟩
section
variable {w w1 wx : World} {base base2 : Nat} {e e2 : TypeId} {sz sz2 : Nat} {v v2 : Value} {n n2 : Nat} {xs xs2 : List Value}
/-- A row stays behind a store into a block of another element type; into a block that is not its own. -/
theorem own_set (h : w.ownsRow base e sz v n xs) {p : Addr} {t : TypeId} {cs : Array Value} (hb : Bk w p.block t cs) (hne : e ≠ t) (u : Value) : (w.setCell p u).ownsRow base e sz v n xs :=
  h.kept (set_grown w p u) (Or.inr (own_ne_type h hne hb))
theorem own_far (h : w.ownsRow base e sz v n xs) {p : Addr} (hp : v.ownBlock ≠ some p.block) (u : Value) : (w.setCell p u).ownsRow base e sz v n xs :=
  h.kept (set_grown w p u) (Or.inr hp)
/-- A row stays behind an append to a row of another element type. -/
theorem own_app (h : wx.ownsRow base e sz v n xs) {o : Obj} (h2 : (wx.alloc o).ownsRow base2 e2 sz2 v2 n2 xs2) (hne : e ≠ e2) (hg : (wx.alloc o).grownBy w1 v2.ownBlock) : w1.ownsRow base e sz v n xs := by
  refine (h.alloc o).kept hg ?_
  obtain ⟨_, ⟨rfl, _⟩ | ⟨g, cap, cur, rfl, _, hgb, _⟩⟩ := (h.alloc o)
  · exact Or.inl rfl
  · refine Or.inr fun hh => ?_
    exact own_ne_type h2 (fun q => hne q.symm) hgb (hh.symm.trans rfl)
theorem bk_app {t : TypeId} {cs : Array Value} {g : Nat} (hb : Bk wx g t cs) {o : Obj} (h2 : wx.ownsRow base2 e2 sz2 v2 n2 xs2) (hne : e2 ≠ t) (hg : (wx.alloc o).grownBy w1 v2.ownBlock) : Bk w1 g t cs := step_type h2 hne hb hg
theorem own_more2 {B k : Nat} {vs : Nat → Value} {vp : Value} (h : w.ownsRow B 43 18 v (k + 1) (obs vs k ++ obC k vp)) : w.ownsRow B 43 18 v (k + 1) (obs (put vs k vp) (k + 1)) := by rw [obs_put]; exact h
end

/-- A slice of the 72 first objects, in memory of the call's own. -/
def Heap1 (B : Nat) (w : World) (v : Value) : Prop := ∃ vs : Nat → Value, w.ownsRow B 43 18 v 72 (obs vs 72) ∧ ∀ i, i < 72 → OwnP B (pl i) (vs i) w
def NewQ (w : World) (e : Ending) (w' : World) : Prop := ∃ v, e = .returned (.agg #[v]) ∧ Heap1 w.heap.size w' v ∧ Below w.heap.size w w'
/-- Where the making stands. -/
def NewR (w : World) (g : Nat) (k : Nat) (wr : World) : Prop := ∃ (v : Value) (vs : Nat → Value), Bk wr (g + 1 + 1) 38 #[v] ∧ wr.ownsRow w.heap.size 43 18 v k (obs vs k) ∧ (∀ i, i < k → OwnP w.heap.size (pl i) (vs i) wr) ∧ Bk wr g 59 firstsA ∧ Bk wr w.heap.size 38 #[.slice none 0 0] ∧ Below w.heap.size w wr ∧ w.heap.size < g

theorem newR_step {w w5 : World} {g k : Nat} {v v' : Value} {vs : Nat → Value} {vp : Value} (hB : Bk w5 (g + 1 + 1) 38 #[v]) (hO : w5.ownsRow w.heap.size 43 18 v' (k + 1) (obs vs k ++ obC k vp)) (hP : ∀ i, i < k → OwnP w.heap.size (pl i) (vs i) w5)
    (hQ : OwnP w.heap.size (pl k) vp w5) (hF : Bk w5 g 59 firstsA) (hR : Bk w5 w.heap.size 38 #[.slice none 0 0]) (hb : Below w.heap.size w w5) (hg : w.heap.size < g) : NewR w g (k + 1) (w5.setCell ⟨g + 1 + 1, 0, none⟩ v') := by
  refine ⟨v', put vs k vp, Bk.eq (hB.set 0 v') rfl, own_set (p := ⟨g + 1 + 1, 0, none⟩) (by rw [obs_put]; exact hO) hB (by decide) v', fun i hi => ?_, hF.far (p := ⟨g + 1 + 1, 0, none⟩) (by show g ≠ g + 1 + 1; omega) v', hR.far (p := ⟨g + 1 + 1, 0, none⟩) (by show w.heap.size ≠ g + 1 + 1; omega) v', hb.setCell (p := ⟨g + 1 + 1, 0, none⟩) (by show w.heap.size ≤ g + 1 + 1; omega) v', hg⟩
  unfold put
  by_cases h : i = k
  · subst h; rw [if_pos rfl]; exact own_set (p := ⟨g + 1 + 1, 0, none⟩) hQ hB (by decide) v'
  · rw [if_neg h]; exact own_set (p := ⟨g + 1 + 1, 0, none⟩) (hP i (by omega)) hB (by decide) v'
theorem own_base {b b' : Nat} {w : World} {e : TypeId} {sz : Nat} {v : Value} {n : Nat} {xs : List Value} (h : w.ownsRow b e sz v n xs) (hb : b' ≤ b) : w.ownsRow b' e sz v n xs := by
  obtain ⟨h1, h2 | ⟨g, cap, cur, h3, h4, h5⟩⟩ := h
  · exact ⟨h1, Or.inl h2⟩
  · exact ⟨h1, Or.inr ⟨g, cap, cur, h3, Nat.le_trans hb h4, h5⟩⟩
theorem own_form {b : Nat} {w : World} {e : TypeId} {sz : Nat} {v : Value} {n : Nat} {xs : List Value} (h : w.ownsRow b e sz v n xs) : ∃ b n c, v = .slice b n c := by
  obtain ⟨_, ⟨rfl, _⟩ | ⟨g, cap, cur, rfl, _⟩⟩ := h <;> exact ⟨_, _, _, rfl⟩
theorem cellsL_at (W : World) (l : List Value) (t : TypeId) (g : Nat) (hg : g = W.heap.size) : ∀ (j : Nat) (u : Value), l[j]? = some u → (W.alloc (.cells l.toArray t)).cell? ((⟨g, 0, none⟩ : Addr).add j) = some u := by
  subst hg; exact cellsL_new W l t
theorem pl_ge {k : Nat} (h : ¬ k < 24) : pl k = [] := by unfold pl; rw [if_neg h]
theorem oneCell_row {base : Nat} {w : World} {e : TypeId} {sz : Nat} {v : Value} {n : Nat} {xs : List Value} (h : w.ownsRow base e sz v n xs) : v.oneCell' = true := by
  obtain ⟨_, ⟨rfl, _⟩ | ⟨g, cap, cur, rfl, _⟩⟩ := h <;> rfl

set_option maxHeartbeats 4000000 in
set_option maxRecDepth 100000 in
theorem new_any (w : World) : Calls Try.prog 15 #[] w (NewQ w) := by
  obtain ⟨i0, hi, hz0, hz1, hz2⟩ := info_parts info_obj
  go_enter Try.func15, Try.ntmps15
  go_wp2_with fail
  refine (firsts_any _).mono ?_; rintro e w1 ⟨rfl, hb1⟩
  have R0 := hid ((Bk.new w 38 #[.slice none 0 0]).on hb1)
  have Bt := hid (grow (box1 w (.cells #[.slice none 0 0] 38)) hb1)
  clear hb1
  go_wp2_with fail
  refine (funcs_any _).mono ?_; rintro e w2 ⟨rfl, hb2⟩
  have R0 := hid (R0.out.on hb2)
  have hw2 : w.heap.size < w2.heap.size := Nat.lt_of_lt_of_le R0.out.lt (Nat.le_refl _)
  have Bt := hid (grow Bt.out hb2)
  clear hb2
  go_wp2_with (first | (refine wpList_store_new2 (by rfl) 59 (.tmp 1) (.tmp 6) (by rfl) firstsA _ _ _ (by rfl) (by rfl) (by kernel_rfl) (by rfl) (by kernel_rfl) ?_) | (refine wpList_store_at (by rfl) 61 (.tmp 2) (.tmp 7) (by rfl) (w2.heap.size + 1) (by simp) funcsA _ _ (by rfl) (by rfl) (by kernel_rfl) (by rfl) (by kernel_rfl) ?_))
  go_loopw [8] (fun i wr => ∃ k : Nat, k ≤ 72 ∧ i = .int .i64 k ∧ NewR w w2.heap.size k wr) (fun i _ => 72 - (intOf i).toNat)
  case atStart =>
    refine ⟨0, by omega, rfl, .slice none 0 0, fun _ => .slice none 0 0, ?_, World.ownsRow_nil _ _ _ _, fun i hi => by omega, ((Bk.new w2 59 firstsA).alloc _).alloc _, ((R0.out.alloc _).alloc _).alloc _, ((Bt.out.alloc Bt.out.size _).alloc (by have := Bt.out.size; simp; omega) _).alloc (by have := Bt.out.size; simp; omega) _, hw2⟩
    have h := Bk.new2 (w2.alloc (.cells firstsA 59)) (.cells funcsA 61) 38 #[.slice none 0 0]
    rwa [show (w2.alloc (.cells firstsA 59)).heap.size = w2.heap.size + 1 by simp] at h
  case round =>
    clear R0 Bt
    obtain ⟨k, hk, rfl, v, vs, hB, hO, hP, hF, hR, hb, _⟩ := hrel
    have HB := hid hB
    have HO := hid hO
    have HP := hid hP
    have HF := hid hF
    have HR := hid hR
    have Bt := hid hb
    clear hB hO hP hF hR hb
    by_cases hlt : k < 72
    · go_wp2_with fail
      refine (made_any k (by omega) _).mono ?_; rintro e w3 ⟨rfl, hb3⟩
      have HB := hid (HB.out.on hb3)
      have HO := hid (own_below HO.out hb3)
      have HP := hid (fun i hi => own_below (HP.out i hi) hb3)
      have HF := hid (HF.out.on hb3)
      have HR := hid (HR.out.on hb3)
      have Bt := hid (grow Bt.out hb3)
      clear hb3
      have hne : Hid (v.ownBlock ≠ some w3.heap.size) := hid fun e => by have := (HO.out.lt _ e).2; omega
      have hg1 : w2.heap.size + 1 + 1 < w3.heap.size := HB.out.lt
      have L3 : Hid (k + 1 ≤ maxLen) := hid (by unfold maxLen; omega)
      have L4 : Hid ((k + 1) * 184 ≤ 140737488355328) := hid (by omega)
      have OB := hid (Bk.new w3 43 (obC k (.slice none 0 0)).toArray)
      by_cases h24 : k < 24
      · have hcell : (w3.alloc (.cells (obC k (.slice none 0 0)).toArray 43)).cell? ⟨w2.heap.size, k, none⟩ = some (.string (nm k)) := ((HF.out.alloc _).cell k).trans (firstsA_get k h24)
        go_wp2_with (first | (refine wpList_store_new (by rfl) 43 (.tmp 5) (.tmp 12) (by rfl) (obC k (.slice none 0 0)).toArray 43 zeroObj (by rfl) (by rfl) (by kernel_rfl) (by rfl) (obC_arr rfl) ?_))
        refine (props_A k h24 _).mono ?_; rintro e w4 ⟨vp, rfl, hp, hb4⟩
        have HQ := hid hp
        have HB := hid ((HB.out.alloc _).on hb4)
        have HO := hid (own_below (HO.out.alloc _) hb4)
        have HP := hid (fun i hi => own_below ((HP.out i hi).alloc _) hb4)
        have HF := hid ((HF.out.alloc _).on hb4)
        have HR := hid ((HR.out.alloc _).on hb4)
        have OB := hid (OB.out.on hb4)
        have Bt := hid (grow (Bt.out.alloc Bt.out.size _) hb4)
        clear hb4 hp hcell
        obtain ⟨pb, pn, pc, rfl⟩ := own_form HQ.out
        have hc6 : w4.cell? ⟨w3.heap.size, 6, none⟩ = some (.slice none 0 0) := OB.out.cell 6
        have hf6 : w4.frozen? ⟨w3.heap.size, 6, none⟩ = false := OB.out.free 6
        have hv0 : w4.cell? ⟨w2.heap.size + 1 + 1, 0, none⟩ = some v := HB.out.cell 0
        have hnb : w2.heap.size + 1 + 1 ≠ w3.heap.size := by omega
        have HX : Hid ((w4.setCell ⟨w3.heap.size, 6, none⟩ (.slice pb pn pc)).ownsRow w.heap.size 43 18 v k (obs vs k)) := hid (own_far (p := ⟨w3.heap.size, 6, none⟩) HO.out hne.out (.slice pb pn pc))
        have BX : Hid (Below w.heap.size w (w4.setCell ⟨w3.heap.size, 6, none⟩ (.slice pb pn pc))) := hid (Bt.out.setCell (p := ⟨w3.heap.size, 6, none⟩) (by show w.heap.size ≤ w3.heap.size; omega) (.slice pb pn pc))
        have HS : Hid (w4.heap.size = (w4.setCell ⟨w3.heap.size, 6, none⟩ (.slice pb pn pc)).heap.size) := hid (by simp [World.setCell])
        have HV : Hid ((Value.slice pb pn pc).oneCell' = true) := hid (oneCell_row HQ.out)
        go_wp2_with (first | (refine wpList_load_row (by rfl) 43 (.tmp 5) (by rfl) w3.heap.size (by rfl) 43 #[.int .u8 (oK (k : Int)), .int .u8 (pK (k : Int)), .float .f64 0, .string ⟨#[]⟩, .int .i64 (pR (k : Int)), .bool true, (.slice pb pn pc), .int .u8 0, .float .f64 0, .string ⟨#[]⟩, .int .i64 0, .int .u8 0, .float .f64 0, .string ⟨#[]⟩, .int .i64 0, .string ⟨#[]⟩, .bool (kd (k : Int) != 6), .bool (kd (k : Int) == 8)] (0, 0) _ ?hU Try.underlying43 (by rfl) (by kernel_rfl) ?_) | (at_builtin; refine wpList_append_own _ (by rfl) _ _ 36 (by rfl) w.heap.size 43 i0 _ 18 184 Try.underlying36 hi hz0 hz1 hz2 rfl (by decide) _ _ _ (by rfl) (HX.out.alloc _) ⟨w4.heap.size, 0, none⟩ 1 1 (obC k (.slice pb pn pc)) (by rfl) (by rfl) (cellsL_at _ (obC k (.slice pb pn pc)) _ _ HS.out) (obC_one HV.out) L3.out L4.out (Nat.le_trans BX.out.size (le_alloc _ _)) ?_))
        case hU => exact Bk.eq (OB.out.set 6 _) rfl
        intro v' w5 hown' hgrow _
        obtain ⟨vb, vn, vc, rfl⟩ := own_form hown'
        have HP := hid (fun i hi => own_app (own_set (p := ⟨w3.heap.size, 6, none⟩) (HP.out i hi) OB.out (by decide) (.slice pb pn pc)) (HX.out.alloc _) (by decide) hgrow)
        have HQ := hid (own_base (own_app (own_set (p := ⟨w3.heap.size, 6, none⟩) HQ.out OB.out (by decide) (.slice pb pn pc)) (HX.out.alloc _) (by decide) hgrow) (b' := w.heap.size) (by simp; omega))
        have HB := hid (bk_app (HB.out.far (p := ⟨w3.heap.size, 6, none⟩) (by show w2.heap.size + 1 + 1 ≠ w3.heap.size; omega) (.slice pb pn pc)) HX.out (by decide) hgrow)
        have HF := hid (bk_app (HF.out.far (p := ⟨w3.heap.size, 6, none⟩) (by show w2.heap.size ≠ w3.heap.size; omega) (.slice pb pn pc)) HX.out (by decide) hgrow)
        have HR := hid (bk_app (HR.out.far (p := ⟨w3.heap.size, 6, none⟩) (by show w.heap.size ≠ w3.heap.size; omega) (.slice pb pn pc)) HX.out (by decide) hgrow)
        have Bt := hid (own_below1 HX.out BX.out hgrow)
        have HO := hid hown'
        clear hgrow hown' hc6 hf6 hv0 HX BX HS OB
        have hv5 : w5.cell? ⟨w2.heap.size + 1 + 1, 0, none⟩ = some v := HB.out.cell 0
        have hf5 : w5.frozen? ⟨w2.heap.size + 1 + 1, 0, none⟩ = false := HB.out.free 0
        go_wp2_with fail
        go_roundw
        case rel => exact ⟨k + 1, by omega, by go_num, newR_step HB.out HO.out HP.out HQ.out HF.out HR.out Bt.out hw2⟩
        case measure => simp [intOf]; omega
      · have hv0 : w3.cell? ⟨w2.heap.size + 1 + 1, 0, none⟩ = some v := HB.out.cell 0
        have HX : Hid ((w3.alloc (.cells (obC k (.slice none 0 0)).toArray 43)).ownsRow w.heap.size 43 18 v k (obs vs k)) := hid (HO.out.alloc _)
        have BX : Hid (Below w.heap.size w (w3.alloc (.cells (obC k (.slice none 0 0)).toArray 43))) := hid (Bt.out.alloc Bt.out.size _)
        have HS : Hid (w3.heap.size + 1 = (w3.alloc (.cells (obC k (.slice none 0 0)).toArray 43)).heap.size) := hid (by simp)
        have HQ : Hid (OwnP w.heap.size (pl k) (.slice none 0 0) w3) := hid (by rw [pl_ge h24]; exact own_nil _ _)
        go_wp2_with (first | (refine wpList_store_new (by rfl) 43 (.tmp 5) (.tmp 12) (by rfl) (obC k (.slice none 0 0)).toArray 43 zeroObj (by rfl) (by rfl) (by kernel_rfl) (by rfl) (obC_arr rfl) ?_) | (refine wpList_load_row (by rfl) 43 (.tmp 5) (by rfl) w3.heap.size (by rfl) 43 #[.int .u8 (oK (k : Int)), .int .u8 (pK (k : Int)), .float .f64 0, .string ⟨#[]⟩, .int .i64 (pR (k : Int)), .bool true, (.slice none 0 0), .int .u8 0, .float .f64 0, .string ⟨#[]⟩, .int .i64 0, .int .u8 0, .float .f64 0, .string ⟨#[]⟩, .int .i64 0, .string ⟨#[]⟩, .bool (kd (k : Int) != 6), .bool (kd (k : Int) == 8)] (0, 0) _ ?hU Try.underlying43 (by rfl) (by kernel_rfl) ?_) | (at_builtin; refine wpList_append_own _ (by rfl) _ _ 36 (by rfl) w.heap.size 43 i0 _ 18 184 Try.underlying36 hi hz0 hz1 hz2 rfl (by decide) _ _ _ (by rfl) (HX.out.alloc _) ⟨w3.heap.size + 1, 0, none⟩ 1 1 (obC k (.slice none 0 0)) (by rfl) (by rfl) (cellsL_at _ (obC k (.slice none 0 0)) _ _ HS.out) (obC_one rfl) L3.out L4.out (Nat.le_trans BX.out.size (le_alloc _ _)) ?_))
        case hU => exact OB.out
        intro v' w5 hown' hgrow _
        obtain ⟨vb, vn, vc, rfl⟩ := own_form hown'
        have HP := hid (fun i hi => own_app ((HP.out i hi).alloc _) (HX.out.alloc _) (by decide) hgrow)
        have HQ := hid (own_app (HQ.out.alloc _) (HX.out.alloc _) (by decide) hgrow)
        have HB := hid (bk_app (HB.out.alloc _) HX.out (by decide) hgrow)
        have HF := hid (bk_app (HF.out.alloc _) HX.out (by decide) hgrow)
        have HR := hid (bk_app (HR.out.alloc _) HX.out (by decide) hgrow)
        have Bt := hid (own_below1 HX.out BX.out hgrow)
        have HO := hid hown'
        clear hgrow hown' hv0 HX BX HS OB
        have hv5 : w5.cell? ⟨w2.heap.size + 1 + 1, 0, none⟩ = some v := HB.out.cell 0
        have hf5 : w5.frozen? ⟨w2.heap.size + 1 + 1, 0, none⟩ = false := HB.out.free 0
        go_wp2_with fail
        go_roundw
        case rel => exact ⟨k + 1, by omega, by go_num, newR_step HB.out HO.out HP.out HQ.out HF.out HR.out Bt.out hw2⟩
        case measure => simp [intOf]; omega
    · obtain rfl : k = 72 := by omega
      obtain ⟨vb, vn, vc, rfl⟩ := own_form HO.out
      have hv0 : wr.cell? ⟨w2.heap.size + 1 + 1, 0, none⟩ = some (.slice vb vn vc) := HB.out.cell 0
      have hr0 : wr.cell? ⟨w.heap.size, 0, none⟩ = some (.slice none 0 0) := HR.out.cell 0
      have hrf : wr.frozen? ⟨w.heap.size, 0, none⟩ = false := HR.out.free 0
      go_wp2_with fail
      refine bodyPost_ret (v := .agg #[.slice vb vn vc]) (results_cell_row Try.results15 _ _ w.heap.size 38 #[.slice vb vn vc] (0, 0) _ rfl (HR.out.set 0 _) Try.underlying38 rfl (by kernel_rfl)) rfl ?_
      exact ⟨_, rfl, ⟨vs, own_set (p := ⟨w.heap.size, 0, none⟩) HO.out HR.out (by decide) _, fun i hi => own_set (p := ⟨w.heap.size, 0, none⟩) (HP.out i hi) HR.out (by decide) _⟩, Bt.out.setCell (p := ⟨w.heap.size, 0, none⟩) (Nat.le_refl _) _⟩

end Go.Proofs.Ytchpkopeblgifaa
