/-
  The walk of the properties of a first object, as the program makes them.
-/
import Derived.Test.YtchpkopeblgifaaPropWalk
namespace Go.Proofs.Ytchpkopeblgifaa
open Go.RowKit

theorem hidden_lit (nm s : ByteArray) (k r : Int) (fixed : Bool) (w : World) : Calls Try.prog 53 #[.string nm, val k 0 s r, .bool fixed] w fun e w' => e = .returned (.agg #[.string nm, .int .i64 0, .int .u8 51, .int .u8 (k), .float .f64 0, .string s, .int .i64 (r), .int .u8 0, .float .f64 0, .string ⟨#[]⟩, .int .i64 0, .int .u8 0, .float .f64 0, .string ⟨#[]⟩, .int .i64 0, .bool !fixed, .bool false, .bool !fixed]) ∧ Below w.heap.size w w' := hidden_any nm s k r fixed w

theorem vstr_any (s : ByteArray) (w : World) :
    Calls Try.prog 55 #[.string s] w fun e w' => e = .returned (val 4 0 s 0) ∧ Below w.heap.size w w' := by
  go_enter Try.func55, Try.ntmps55
  go_wp2
  exact bodyPost_ret (v := val 4 0 s 0) (by simp [results, Try.results55, go_sem]) rfl ⟨rfl, (Below.refl _ _).alloc (Nat.le_refl _) _⟩

theorem info_prop : (Try.prog.info? 49).map (fun i => (i.zero, i.size, i.bytes)) = some (some (.agg zeroProp), 18, 160) := by kernel_rfl

theorem cellsL_new (w : World) (l : List Value) (t : TypeId) : ∀ (j : Nat) (u : Value), l[j]? = some u → (w.alloc (.cells l.toArray t)).cell? ((⟨w.heap.size, 0, none⟩ : Addr).add j) = some u := by
  intro j u h
  rw [show (⟨w.heap.size, 0, none⟩ : Addr).add j = ⟨w.heap.size, j, none⟩ by simp [Addr.add]; omega, block_cell (alloc_at _ _)]
  simpa using h
theorem prC_ones (l : List PR) : ∀ u ∈ prC l, u.oneCell' = true := fun u hu => by
  obtain ⟨p, _, h⟩ := List.mem_flatMap.1 hu
  exact PR.cells_one p u h

/-- A value that is a slice of these properties, in memory of the call's own. -/
abbrev OwnP (B : Nat) (l : List PR) (v : Value) (w : World) : Prop := w.ownsRow B 49 18 v l.length (prC l)
theorem own_below1 {w wx w1 : World} {e : TypeId} {sz : Nat} {v : Value} {n : Nat} {xs : List Value} {o : Obj} (h : wx.ownsRow w.heap.size e sz v n xs) (hb : Below w.heap.size w wx) (hg : (wx.alloc o).grownBy w1 v.ownBlock) : Below w.heap.size w w1 :=
  (hb.alloc hb.size _).grown hg (by have := hb.size; simp; omega) (fun j hj => (h.lt j hj).1)
theorem le_alloc (w : World) (o : Obj) : w.heap.size ≤ (w.alloc o).heap.size := by simp
theorem own_more {B m : Nat} {l ps : List PR} {v : Value} {w : World} {xs : List Value} (h : w.ownsRow B 49 18 v (l.length + m) (prC l ++ xs)) (hx : prC ps = xs) (hm : ps.length = m) : OwnP B (l ++ ps) v w := by
  unfold OwnP
  rw [prC_append, List.length_append, hx, hm]; exact h
theorem own_nil (B : Nat) (w : World) : OwnP B [] (.slice none 0 0) w := ⟨rfl, Or.inl ⟨rfl, rfl⟩⟩

/-- What a step of the making leaves. -/
def Upto (w : World) (l : List PR) (v : Value) (wx : World) : Prop := OwnP w.heap.size l v wx ∧ Below w.heap.size w wx

theorem found_plN {s : ByteArray} {r : Int} (h : Found 24 s r) : r = plN s := by
  unfold plN
  rcases h with ⟨k, hk, rfl, hs⟩ | ⟨rfl, hs⟩
  · have hr : List.range 24 = List.range k ++ k :: (List.range (23 - k)).map (k + 1 + ·) := by
      have h24 : 24 = k + (1 + (23 - k)) := by omega
      conv => lhs; rw [h24, List.range_add, List.range_add]
      simp [Function.comp_def, Nat.add_assoc]
    have e : (List.range 24).find? (fun i => decide ((nm i).data = s.data)) = some k := by
      rw [List.find?_eq_some_iff_append]
      refine ⟨by simp [hs], List.range k, (List.range (23 - k)).map (k + 1 + ·), hr, ?_⟩
      intro a ha
      simp only [List.mem_range] at ha
      simp only [Bool.not_eq_true', decide_eq_false_iff_not]
      intro e
      have := nm_inj (by omega) (by omega) ((ByteArray.ext e).trans hs.symm)
      omega
    rw [e]
  · have e : (List.range 24).find? (fun i => decide ((nm i).data = s.data)) = none := by
      rw [List.find?_eq_none]
      intro x hx
      simp only [List.mem_range] at hx
      simp only [decide_eq_true_eq]
      intro e; exact hs x hx (ByteArray.ext e)
    rw [e]

theorem place_plN (s : ByteArray) (w : World) : Calls Try.prog 31 #[.string s] w fun e w' => e = .returned (.int .i64 (plN s)) ∧ Below w.heap.size w w' :=
  (place_any s w).mono fun _ _ ⟨r, he, hf, hb⟩ => ⟨by rw [he, found_plN hf], hb⟩

theorem tab_bs : ((List.range 24).all fun n => decide ((bsN n).size ≤ 100)) = true := by decide +kernel
theorem bsN_size (n : Nat) (hn : n < 24) : (bsN n).size ≤ 100 := by simpa using at24 tab_bs hn

def PropsQ (n : Nat) (w : World) (e : Ending) (w' : World) : Prop := ∃ v, e = .returned v ∧ OwnP w.heap.size (pl n) v w' ∧ Below w.heap.size w w'

theorem len_pr0 (n : Nat) : (pr0 n).length ≤ 2 := by unfold pr0; split <;> simp
theorem len_pr1 (n : Nat) : (pr1 n).length ≤ 2 := by unfold pr1; split <;> simp
theorem len_pr2 (n : Nat) : (pr2 n).length ≤ 2 := by unfold pr2; split <;> simp
theorem len_pr3 (n : Nat) : (pr3 n).length ≤ 2 := by unfold pr3; split <;> simp
theorem isEr_isMk {n : Nat} (h : isEr n = true) : isMk n = true := by unfold isEr at h; unfold isMk; simp at h ⊢; omega
set_option maxHeartbeats 16000000 in
set_option maxRecDepth 100000 in
theorem props_A (n : Nat) (hn : n < 24) (w : World) : Calls Try.prog 38 #[.string (nm n)] w (PropsQ n w) := by
  obtain ⟨i0, hi, hz0, hz1, hz2⟩ := info_parts info_prop
  have hs := at24 tab8 hn
  simp only [Bool.and_eq_true, decide_eq_true_eq] at hs
  have CS : Hid (∀ W, Calls Try.prog 52 #[.string (nm n), .string ⟨#[46, 112, 114, 111, 116, 111, 116, 121, 112, 101]⟩] W fun e w' => e = .returned (.tuple #[.string (bsN n), .bool (spN n)]) ∧ W = w') := hid (fun W => (Try.strings_CutSuffix (nm n) ⟨#[46, 112, 114, 111, 116, 111, 116, 121, 112, 101]⟩ W (by have := hs.1; simp at this; omega)).mono fun _ _ h => ⟨h.1, h.2.symm⟩)
  have HS : Hid (∀ W, Calls Try.prog 54 #[.string (bsN n), .string ⟨#[69, 114, 114, 111, 114]⟩] W fun e w' => e = .returned (.bool (Lib.hasSuffix (bsN n).data.toList wError.data.toList)) ∧ W = w') := hid (fun W => (Try.strings_HasSuffix (bsN n) ⟨#[69, 114, 114, 111, 114]⟩ W (by have := bsN_size n hn; omega)).mono fun _ _ h => ⟨h.1, h.2.symm⟩)
  have P1 := hid (fun W => place_plN (bsN n) W)
  have P2 := hid (fun W => place_plN (nm n ++ ⟨#[46, 112, 114, 111, 116, 111, 116, 121, 112, 101]⟩) W)
  have P3 := hid (fun W => place_plN (nm n) W)
  have t1 := at24 tab1 hn
  have t2 := at24 tab2 hn
  have t3 := at24 tab3 hn
  have t4 := at24 tab4 hn
  have t5 := at24 tab5 hn
  have t6 := at24 tab6 hn
  have t7 := at24 tab7 hn
  have t9 := at24 tab9 hn
  simp only [beq_iff_eq, Bool.or_eq_true, Bool.not_eq_true', decide_eq_true_eq] at t1 t2 t3 t4 t5 t6 t7 t9
  rw [t9] at P3 t5
  have t5 : (decide (0 ≤ plN (nm n ++ ⟨#[46, 112, 114, 111, 116, 111, 116, 121, 112, 101]⟩)) && decide (14 ≤ (n : Int))) = isPt n := t5
  have e4 : isMk n = true → bsN n = nm (mk n) := fun h => by
    rcases t4 with h4 | h4
    · rw [h] at h4; cases h4
    · exact ByteArray.ext h4
  have e2 : isMk n = true → plN (bsN n) = mk n := fun h => by
    rcases t2 with h4 | h4
    · rw [h] at h4; cases h4
    · exact h4
  have e6 : isPt n = true → plN (nm n ++ ⟨#[46, 112, 114, 111, 116, 111, 116, 121, 112, 101]⟩) = pt n := fun h => by
    rcases t6 with h4 | h4
    · rw [h] at h4; cases h4
    · exact h4
  have hsz : (nm n).size ≤ 100 := hs.1
  have T1 := hid t1
  have T3 := hid t3
  have T5 := hid t5
  have T7 := hid t7
  have E4 := hid e4
  have E2 := hid e2
  have E6 := hid e6
  clear t1 t2 t3 t4 t5 t6 t7 t9 e4 e2 e6 hs
  generalize hm : plN (bsN n) = m at *
  generalize hq : plN (nm n ++ ⟨#[46, 112, 114, 111, 116, 111, 116, 121, 112, 101]⟩) = q at *
  generalize hzz : Lib.hasSuffix (bsN n).data.toList wError.data.toList = z at *
  clear hm hq hzz
  obtain ⟨o, ho⟩ : ∃ o, isMk n = o := ⟨_, rfl⟩
  obtain ⟨er, he⟩ : ∃ o, isEr n = o := ⟨_, rfl⟩
  obtain ⟨p, hp⟩ : ∃ o, isPt n = o := ⟨_, rfl⟩
  obtain ⟨y, hy⟩ : ∃ o, isSy n = o := ⟨_, rfl⟩
  rw [ho] at T1 E2 E4 T3
  rw [he] at T3
  rw [hp] at T5 E6
  rw [hy] at T7
  have HO := hid ho
  have HE := hid he
  have HP := hid hp
  have HY := hid hy
  clear ho he hp hy
  generalize spN n = sp at *
  generalize bsN n = bs at *
  obtain ⟨l0, hl⟩ : ∃ l : List PR, [] = l := ⟨_, rfl⟩
  have Ho : Hid (OwnP w.heap.size l0 (.slice none 0 0) w) := hid (by rw [← hl]; exact own_nil w.heap.size w)
  have HL : Hid (l0.length ≤ 0) := hid (by rw [← hl]; simp)
  have EL0 := hid hl
  clear hl
  have Bt := hid (Below.refl w.heap.size w)
  go_enter Try.func38, Try.ntmps38
  go_upto_region 4 with (first | (go_at_call 52; refine (CS.out _).mono ?_; rintro e wn ⟨rfl, rfl⟩) | (go_at_call 31; first | ((with_reducible refine (P1.out _).mono ?_); rintro e wn ⟨rfl, hb⟩; have Bt := hid (grow Bt.out hb); have Ho := hid (own_below Ho.out hb); clear hb)))
  go_cut [3, 7] from 12 to 900 (fun s3 s7 wx => s7 = .bool o ∧ OwnP w.heap.size l0 s3 wx ∧ Below w.heap.size w wx)
  case first => as_aux_lemma =>
    have t1 := T1.out
    clear T1 CS
    cases sp
    · obtain rfl : o = false := by simpa using t1.symm
      clear t1
      go_wp2_with fail
      go_meet
      case rel => exact ⟨rfl, Ho.out, Bt.out⟩
    · by_cases h14 : 14 ≤ m
      · obtain rfl : o = true := by simpa [h14] using t1.symm
        clear t1
        go_wp2_with fail
        go_meet
        case rel => exact ⟨rfl, Ho.out, Bt.out⟩
      · obtain rfl : o = false := by simpa [h14] using t1.symm
        clear t1
        go_wp2_with fail
        go_meet
        case rel => exact ⟨rfl, Ho.out, Bt.out⟩
  case rest =>
  obtain ⟨rfl, ho, hb⟩ := hcut
  have Ho := hid ho
  have Bt := hid hb
  clear ho hb T1 CS P1
  go_upto_if 24 with fail
  go_cut [3] from 12 to 900 (fun s3 wx => OwnP w.heap.size (l0 ++ pr0 n) s3 wx ∧ Below w.heap.size w wx)
  case first =>
    cases o
    · have e : pr0 n = [] := by unfold pr0; rw [HO.out]; rfl
      have E := hid e
      clear e
      go_wp2_with fail
      go_meet
      case rel => exact ⟨by rw [E.out, List.append_nil]; exact Ho.out, Bt.out⟩
    · have hb1 := HO.out
      have e : pr0 n = [⟨wConstructor, kd (mk n), ⟨#[]⟩, mk n, true⟩] := by unfold pr0; rw [hb1]; rfl
      have E := hid e
      clear e
      obtain rfl := E2.out rfl
      clear hb1
      have L3 : Hid (List.length (l0) + 1 ≤ maxLen) := hid (by have := HL.out; unfold maxLen; omega)
      have L4 : Hid ((List.length (l0) + 1) * 160 ≤ 140737488355328) := hid (by have := HL.out; omega)
      go_wp2_with (first | (go_at_call 30; refine (object_any _ _).mono ?_; rintro e wn ⟨rfl, hb⟩; have Bt := hid (grow Bt.out hb); have Ho := hid (own_below Ho.out hb); clear hb) | (go_at_call 53; refine (hidden_lit _ _ _ _ _ _).mono ?_; rintro e wn ⟨rfl, hb⟩; have Bt := hid (grow Bt.out hb); have Ho := hid (own_below Ho.out hb); clear hb) | (at_builtin; refine wpList_append_own _ rfl _ _ 41 rfl w.heap.size 49 i0 _ 18 160 Try.underlying41 hi hz0 hz1 hz2 rfl (by decide) _ _ _ rfl (Ho.out.alloc _) ⟨wn.heap.size, 0, none⟩ 1 1 (prC [⟨wConstructor, kd (mk n), ⟨#[]⟩, mk n, true⟩]) rfl rfl (cellsL_new _ (prC [⟨wConstructor, kd (mk n), ⟨#[]⟩, mk n, true⟩]) _) (prC_ones [⟨wConstructor, kd (mk n), ⟨#[]⟩, mk n, true⟩]) (L3.out) (L4.out) (Nat.le_trans Bt.out.size (le_alloc _ _)) ?_))
      intro v' w1 hown' hgrow _
      have Bt := hid (own_below1 Ho.out Bt.out hgrow)
      have Ho := hid (own_more (ps := [⟨wConstructor, kd (mk n), ⟨#[]⟩, mk n, true⟩]) hown' rfl rfl)
      clear hown' hgrow
      go_wp2_with fail
      go_meet
      case rel => exact ⟨by rw [E.out]; exact Ho.out, Bt.out⟩
  case rest =>
  obtain ⟨ho, hb⟩ := hcut
  obtain ⟨l1, hl⟩ : ∃ l, l0 ++ pr0 n = l := ⟨_, rfl⟩
  rw [hl] at ho
  have EL1 := hid hl
  have HL : Hid (l1.length ≤ 2) := hid (by have h2 := HL.out; have h3 := len_pr0 n; rw [← hl]; simp; omega)
  have Ho := hid ho
  have Bt := hid hb
  clear ho hb hl
  clear E2
  go_upto_region 7 with fail
  go_cut [35] from 12 to 900 (fun s35 wx => s35 = .bool er ∧ OwnP w.heap.size l1 u3 wx ∧ Below w.heap.size w wx)
  case first => as_aux_lemma =>
    have t3 := T3.out
    clear T3
    cases o
    · obtain rfl : er = false := by simpa using t3.symm
      clear t3
      go_wp2_with fail
      go_meet
      case rel => exact ⟨rfl, Ho.out, Bt.out⟩
    · obtain rfl : er = z := by simpa using t3.symm
      clear t3
      go_wp2_with (first | (go_at_call 54; refine (HS.out _).mono ?_; rintro e wn ⟨rfl, rfl⟩))
      go_meet
      case rel => exact ⟨rfl, Ho.out, Bt.out⟩
  case rest =>
  obtain ⟨rfl, ho, hb⟩ := hcut
  have Ho := hid ho
  have Bt := hid hb
  clear ho hb T3 HS
  go_upto_if 35 with fail
  go_cut [3] from 12 to 900 (fun s3 wx => OwnP w.heap.size (l1 ++ pr1 n) s3 wx ∧ Below w.heap.size w wx)
  case first =>
    cases er
    · have e : pr1 n = [] := by unfold pr1; rw [HE.out]; rfl
      have E := hid e
      clear e
      go_wp2_with fail
      go_meet
      case rel => exact ⟨by rw [E.out, List.append_nil]; exact Ho.out, Bt.out⟩
    · have hb1 := HE.out
      have e : pr1 n = [⟨wName, 4, (nm (mk n)), 0, true⟩, ⟨wMessage, 4, ⟨#[]⟩, 0, true⟩] := by unfold pr1; rw [hb1]; rfl
      have E := hid e
      clear e
      obtain rfl := E4.out (HO.out.symm.trans (isEr_isMk hb1))
      clear hb1
      have L3 : Hid (List.length (l1) + 2 ≤ maxLen) := hid (by have := HL.out; unfold maxLen; omega)
      have L4 : Hid ((List.length (l1) + 2) * 160 ≤ 140737488355328) := hid (by have := HL.out; omega)
      go_wp2_with (first | (go_at_call 55; refine (vstr_any _ _).mono ?_; rintro e wn ⟨rfl, hb⟩; have Bt := hid (grow Bt.out hb); have Ho := hid (own_below Ho.out hb); clear hb) | (go_at_call 53; refine (hidden_lit _ _ _ _ _ _).mono ?_; rintro e wn ⟨rfl, hb⟩; have Bt := hid (grow Bt.out hb); have Ho := hid (own_below Ho.out hb); clear hb) | (at_builtin; refine wpList_append_own _ rfl _ _ 41 rfl w.heap.size 49 i0 _ 18 160 Try.underlying41 hi hz0 hz1 hz2 rfl (by decide) _ _ _ rfl (Ho.out.alloc _) ⟨wn.heap.size, 0, none⟩ 2 2 (prC [⟨wName, 4, (nm (mk n)), 0, true⟩, ⟨wMessage, 4, ⟨#[]⟩, 0, true⟩]) rfl rfl (cellsL_new _ (prC [⟨wName, 4, (nm (mk n)), 0, true⟩, ⟨wMessage, 4, ⟨#[]⟩, 0, true⟩]) _) (prC_ones [⟨wName, 4, (nm (mk n)), 0, true⟩, ⟨wMessage, 4, ⟨#[]⟩, 0, true⟩]) (L3.out) (L4.out) (Nat.le_trans Bt.out.size (le_alloc _ _)) ?_))
      intro v' w1 hown' hgrow _
      have Bt := hid (own_below1 Ho.out Bt.out hgrow)
      have Ho := hid (own_more (ps := [⟨wName, 4, (nm (mk n)), 0, true⟩, ⟨wMessage, 4, ⟨#[]⟩, 0, true⟩]) hown' rfl rfl)
      clear hown' hgrow
      go_wp2_with fail
      go_meet
      case rel => exact ⟨by rw [E.out]; exact Ho.out, Bt.out⟩
  case rest =>
  obtain ⟨ho, hb⟩ := hcut
  obtain ⟨l2, hl⟩ : ∃ l, l1 ++ pr1 n = l := ⟨_, rfl⟩
  rw [hl] at ho
  have EL2 := hid hl
  have HL : Hid (l2.length ≤ 4) := hid (by have h2 := HL.out; have h3 := len_pr1 n; rw [← hl]; simp; omega)
  have Ho := hid ho
  have Bt := hid hb
  clear ho hb hl
  clear E4
  go_upto_region 10 with (first | (go_at_call 31; first | ((with_reducible refine (P2.out _).mono ?_); rintro e wn ⟨rfl, hb⟩; have Bt := hid (grow Bt.out hb); have Ho := hid (own_below Ho.out hb); clear hb)))
  go_cut [53] from 12 to 900 (fun s53 wx => s53 = .bool p ∧ OwnP w.heap.size l2 u3 wx ∧ Below w.heap.size w wx)
  case first => as_aux_lemma =>
    have t5 := T5.out
    clear T5
    by_cases h0 : 0 ≤ q
    · by_cases h14 : (14 : Int) ≤ n
      · obtain rfl : p = true := by simpa [h0, h14] using t5.symm
        clear t5
        go_wp2_with (first | (go_at_call 31; first | ((with_reducible refine (P3.out _).mono ?_); rintro e wn ⟨rfl, hb⟩; have Bt := hid (grow Bt.out hb); have Ho := hid (own_below Ho.out hb); clear hb)))
        go_meet
        case rel => exact ⟨rfl, Ho.out, Bt.out⟩
      · obtain rfl : p = false := by simpa [h0, h14] using t5.symm
        clear t5
        go_wp2_with (first | (go_at_call 31; first | ((with_reducible refine (P3.out _).mono ?_); rintro e wn ⟨rfl, hb⟩; have Bt := hid (grow Bt.out hb); have Ho := hid (own_below Ho.out hb); clear hb)))
        go_meet
        case rel => exact ⟨by first | rfl | exact congrArg Value.bool (by rw [decide_eq_false_iff_not]; omega), Ho.out, Bt.out⟩
    · obtain rfl : p = false := by simpa [h0] using t5.symm
      clear t5
      go_wp2_with fail
      go_meet
      case rel => exact ⟨rfl, Ho.out, Bt.out⟩
  case rest =>
  obtain ⟨rfl, ho, hb⟩ := hcut
  have Ho := hid ho
  have Bt := hid hb
  clear ho hb T5 P2 P3
  go_upto_if 53 with fail
  go_cut [3] from 12 to 900 (fun s3 wx => OwnP w.heap.size (l2 ++ pr2 n) s3 wx ∧ Below w.heap.size w wx)
  case first =>
    cases p
    · have e : pr2 n = [] := by unfold pr2; rw [HP.out]; rfl
      have E := hid e
      clear e
      go_wp2_with fail
      go_meet
      case rel => exact ⟨by rw [E.out, List.append_nil]; exact Ho.out, Bt.out⟩
    · have hb1 := HP.out
      have e : pr2 n = [⟨wPrototype, kd (pt n), ⟨#[]⟩, pt n, false⟩] := by unfold pr2; rw [hb1]; rfl
      have E := hid e
      clear e
      obtain rfl := E6.out rfl
      clear hb1
      have L3 : Hid (List.length (l2) + 1 ≤ maxLen) := hid (by have := HL.out; unfold maxLen; omega)
      have L4 : Hid ((List.length (l2) + 1) * 160 ≤ 140737488355328) := hid (by have := HL.out; omega)
      go_wp2_with (first | (go_at_call 30; refine (object_any _ _).mono ?_; rintro e wn ⟨rfl, hb⟩; have Bt := hid (grow Bt.out hb); have Ho := hid (own_below Ho.out hb); clear hb) | (go_at_call 53; refine (hidden_lit _ _ _ _ _ _).mono ?_; rintro e wn ⟨rfl, hb⟩; have Bt := hid (grow Bt.out hb); have Ho := hid (own_below Ho.out hb); clear hb) | (at_builtin; refine wpList_append_own _ rfl _ _ 41 rfl w.heap.size 49 i0 _ 18 160 Try.underlying41 hi hz0 hz1 hz2 rfl (by decide) _ _ _ rfl (Ho.out.alloc _) ⟨wn.heap.size, 0, none⟩ 1 1 (prC [⟨wPrototype, kd (pt n), ⟨#[]⟩, pt n, false⟩]) rfl rfl (cellsL_new _ (prC [⟨wPrototype, kd (pt n), ⟨#[]⟩, pt n, false⟩]) _) (prC_ones [⟨wPrototype, kd (pt n), ⟨#[]⟩, pt n, false⟩]) (L3.out) (L4.out) (Nat.le_trans Bt.out.size (le_alloc _ _)) ?_))
      intro v' w1 hown' hgrow _
      have Bt := hid (own_below1 Ho.out Bt.out hgrow)
      have Ho := hid (own_more (ps := [⟨wPrototype, kd (pt n), ⟨#[]⟩, pt n, false⟩]) hown' rfl rfl)
      clear hown' hgrow
      go_wp2_with fail
      go_meet
      case rel => exact ⟨by rw [E.out]; exact Ho.out, Bt.out⟩
  case rest =>
  obtain ⟨ho, hb⟩ := hcut
  obtain ⟨l3, hl⟩ : ∃ l, l2 ++ pr2 n = l := ⟨_, rfl⟩
  rw [hl] at ho
  have EL3 := hid hl
  have HL : Hid (l3.length ≤ 6) := hid (by have h2 := HL.out; have h3 := len_pr2 n; rw [← hl]; simp; omega)
  have Ho := hid ho
  have Bt := hid hb
  clear ho hb hl
  clear E6
  have t7 : ((nm n).toList == [83, 121, 109, 98, 111, 108]) = y := by
    rw [← T7.out, ByteArray.toList_eq, Bool.eq_iff_iff, beq_iff_eq, beq_iff_eq]
    exact Array.toList_inj (ys := wSymbol.data)
  clear T7
  go_upto_if 61 with fail
  go_cut [3] from 12 to 900 (fun s3 wx => OwnP w.heap.size (l3 ++ pr3 n) s3 wx ∧ Below w.heap.size w wx)
  case first =>
    cases y
    · have e : pr3 n = [] := by unfold pr3; rw [HY.out]; rfl
      have E := hid e
      clear e
      go_wp2_with fail
      go_meet
      case rel => exact ⟨by rw [E.out, List.append_nil]; exact Ho.out, Bt.out⟩
    · have hb1 := HY.out
      have e : pr3 n = [⟨wPrimitive, 5, ⟨#[]⟩, 0, false⟩] := by unfold pr3; rw [hb1]; rfl
      have E := hid e
      clear e
      skip
      clear hb1
      have L3 : Hid (List.length (l3) + 1 ≤ maxLen) := hid (by have := HL.out; unfold maxLen; omega)
      have L4 : Hid ((List.length (l3) + 1) * 160 ≤ 140737488355328) := hid (by have := HL.out; omega)
      go_wp2_with (first | (go_at_call 53; refine (hidden_lit _ _ _ _ _ _).mono ?_; rintro e wn ⟨rfl, hb⟩; have Bt := hid (grow Bt.out hb); have Ho := hid (own_below Ho.out hb); clear hb) | (at_builtin; refine wpList_append_own _ rfl _ _ 41 rfl w.heap.size 49 i0 _ 18 160 Try.underlying41 hi hz0 hz1 hz2 rfl (by decide) _ _ _ rfl (Ho.out.alloc _) ⟨wn.heap.size, 0, none⟩ 1 1 (prC [⟨wPrimitive, 5, ⟨#[]⟩, 0, false⟩]) rfl rfl (cellsL_new _ (prC [⟨wPrimitive, 5, ⟨#[]⟩, 0, false⟩]) _) (prC_ones [⟨wPrimitive, 5, ⟨#[]⟩, 0, false⟩]) (L3.out) (L4.out) (Nat.le_trans Bt.out.size (le_alloc _ _)) ?_))
      intro v' w1 hown' hgrow _
      have Bt := hid (own_below1 Ho.out Bt.out hgrow)
      have Ho := hid (own_more (ps := [⟨wPrimitive, 5, ⟨#[]⟩, 0, false⟩]) hown' rfl rfl)
      clear hown' hgrow
      go_wp2_with fail
      go_meet
      case rel => exact ⟨by rw [E.out]; exact Ho.out, Bt.out⟩
  case rest =>
  obtain ⟨ho, hb⟩ := hcut
  obtain ⟨l4, hl⟩ : ∃ l, l3 ++ pr3 n = l := ⟨_, rfl⟩
  rw [hl] at ho
  have EL4 := hid hl
  have HL : Hid (l4.length ≤ 8) := hid (by have h2 := HL.out; have h3 := len_pr3 n; rw [← hl]; simp; omega)
  have Ho := hid ho
  have Bt := hid hb
  clear ho hb hl
  clear t7 HO HE HP HY
  have EL : Hid (l4 = pr n) := hid (by rw [← EL4.out, ← EL3.out, ← EL2.out, ← EL1.out, ← EL0.out]; rfl)
  clear EL0 EL1 EL2 EL3 EL4
  go_wp2_with (first | (go_at_call 25; refine (funcs_any _).mono ?_; rintro e wf ⟨rfl, hb⟩; have Bt := hid (grow Bt.out hb); have Ho := hid (own_below Ho.out hb); clear hb) | (refine wpList_store_new rfl _ _ _ rfl funcsA _ _ rfl rfl (by kernel_rfl) (by rfl) (by kernel_rfl) ?_))
  have BB := hid (Bk.new wf 61 funcsA)
  go_loopw [3, 68] (fun v i wr => ∃ k : Nat, k ≤ 48 ∧ i = .int .i64 k ∧ OwnP w.heap.size (l4 ++ fns n k) v wr ∧ Bk wr wf.heap.size 61 funcsA ∧ Below w.heap.size w wr) (fun _ i _ => 48 - (intOf i).toNat)
  case atStart => exact ⟨0, by omega, rfl, by rw [show fns n 0 = [] from rfl, List.append_nil]; exact Ho.out.alloc _, BB.out, Bt.out.alloc Bt.out.size _⟩
  case round =>
    clear Ho Bt BB
    obtain ⟨k, hk, rfl, ho, hbk, hb⟩ := hrel
    have Ho := hid ho
    have BB := hid hbk
    have Bt := hid hb
    clear ho hbk hb
    by_cases hlt : k < 48
    · have hcell : wr.cell? ⟨wf.heap.size, k, none⟩ = some (.string (nm (24 + k))) := (BB.out.cell k).trans (funcsA_get k hlt)
      have h10 := at24 tab10 hlt
      simp only [Bool.and_eq_true, decide_eq_true_eq] at h10
      have LI : Hid (∀ W, Calls Try.prog 56 #[.string (nm (24 + k)), .int .u8 46] W fun e w' => e = .returned (.int .i64 (ldN k : Int)) ∧ W = w') := hid (fun W => (Try.strings_LastIndexByte (nm (24 + k)) 46 (by omega) W).mono fun _ _ h => ⟨by rw [h.1, h10.1.1], h.2.symm⟩)
      have hl1 : ldN k + 1 ≤ (nm (24 + k)).size := h10.1.2
      have hl2 : (nm (24 + k)).size ≤ 100 := h10.2
      clear h10
      have HL2 : Hid ((l4 ++ fns n k).length ≤ 60) := hid (by have h2 := HL.out; have h3 := fns_length n k; simp; omega)
      have L3 : Hid ((l4 ++ fns n k).length + 1 ≤ maxLen) := hid (by have := HL2.out; unfold maxLen; omega)
      have L4 : Hid (((l4 ++ fns n k).length + 1) * 160 ≤ 140737488355328) := hid (by have := HL2.out; omega)
      by_cases he : ow k = nm n
      · have hb : (((nm (24 + k)).extract 0 (ldN k)).toList == (nm n).toList) = true := by
          rw [show (nm (24 + k)).extract 0 (ldN k) = nm n from he]; simp
        have HE : Hid (fns n (k + 1) = fns n k ++ [⟨wd k, kd (24 + (k : Int)), ⟨#[]⟩, 24 + (k : Int), true⟩]) := hid (by show fns n k ++ fnP n k = _; unfold fnP; rw [if_pos he])
        clear he
        have hw1 : IntKind.i64.wrap ((ldN k : Int) + 1) = (ldN k : Int) + 1 := IntWalk.i64_in _ (by omega)
        have hw2 : (0 : Int) ≤ (ldN k : Int) + 1 := by omega
        have hw3 : ((ldN k : Int) + 1).toNat = ldN k + 1 := by omega
        have hw5 : (ldN k : Int) + 1 ≤ ((nm (24 + k)).size : Int) := by omega
        have hw4 : IntKind.i64.wrap (24 + (k : Int)) = 24 + (k : Int) := IntWalk.i64_in _ (by omega)
        go_upto_region 20 with (first | (go_at_call 56; refine (LI.out _).mono ?_; rintro e wn ⟨rfl, rfl⟩))
        refine wp_region_noPanic ?_
        refine wp_region_held_drew (S := (fun w' => w'.cell? ⟨wf.heap.size, k, none⟩ = some (.string (nm (24 + k))))) (by kernel_rfl) ?_ (fun hHeld => ?_)
        · first | exact hcell | exact ((BB.out.alloc _).cell k).trans (funcsA_get k hlt)
        first | (refine wpAnyH_take (i := 0) (v := undef) (by simp only [List.getElem?_toArray, List.getElem?_cons_zero]; exact rfl) (by kernel_rfl) (by kernel_rfl) (by kernel_rfl) (fun _ _ _ h => h) (Or.inr ⟨?_, rfl⟩) (by assumption) ?_; (rfl); try simp only [Act.put, List.setIfInBounds_toArray, List.set_cons_zero, List.set_cons_succ]) | (refine wpAnyH_take (i := 0) (v := ?_) (by simp only [List.getElem?_toArray, List.getElem?_cons_zero]; exact rfl) (by kernel_rfl) (by kernel_rfl) (by kernel_rfl) (fun _ _ _ h => h) (Or.inl ⟨?_, ?_⟩) (by assumption) ?_; rotate_left; (rfl); (focus (intro w hSw; (try dsimp only at hSw); go_simp; try with_reducible rfl)); try simp only [Act.put, List.setIfInBounds_toArray, List.set_cons_zero, List.set_cons_succ])
        first | (refine wpAnyH_take (i := 1) (v := undef) (by simp only [List.getElem?_toArray, List.getElem?_cons_succ, List.getElem?_cons_zero]; exact rfl) (by kernel_rfl) (by kernel_rfl) (by kernel_rfl) (fun _ _ _ h => h) (Or.inr ⟨?_, rfl⟩) (by assumption) ?_; (rfl); try simp only [Act.put, List.setIfInBounds_toArray, List.set_cons_zero, List.set_cons_succ]) | (refine wpAnyH_take (i := 1) (v := ?_) (by simp only [List.getElem?_toArray, List.getElem?_cons_succ, List.getElem?_cons_zero]; exact rfl) (by kernel_rfl) (by kernel_rfl) (by kernel_rfl) (fun _ _ _ h => h) (Or.inl ⟨?_, ?_⟩) (by assumption) ?_; rotate_left; (rfl); (focus (intro w hSw; (try dsimp only at hSw); go_simp; try with_reducible rfl)); try simp only [Act.put, List.setIfInBounds_toArray, List.set_cons_zero, List.set_cons_succ])
        first | (refine wpAnyH_take (i := 2) (v := undef) (by simp only [List.getElem?_toArray, List.getElem?_cons_succ, List.getElem?_cons_zero]; exact rfl) (by kernel_rfl) (by kernel_rfl) (by kernel_rfl) (fun _ _ _ h => h) (Or.inr ⟨?_, rfl⟩) (by assumption) ?_; (rfl); try simp only [Act.put, List.setIfInBounds_toArray, List.set_cons_zero, List.set_cons_succ]) | (refine wpAnyH_take (i := 2) (v := ?_) (by simp only [List.getElem?_toArray, List.getElem?_cons_succ, List.getElem?_cons_zero]; exact rfl) (by kernel_rfl) (by kernel_rfl) (by kernel_rfl) (fun _ _ _ h => h) (Or.inl ⟨?_, ?_⟩) (by assumption) ?_; rotate_left; (rfl); (focus (intro w hSw; (try dsimp only at hSw); go_simp; try with_reducible rfl)); try simp only [Act.put, List.setIfInBounds_toArray, List.set_cons_zero, List.set_cons_succ])
        first | (refine wpAnyH_take (i := 3) (v := undef) (by simp only [List.getElem?_toArray, List.getElem?_cons_succ, List.getElem?_cons_zero]; exact rfl) (by kernel_rfl) (by kernel_rfl) (by kernel_rfl) (fun _ _ _ h => h) (Or.inr ⟨?_, rfl⟩) (by assumption) ?_; (rfl); try simp only [Act.put, List.setIfInBounds_toArray, List.set_cons_zero, List.set_cons_succ]) | (refine wpAnyH_take (i := 3) (v := ?_) (by simp only [List.getElem?_toArray, List.getElem?_cons_succ, List.getElem?_cons_zero]; exact rfl) (by kernel_rfl) (by kernel_rfl) (by kernel_rfl) (fun _ _ _ h => h) (Or.inl ⟨?_, ?_⟩) (by assumption) ?_; rotate_left; (rfl); (focus (intro w hSw; (try dsimp only at hSw); go_simp; try with_reducible rfl)); try simp only [Act.put, List.setIfInBounds_toArray, List.set_cons_zero, List.set_cons_succ])
        first | (refine wpAnyH_take (i := 4) (v := undef) (by simp only [List.getElem?_toArray, List.getElem?_cons_succ, List.getElem?_cons_zero]; exact rfl) (by kernel_rfl) (by kernel_rfl) (by kernel_rfl) (fun _ _ _ h => h) (Or.inr ⟨?_, rfl⟩) (by assumption) ?_; (rfl); try simp only [Act.put, List.setIfInBounds_toArray, List.set_cons_zero, List.set_cons_succ]) | (refine wpAnyH_take (i := 4) (v := ?_) (by simp only [List.getElem?_toArray, List.getElem?_cons_succ, List.getElem?_cons_zero]; exact rfl) (by kernel_rfl) (by kernel_rfl) (by kernel_rfl) (fun _ _ _ h => h) (Or.inl ⟨?_, ?_⟩) (by assumption) ?_; rotate_left; (rfl); (focus (intro w hSw; (try dsimp only at hSw); go_simp; try with_reducible rfl)); try simp only [Act.put, List.setIfInBounds_toArray, List.set_cons_zero, List.set_cons_succ])
        first | (refine wpAnyH_take (i := 5) (v := undef) (by simp only [List.getElem?_toArray, List.getElem?_cons_succ, List.getElem?_cons_zero]; exact rfl) (by kernel_rfl) (by kernel_rfl) (by kernel_rfl) (fun _ _ _ h => h) (Or.inr ⟨?_, rfl⟩) (by assumption) ?_; (rfl); try simp only [Act.put, List.setIfInBounds_toArray, List.set_cons_zero, List.set_cons_succ]) | (refine wpAnyH_take (i := 5) (v := ?_) (by simp only [List.getElem?_toArray, List.getElem?_cons_succ, List.getElem?_cons_zero]; exact rfl) (by kernel_rfl) (by kernel_rfl) (by kernel_rfl) (fun _ _ _ h => h) (Or.inl ⟨?_, ?_⟩) (by assumption) ?_; rotate_left; (rfl); (focus (intro w hSw; (try dsimp only at hSw); go_simp; try with_reducible rfl)); try simp only [Act.put, List.setIfInBounds_toArray, List.set_cons_zero, List.set_cons_succ])
        first | (refine wpAnyH_take (i := 6) (v := undef) (by simp only [List.getElem?_toArray, List.getElem?_cons_succ, List.getElem?_cons_zero]; exact rfl) (by kernel_rfl) (by kernel_rfl) (by kernel_rfl) (fun _ _ _ h => h) (Or.inr ⟨?_, rfl⟩) (by assumption) ?_; (rfl); try simp only [Act.put, List.setIfInBounds_toArray, List.set_cons_zero, List.set_cons_succ]) | (refine wpAnyH_take (i := 6) (v := ?_) (by simp only [List.getElem?_toArray, List.getElem?_cons_succ, List.getElem?_cons_zero]; exact rfl) (by kernel_rfl) (by kernel_rfl) (by kernel_rfl) (fun _ _ _ h => h) (Or.inl ⟨?_, ?_⟩) (by assumption) ?_; rotate_left; (rfl); (focus (intro w hSw; (try dsimp only at hSw); go_simp; try with_reducible rfl)); try simp only [Act.put, List.setIfInBounds_toArray, List.set_cons_zero, List.set_cons_succ])
        first | (refine wpAnyH_take (i := 7) (v := undef) (by simp only [List.getElem?_toArray, List.getElem?_cons_succ, List.getElem?_cons_zero]; exact rfl) (by kernel_rfl) (by kernel_rfl) (by kernel_rfl) (fun _ _ _ h => h) (Or.inr ⟨?_, rfl⟩) (by assumption) ?_; (rfl); try simp only [Act.put, List.setIfInBounds_toArray, List.set_cons_zero, List.set_cons_succ]) | (refine wpAnyH_take (i := 7) (v := ?_) (by simp only [List.getElem?_toArray, List.getElem?_cons_succ, List.getElem?_cons_zero]; exact rfl) (by kernel_rfl) (by kernel_rfl) (by kernel_rfl) (fun _ _ _ h => h) (Or.inl ⟨?_, ?_⟩) (by assumption) ?_; rotate_left; (rfl); (focus (intro w hSw; (try dsimp only at hSw); go_simp; try with_reducible rfl)); try simp only [Act.put, List.setIfInBounds_toArray, List.set_cons_zero, List.set_cons_succ])
        first | (refine wpAnyH_take (i := 8) (v := undef) (by simp only [List.getElem?_toArray, List.getElem?_cons_succ, List.getElem?_cons_zero]; exact rfl) (by kernel_rfl) (by kernel_rfl) (by kernel_rfl) (fun _ _ _ h => h) (Or.inr ⟨?_, rfl⟩) (by assumption) ?_; (rfl); try simp only [Act.put, List.setIfInBounds_toArray, List.set_cons_zero, List.set_cons_succ]) | (refine wpAnyH_take (i := 8) (v := ?_) (by simp only [List.getElem?_toArray, List.getElem?_cons_succ, List.getElem?_cons_zero]; exact rfl) (by kernel_rfl) (by kernel_rfl) (by kernel_rfl) (fun _ _ _ h => h) (Or.inl ⟨?_, ?_⟩) (by assumption) ?_; rotate_left; (rfl); (focus (intro w hSw; (try dsimp only at hSw); go_simp; try with_reducible rfl)); try simp only [Act.put, List.setIfInBounds_toArray, List.set_cons_zero, List.set_cons_succ])
        first | (refine wpAnyH_take (i := 9) (v := undef) (by simp only [List.getElem?_toArray, List.getElem?_cons_succ, List.getElem?_cons_zero]; exact rfl) (by kernel_rfl) (by kernel_rfl) (by kernel_rfl) (fun _ _ _ h => h) (Or.inr ⟨?_, rfl⟩) (by assumption) ?_; (rfl); try simp only [Act.put, List.setIfInBounds_toArray, List.set_cons_zero, List.set_cons_succ]) | (refine wpAnyH_ready (rs := [9]) (by kernel_rfl) (by simp) ?_; refine AllReadyH.cons rfl (fun K hK => ?_) AllReadyH.nil; go_simp; (first | (go_at_call 30; refine (object_any _ _).mono ?_; rintro e wn ⟨rfl, hb⟩; have Bt := hid (by first | exact grow Bt.out hb | exact grow Bt.out.drew hb); have Ho := hid (by first | exact own_below Ho.out hb | exact own_below (w := World.drew _) Ho.out hb); have BB := hid (by first | exact BB.out.on hb | exact BB.out.drew.on hb); clear hb; have hcell := (BB.out.cell k).trans (funcsA_get k hlt)) | (go_at_call 53; refine (hidden_lit _ _ _ _ _ _).mono ?_; rintro e wn ⟨rfl, hb⟩; have Bt := hid (by first | exact grow Bt.out hb | exact grow Bt.out.drew hb); have Ho := hid (by first | exact own_below Ho.out hb | exact own_below (w := World.drew _) Ho.out hb); have BB := hid (by first | exact BB.out.on hb | exact BB.out.drew.on hb); clear hb; have hcell := (BB.out.cell k).trans (funcsA_get k hlt))); (refine hK.out _ _ ?_ (fun hHeld => ?_); (first | exact hcell | exact ((BB.out.alloc _).cell k).trans (funcsA_get k hlt))); clear hK K; try simp only [Act.put, List.setIfInBounds_toArray, List.set_cons_zero, List.set_cons_succ])
        first | (refine wpAnyH_take (i := 10) (v := undef) (by simp only [List.getElem?_toArray, List.getElem?_cons_succ, List.getElem?_cons_zero]; exact rfl) (by kernel_rfl) (by kernel_rfl) (by kernel_rfl) (fun _ _ _ h => h) (Or.inr ⟨?_, rfl⟩) (by assumption) ?_; (rfl); try simp only [Act.put, List.setIfInBounds_toArray, List.set_cons_zero, List.set_cons_succ]) | (refine wpAnyH_ready (rs := [10]) (by kernel_rfl) (by simp) ?_; refine AllReadyH.cons rfl (fun K hK => ?_) AllReadyH.nil; go_simp; (first | (go_at_call 30; refine (object_any _ _).mono ?_; rintro e wn ⟨rfl, hb⟩; have Bt := hid (by first | exact grow Bt.out hb | exact grow Bt.out.drew hb); have Ho := hid (by first | exact own_below Ho.out hb | exact own_below (w := World.drew _) Ho.out hb); have BB := hid (by first | exact BB.out.on hb | exact BB.out.drew.on hb); clear hb; have hcell := (BB.out.cell k).trans (funcsA_get k hlt)) | (go_at_call 53; refine (hidden_lit _ _ _ _ _ _).mono ?_; rintro e wn ⟨rfl, hb⟩; have Bt := hid (by first | exact grow Bt.out hb | exact grow Bt.out.drew hb); have Ho := hid (by first | exact own_below Ho.out hb | exact own_below (w := World.drew _) Ho.out hb); have BB := hid (by first | exact BB.out.on hb | exact BB.out.drew.on hb); clear hb; have hcell := (BB.out.cell k).trans (funcsA_get k hlt))); (refine hK.out _ _ ?_ (fun hHeld => ?_); (first | exact hcell | exact ((BB.out.alloc _).cell k).trans (funcsA_get k hlt))); clear hK K; try simp only [Act.put, List.setIfInBounds_toArray, List.set_cons_zero, List.set_cons_succ])
        (refine wpAnyH_ready (rs := [11]) (by kernel_rfl) (by simp) ?_; refine AllReadyH.cons rfl (fun K hK => ?_) AllReadyH.nil; rw [if_pos (by kernel_rfl)]; (go_simp; have hcell2 := hcell); (refine hK.out _ _ ?_ (fun hHeld => ?_); (first | exact hcell | exact ((BB.out.alloc _).cell k).trans (funcsA_get k hlt))); clear hK K; try simp only [Act.put])
        (refine wpAnyH_ready (rs := [12]) (by kernel_rfl) (by simp) ?_; refine AllReadyH.cons rfl (fun K hK => ?_) AllReadyH.nil; rw [if_pos (by kernel_rfl)]; (refine wp_append_own _ _ _ 41 rfl w.heap.size 49 i0 _ 18 160 Try.underlying41 hi hz0 hz1 hz2 rfl (by decide) _ _ _ rfl (Ho.out.alloc _) ⟨wn.heap.size, 0, none⟩ 1 1 (prC [⟨wd k, kd (24 + (k : Int)), ⟨#[]⟩, 24 + (k : Int), true⟩]) rfl rfl (cellsL_new _ (prC [⟨wd k, kd (24 + (k : Int)), ⟨#[]⟩, 24 + (k : Int), true⟩]) _) (prC_ones [⟨wd k, kd (24 + (k : Int)), ⟨#[]⟩, 24 + (k : Int), true⟩]) L3.out L4.out (Nat.le_trans Bt.out.size (le_alloc _ _)) ?_; intro v' w1 hown' hgrow _; have Bt := hid (own_below1 Ho.out Bt.out hgrow); have BB := hid (show Bk w1 wf.heap.size 61 funcsA from step_type Ho.out (by decide) BB.out hgrow); have Ho := hid (own_more (ps := [⟨wd k, kd (24 + (k : Int)), ⟨#[]⟩, 24 + (k : Int), true⟩]) hown' rfl rfl); clear hown' hgrow; have hcell := (BB.out.cell k).trans (funcsA_get k hlt)); (refine hK.out _ _ ?_ (fun hHeld => ?_); (first | exact hcell | exact ((BB.out.alloc _).cell k).trans (funcsA_get k hlt))); clear hK K; try simp only [Act.put])
        first | (refine wpAnyH_take (i := 13) (v := undef) (by simp only [List.getElem?_toArray, List.getElem?_cons_succ, List.getElem?_cons_zero]; exact rfl) (by kernel_rfl) (by kernel_rfl) (by kernel_rfl) (fun _ _ _ h => h) (Or.inr ⟨?_, rfl⟩) (by assumption) ?_; (rfl); try simp only [Act.put]) | (refine wpAnyH_take (i := 13) (v := ?_) (by simp only [List.getElem?_toArray, List.getElem?_cons_succ, List.getElem?_cons_zero]; exact rfl) (by kernel_rfl) (by kernel_rfl) (by kernel_rfl) (fun _ _ _ h => h) (Or.inl ⟨?_, ?_⟩) (by assumption) ?_; rotate_left; (rfl); (focus (intro w hSw; (try dsimp only at hSw); go_simp; try with_reducible rfl)); try simp only [Act.put])
        refine wpAnyH_done (by kernel_rfl) ?_ _
        refine NoPanic.normal ?_
        go_wp2_with fail
        go_roundw
        case rel => exact ⟨k + 1, by omega, by go_num, by rw [HE.out, ← List.append_assoc]; exact Ho.out, BB.out, Bt.out⟩
        case measure => simp [intOf]; omega
      · have hb : (((nm (24 + k)).extract 0 (ldN k)).toList == (nm n).toList) = false := toList_ne he
        have HE : Hid (fns n (k + 1) = fns n k) := hid (by show fns n k ++ fnP n k = _; unfold fnP; rw [if_neg he, List.append_nil])
        clear he
        go_wp2_with (first | (go_at_call 56; refine (LI.out _).mono ?_; rintro e wn ⟨rfl, rfl⟩))
        go_roundw
        case rel => exact ⟨k + 1, by omega, by go_num, by rw [HE.out]; exact Ho.out, BB.out, Bt.out⟩
        case measure => simp [intOf]; omega
    · obtain rfl : k = 48 := by omega
      go_wp2_with fail
      go_ret
      exact ⟨_, rfl, by unfold pl; rw [if_pos hn, ← EL.out]; exact Ho.out, Bt.out⟩

end Go.Proofs.Ytchpkopeblgifaa
