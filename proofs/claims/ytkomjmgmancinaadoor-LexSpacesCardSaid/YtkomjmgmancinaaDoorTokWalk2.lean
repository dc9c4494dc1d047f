/-
  The walk of token, second part: strings and signs; any text.
-/
import Derived.Test.YtkomjmgmancinaaDoorTokWalk
namespace Go.Proofs.YtkomjmgmancinaaDoor
open Go.RowKit

theorem closeAt_lt (q : UInt8) : ∀ (n : Nat) (l : List UInt8) (e : Nat), l.length ≤ n → closeAt q l = some e → e < l.length := by
  intro n
  induction n with
  | zero => intro l e hn h; rw [List.eq_nil_of_length_eq_zero (by omega : l.length = 0), closeAt_nil] at h; cases h
  | succ n ih =>
    intro l e hn h
    cases l with
    | nil => rw [closeAt_nil] at h; cases h
    | cons c r =>
      rw [closeAt_cons] at h
      simp only [List.length_cons] at hn ⊢
      split at h
      · cases h; omega
      · split at h
        · cases h
        · split at h
          · rename_i h2
            obtain ⟨x, hx, rfl⟩ := Option.map_eq_some_iff.1 h
            have := ih (r.drop 1) x (by rw [List.length_drop]; omega) hx
            rw [List.length_drop] at this; omega
          · obtain ⟨x, hx, rfl⟩ := Option.map_eq_some_iff.1 h
            have := ih r x (by omega) hx
            omega
theorem scan_place : ∀ (f : Nat) (l : List UInt8) (i : Nat) (out : List UInt8) (p : Nat), scan f l i out = .inl p → p ≤ i + l.length := by
  intro f
  induction f with
  | zero => intro l i out p h; rw [scan] at h; cases h
  | succ f ih =>
    intro l i out p h
    cases l with
    | nil => rw [scan] at h; cases h
    | cons c r =>
      rw [scan] at h
      split at h
      · split at h
        · cases h; simp
        · rename_i b n hb
          have h2 := ih _ _ _ _ h
          have h3 := esc_len hb
          rw [List.length_drop] at h2
          simp only [List.length_cons]; omega
      · have h2 := ih _ _ _ _ h
        simp only [List.length_cons]; omega
theorem plain_place (l : List UInt8) : (plainR l).2.1 ≤ l.length := by
  unfold plainR
  split
  · exact Nat.zero_le _
  · split
    · rename_i i hi
      have := scan_place _ _ _ _ _ hi
      simpa using this
    · split <;> exact Nat.zero_le _

theorem close_bounds {q : UInt8} {l : List UInt8} {i e : Nat} (h : CloseAt q l i = some e) : i ≤ e ∧ e < l.length := by
  unfold CloseAt at h
  obtain ⟨x, hx, rfl⟩ := Option.map_eq_some_iff.1 h
  have := closeAt_lt q _ _ x (Nat.le_refl _) hx
  rw [List.length_drop] at this
  omega

set_option maxHeartbeats 4000000 in
set_option maxRecDepth 100000 in
theorem tok_qu (s : ByteArray) (h0 : 0 < s.size) (hs : s.size ≤ 70000) (hc : isLet s[0] = false) (hd : isDig s[0] = false) (hq : isQu s[0] = true) (hk : kindN s[0] = 3) (w : World) : Calls Tryd.prog 36 #[.string s] w (TokOk s.data.toList w) := by
  have hl0 : 0 < s.data.toList.length := by rw [← ba_size]; exact h0
  have ht := tokR_qu s.data.toList hl0 hc hd hq
  have K := hidB (fun W => kind_any s[0] W)
  rw [hk] at K
  have C := hidB (fun W => closed_any s h0 (by omega) s[0] rfl W)
  have ht2 : tokR s.data.toList = match CloseAt s[0] s.data.toList 1 with
      | none => .bad 0
      | some e => if (plainR ((s.data.toList.drop 1).take (e - 1))).2.2 = 5 then .bad (1 + (plainR ((s.data.toList.drop 1).take (e - 1))).2.1) else if (plainR ((s.data.toList.drop 1).take (e - 1))).2.2 ≠ 0 then .bad 0 else ⟨true, 4, (plainR ((s.data.toList.drop 1).take (e - 1))).1, 0, e + 1⟩ := ht
  have HT := hidB ht2
  clear ht ht2 hc hd hq hk
  have hz := ba_size s
  have HZ := hidB hz
  clear hz
  cases hx : CloseAt s[0] s.data.toList 1 with
  | none =>
    rw [hx] at C HT
    have C2 : Hid (∀ W, Calls Tryd.prog 57 #[.string s] W fun e w' => e = .returned (.int .i64 0) ∧ W = w') := C
    clear C hx
    have Bt := hidB (box_one w (.cells #[.int .u8 0, .int .i64 0, .string ⟨#[]⟩, .float .f64 0] 25))
    have TK := hidB (Bk.new w 25 #[.int .u8 0, .int .i64 0, .string ⟨#[]⟩, .float .f64 0])
    go_enter Tryd.func36, Tryd.ntmps36
    go_wp2_with fail
    refine (K.out _).mono ?_; rintro e w1 ⟨rfl, rfl⟩
    go_wp2_with fail
    refine (C2.out _).mono ?_; rintro e w1 ⟨rfl, rfl⟩
    go_wp2_with (first | (refine wpList_load_row (by rfl) 25 (.tmp 2) (by rfl) w.heap.size (by rfl) 25 #[.int .u8 0, .int .i64 0, .string ⟨#[]⟩, .float .f64 0] (0, 0) _ TK.out Tryd.underlying25 (by rfl) (by kernel_rfl) ?_) | (refine wpList_store_row (by rfl) 25 (.tmp 2) (.tmp 97) (by rfl) w.heap.size #[.int .u8 0, .int .i64 0, .string ⟨#[]⟩, .float .f64 0] (by rfl) (by rfl) 25 #[.int .u8 0, .int .i64 0, .string ⟨#[]⟩, .float .f64 0] TK.out (by kernel_rfl) (by rfl) (by kernel_rfl) ?_; rw [setRow_same TK.out]))
    obtain ⟨u0, u1, u2, u3, fu⟩ := TK.out.four
    refine bodyPost_ret (v := .tuple #[.agg #[.int .u8 0, .int .i64 0, .string ⟨#[]⟩, .float .f64 0], .int .i64 0, .bool false]) (by simp [results, Tryd.results36, go_sem, u0, u1, u2, u3]) rfl ?_
    exact tokOk_bad HT.out rfl _ _ _ Bt.out
  | some en =>
    obtain ⟨hb1, hb2⟩ := close_bounds hx
    rw [← HZ.out] at hb2
    rw [hx] at C HT
    have C2 : Hid (∀ W, Calls Tryd.prog 57 #[.string s] W fun e w' => e = .returned (.int .i64 (en : Int)) ∧ W = w') := C
    have HT2 : Hid (tokR s.data.toList = if (plainR ((s.data.toList.drop 1).take (en - 1))).2.2 = 5 then .bad (1 + (plainR ((s.data.toList.drop 1).take (en - 1))).2.1) else if (plainR ((s.data.toList.drop 1).take (en - 1))).2.2 ≠ 0 then .bad 0 else ⟨true, 4, (plainR ((s.data.toList.drop 1).take (en - 1))).1, 0, en + 1⟩) := HT
    have PL := hidB (fun W => plain_any (s.extract 1 en) W (by have := ba_size (s.extract 1 en); rw [mid_data, List.length_take] at this; omega))
    unfold PlainOk at PL
    rw [mid_data] at PL
    have hpl := plain_place ((s.data.toList.drop 1).take (en - 1))
    rw [List.length_take] at hpl
    have hpl2 : (plainR ((s.data.toList.drop 1).take (en - 1))).2.1 ≤ 70000 := by omega
    clear C HT hx hpl
    generalize plainR ((s.data.toList.drop 1).take (en - 1)) = pr at *
    obtain ⟨out, pl, er⟩ := pr
    simp only at HT2 PL hpl2
    have hn0 : ((en : Int) == 0) = false := by rw [beq_eq_false_iff_ne]; omega
    have hx1 : (1 : Int) ≤ (en : Int) := by omega
    have hx2 : (en : Int) ≤ (s.size : Int) := by omega
    have Bt := hidB (box_one w (.cells #[.int .u8 0, .int .i64 0, .string ⟨#[]⟩, .float .f64 0] 25))
    have TK := hidB (Bk.new w 25 #[.int .u8 0, .int .i64 0, .string ⟨#[]⟩, .float .f64 0])
    by_cases h5 : er = 5
    · subst h5
      have HB : Hid (tokR s.data.toList = .bad (1 + pl)) := hidB (by rw [HT2.out, if_pos rfl])
      clear HT2
      go_enter Tryd.func36, Tryd.ntmps36
      go_wp2_with fail
      refine (K.out _).mono ?_; rintro e w1 ⟨rfl, rfl⟩
      go_wp2_with fail
      refine (C2.out _).mono ?_; rintro e w1 ⟨rfl, rfl⟩
      go_wp2_with fail
      refine (PL.out _).mono ?_; rintro e w3 ⟨rfl, b3⟩
      replace Bt := hidB (grow Bt.out b3)
      replace TK := hidB (TK.out.on b3)
      clear b3
      go_wp2_with (first | (refine wpList_load_row (by rfl) 25 (.tmp 2) (by rfl) w.heap.size (by rfl) 25 #[.int .u8 0, .int .i64 0, .string ⟨#[]⟩, .float .f64 0] (0, 0) _ TK.out Tryd.underlying25 (by rfl) (by kernel_rfl) ?_) | (refine wpList_store_row (by rfl) 25 (.tmp 2) (.tmp 108) (by rfl) w.heap.size #[.int .u8 0, .int .i64 0, .string ⟨#[]⟩, .float .f64 0] (by rfl) (by rfl) 25 #[.int .u8 0, .int .i64 0, .string ⟨#[]⟩, .float .f64 0] TK.out (by kernel_rfl) (by rfl) (by kernel_rfl) ?_; rw [setRow_same TK.out]))
      obtain ⟨u0, u1, u2, u3, fu⟩ := TK.out.four
      refine bodyPost_ret (v := .tuple #[.agg #[.int .u8 0, .int .i64 0, .string ⟨#[]⟩, .float .f64 0], .int .i64 (1 + (pl : Int)), .bool false]) (by simp [results, Tryd.results36, go_sem, u0, u1, u2, u3]) rfl ?_
      exact tokOk_bad HB.out (by omega) _ _ _ Bt.out
    · by_cases h0' : er = 0
      · subst h0'
        have HO : Hid (tokR s.data.toList = ⟨true, 4, out, 0, en + 1⟩) := hidB (by rw [HT2.out, if_neg (by decide), if_neg (by decide)])
        clear HT2 h5
        go_enter Tryd.func36, Tryd.ntmps36
        go_wp2_with fail
        refine (K.out _).mono ?_; rintro e w1 ⟨rfl, rfl⟩
        go_wp2_with fail
        refine (C2.out _).mono ?_; rintro e w1 ⟨rfl, rfl⟩
        go_wp2_with fail
        refine (PL.out _).mono ?_; rintro e w3 ⟨rfl, b3⟩
        replace Bt := hidB (grow Bt.out b3)
        replace TK := hidB (TK.out.on b3)
        clear b3
        have TV := hidB (TK.out.setRow #[.int .u8 4, .int .i64 0, .string ⟨out.toArray⟩, .float .f64 0])
        go_wp2_with (first | (refine wpList_store_row (by rfl) 25 (.tmp 2) (.tmp 115) (by rfl) w.heap.size #[.int .u8 4, .int .i64 0, .string ⟨out.toArray⟩, .float .f64 0] (by rfl) (by rfl) 25 #[.int .u8 0, .int .i64 0, .string ⟨#[]⟩, .float .f64 0] TK.out (by kernel_rfl) (by rfl) (by kernel_rfl) ?_) | (refine wpList_load_row (by rfl) 25 (.tmp 2) (by rfl) w.heap.size (by rfl) 25 #[.int .u8 4, .int .i64 0, .string ⟨out.toArray⟩, .float .f64 0] (0, 0) _ TV.out Tryd.underlying25 (by rfl) (by kernel_rfl) ?_) | (refine wpList_store_row (by rfl) 25 (.tmp 2) (.tmp 118) (by rfl) w.heap.size #[.int .u8 4, .int .i64 0, .string ⟨out.toArray⟩, .float .f64 0] (by rfl) (by rfl) 25 #[.int .u8 4, .int .i64 0, .string ⟨out.toArray⟩, .float .f64 0] TV.out (by kernel_rfl) (by rfl) (by kernel_rfl) ?_; rw [setRow_same TV.out]))
        obtain ⟨u0, u1, u2, u3, fu⟩ := TV.out.four
        refine bodyPost_ret (v := .tuple #[.agg #[.int .u8 4, .int .i64 0, .string ⟨out.toArray⟩, .float .f64 0], .int .i64 ((en : Int) + 1), .bool true]) (by simp [results, Tryd.results36, go_sem, u0, u1, u2, u3]) rfl ?_
        exact tokOk_ok HO.out rfl (by rfl) rfl (by rfl) Fl.is_0 (below_setRow Bt.out (Nat.le_refl _) _)
      · have HB : Hid (tokR s.data.toList = .bad 0) := hidB (by rw [HT2.out, if_neg h5, if_pos h0'])
        have e5 : (er == 5) = false := by rw [beq_eq_false_iff_ne]; exact h5
        have e0 : (er != 0) = true := by simpa using h0'
        clear HT2 h5 h0'
        go_enter Tryd.func36, Tryd.ntmps36
        go_wp2_with fail
        refine (K.out _).mono ?_; rintro e w1 ⟨rfl, rfl⟩
        go_wp2_with fail
        refine (C2.out _).mono ?_; rintro e w1 ⟨rfl, rfl⟩
        go_wp2_with fail
        refine (PL.out _).mono ?_; rintro e w3 ⟨rfl, b3⟩
        replace Bt := hidB (grow Bt.out b3)
        replace TK := hidB (TK.out.on b3)
        clear b3
        go_wp2_with (first | (refine wpList_load_row (by rfl) 25 (.tmp 2) (by rfl) w.heap.size (by rfl) 25 #[.int .u8 0, .int .i64 0, .string ⟨#[]⟩, .float .f64 0] (0, 0) _ TK.out Tryd.underlying25 (by rfl) (by kernel_rfl) ?_) | (refine wpList_store_row (by rfl) 25 (.tmp 2) (.tmp 113) (by rfl) w.heap.size #[.int .u8 0, .int .i64 0, .string ⟨#[]⟩, .float .f64 0] (by rfl) (by rfl) 25 #[.int .u8 0, .int .i64 0, .string ⟨#[]⟩, .float .f64 0] TK.out (by kernel_rfl) (by rfl) (by kernel_rfl) ?_; rw [setRow_same TK.out]))
        obtain ⟨u0, u1, u2, u3, fu⟩ := TK.out.four
        refine bodyPost_ret (v := .tuple #[.agg #[.int .u8 0, .int .i64 0, .string ⟨#[]⟩, .float .f64 0], .int .i64 0, .bool false]) (by simp [results, Tryd.results36, go_sem, u0, u1, u2, u3]) rfl ?_
        exact tokOk_bad HB.out rfl _ _ _ Bt.out

theorem signOf_min (l : List UInt8) : ∀ n : Nat, signOf l n = signOf l (min n l.length) := by
  intro n
  induction n with
  | zero => simp
  | succ n ih =>
    by_cases h : n + 1 ≤ l.length
    · rw [Nat.min_eq_left h]
    · rw [signOf, if_neg (fun hh => h hh.1), ih]
      congr 1; omega

set_option maxHeartbeats 4000000 in
set_option maxRecDepth 100000 in
theorem tok_other (s : ByteArray) (h0 : 0 < s.size) (hs : s.size ≤ 70000) (hc : isLet s[0] = false) (hd : isDig s[0] = false) (hq : isQu s[0] = false) (hk : kindN s[0] = 0) (w : World) (hm : Mx w) : Calls Tryd.prog 36 #[.string s] w (TokOk s.data.toList w) := by
  have hl0 : 0 < s.data.toList.length := by rw [← ba_size]; exact h0
  have ht := tokR_other s.data.toList hl0 hc hd hq
  have K := hidB (fun W => kind_any s[0] W)
  rw [hk] at K
  have hz := ba_size s
  rw [signOf_min, ← hz] at ht
  have HT := hidB ht
  have HZ := hidB hz
  have M := hidB hm
  clear ht hz hc hd hq hk hm
  have hmin : min (3 : Int) (s.size : Int) = ((min 3 s.size : Nat) : Int) := by omega
  have Bt := hidB (box_one w (.cells #[.int .u8 0, .int .i64 0, .string ⟨#[]⟩, .float .f64 0] 25))
  go_enter Tryd.func36, Tryd.ntmps36
  go_wp2_with fail
  refine (K.out _).mono ?_; rintro e w1 ⟨rfl, rfl⟩
  go_wp2_with fail
  go_loop [3] (fun v => ∃ k : Nat, k ≤ 3 ∧ k ≤ s.size ∧ v = .int .i64 k ∧ tokR s.data.toList = signOf s.data.toList k) (fun v => (intOf v).toNat)
  case atStart => exact ⟨min 3 s.size, by omega, by omega, by first | rfl | (congr 1) | (split <;> congr 1 <;> omega), HT.out⟩
  case round =>
    clear HT hmin
    obtain ⟨k, hk3, hks, rfl, hn⟩ := hrel
    have HN := hidB hn
    clear hn
    cases k with
    | zero =>
      go_wp2_with fail
      refine bodyPost_ret (v := .tuple #[.agg #[.int .u8 5, .int .i64 0, .string (s.extract 0 0), .float .f64 0], .int .i64 0, .bool false]) (by simp [results, Tryd.results36, go_sem]) rfl ?_
      exact tokOk_bad HN.out rfl _ _ _ (box_one _ _)
    | succ k =>
      have hx1 : (0 : Int) < ((k + 1 : Nat) : Int) := by omega
      have hx2 : ((k + 1 : Nat) : Int) ≤ (s.size : Int) := by omega
      have SG := hidB (fun W h => signP_any (s.extract 0 (k + 1)) (by rw [take_size _ _ hks]; omega) W h)
      rw [take_data] at SG
      have TD := hidB (take_data s (k + 1))
      have e2 : signOf s.data.toList (k + 1) = if signB (s.data.toList.take (k + 1)) = true then ⟨true, 5, s.data.toList.take (k + 1), 0, k + 1⟩ else signOf s.data.toList k := by
        rw [signOf]
        by_cases hh : signB (s.data.toList.take (k + 1)) = true
        · rw [if_pos ⟨by rw [← HZ.out]; exact hks, hh⟩, if_pos hh]
        · rw [if_neg (fun h => hh h.2), if_neg hh]
      rw [e2] at HN
      clear e2
      generalize hj : k + 1 = j at *
      have HJ := hidB hj
      clear hj
      cases hsg : signB (s.data.toList.take j)
      · rw [hsg] at SG HN
        clear hsg
        go_wp2_with fail
        refine (SG.out _ (mx_below M.out (box_one _ _))).mono ?_; rintro e w1 ⟨rfl, rfl⟩
        go_wp2_with fail
        go_round
        case rel => exact ⟨k, by have := HJ.out; omega, by have := HJ.out; omega, congrArg (fun k => Value.int .i64 k) (by have := HJ.out; omega), HN.out⟩
        case measure =>
          have hj2 := HJ.out
          simp [intOf]; omega
      · rw [hsg] at SG HN
        clear hsg
        go_wp2_with fail
        refine (SG.out _ (mx_below M.out (box_one _ _))).mono ?_; rintro e w1 ⟨rfl, rfl⟩
        go_wp2_with fail
        refine bodyPost_ret (v := .tuple #[.agg #[.int .u8 5, .int .i64 0, .string (s.extract 0 j), .float .f64 0], .int .i64 (j : Int), .bool true]) (by simp [results, Tryd.results36, go_sem]) rfl ?_
        exact tokOk_ok HN.out rfl (by first | rfl | (have := HJ.out; omega)) rfl TD.out Fl.is_0 (box_one _ _)

theorem token_any (s : ByteArray) (h0 : 0 < s.size) (hs : s.size ≤ 70000) (w : World) (hm : Mx w) : Calls Tryd.prog 36 #[.string s] w (TokOk s.data.toList w) := by
  rcases kind_cases s[0] with ⟨h1, _, h2⟩ | ⟨h1, h3, _, h2⟩ | ⟨h1, h3, _, h4, h2⟩ | ⟨h1, h3, _, h4, h2⟩
  · exact tok_let s h0 hs h1 h2 w hm
  · exact tok_dig s h0 hs h1 h3 h2 w
  · exact tok_qu s h0 hs h1 h3 h4 h2 w
  · exact tok_other s h0 hs h1 h3 h4 h2 w hm

end Go.Proofs.YtkomjmgmancinaaDoor
