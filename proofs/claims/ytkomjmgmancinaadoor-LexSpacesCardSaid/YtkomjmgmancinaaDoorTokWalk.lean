/-
  The walk of token: the one at the front of a text.
-/
import Derived.Test.YtkomjmgmancinaaDoorLxK
import Derived.Test.YtkomjmgmancinaaDoorLxL
import Derived.Test.YtkomjmgmancinaaDoorPlainWalk
import Derived.Test.YtkomjmgmancinaaDoorBlk
namespace Go.Proofs.YtkomjmgmancinaaDoor
open Go.RowKit

theorem box_one (w : World) (o : Obj) : Below w.heap.size w (w.alloc o) := (Below.refl _ _).alloc (Nat.le_refl _) _

/-- What a text has at its front, for the walks. -/
theorem front (s : ByteArray) (h : 0 < s.size) : ∃ c : UInt8, s[0] = c ∧ ∃ h2 : 0 < s.data.toList.length, s.data.toList[0] = c :=
  ⟨s[0], rfl, by rw [← ba_size]; exact h, rfl⟩

set_option maxHeartbeats 2000000 in
set_option maxRecDepth 100000 in
theorem tok_let (s : ByteArray) (h0 : 0 < s.size) (hs : s.size ≤ 70000) (hc : isLet s[0] = true) (hk : kindN s[0] = 1) (w : World) (hm : Mx w) : Calls Tryd.prog 36 #[.string s] w (TokOk s.data.toList w) := by
  have ht := tokR_let s.data.toList (by rw [← ba_size]; exact h0) hc
  have K := hidB (fun W => kind_any s[0] W)
  rw [hk] at K
  have R := hidB (fun W => run_any s (by omega) W)
  have hrl := runN_le s.data.toList
  rw [← ba_size] at hrl
  have WD := hidB (fun W h => wordP_any (s.extract 0 (runN s.data.toList)) (by rw [take_size _ _ hrl]; omega) W h)
  rw [take_data] at WD
  have TD := hidB (take_data s (runN s.data.toList))
  have HT := hidB ht
  have M := hidB hm
  clear ht hc hk hm
  generalize hL : s.data.toList = l at *
  have HL := hidB hL
  clear hL
  generalize runN l = n at *
  have hx1 : (n : Int) ≤ (s.size : Int) := by omega
  cases hw : wordB (l.take n)
  · rw [hw] at WD HT
    clear hw
    by_cases hn : 4096 < n
    · rw [if_pos hn] at HT
      go_enter Tryd.func36, Tryd.ntmps36
      go_wp2_with fail
      refine (K.out _).mono ?_; rintro e w1 ⟨rfl, rfl⟩
      go_wp2_with fail
      refine (R.out _).mono ?_; rintro e w1 ⟨rfl, rfl⟩
      go_wp2_with fail
      refine (WD.out _ (mx_below M.out (box_one _ _))).mono ?_; rintro e w1 ⟨rfl, rfl⟩
      go_wp2_with fail
      refine bodyPost_ret (v := .tuple #[.agg #[.int .u8 1, .int .i64 0, .string (s.extract 0 n), .float .f64 0], .int .i64 0, .bool false]) (by simp [results, Tryd.results36, go_sem]) rfl ?_
      exact tokOk_bad HT.out rfl _ _ _ (box_one _ _)
    · rw [if_neg hn] at HT
      go_enter Tryd.func36, Tryd.ntmps36
      go_wp2_with fail
      refine (K.out _).mono ?_; rintro e w1 ⟨rfl, rfl⟩
      go_wp2_with fail
      refine (R.out _).mono ?_; rintro e w1 ⟨rfl, rfl⟩
      go_wp2_with fail
      refine (WD.out _ (mx_below M.out (box_one _ _))).mono ?_; rintro e w1 ⟨rfl, rfl⟩
      go_wp2_with fail
      refine bodyPost_ret (v := .tuple #[.agg #[.int .u8 1, .int .i64 0, .string (s.extract 0 n), .float .f64 0], .int .i64 n, .bool true]) (by simp [results, Tryd.results36, go_sem]) rfl ?_
      exact tokOk_ok HT.out rfl rfl rfl TD.out Fl.is_0 (box_one _ _)
  · rw [hw] at WD HT
    clear hw
    by_cases hn : 4096 < n
    · rw [if_pos hn] at HT
      go_enter Tryd.func36, Tryd.ntmps36
      go_wp2_with fail
      refine (K.out _).mono ?_; rintro e w1 ⟨rfl, rfl⟩
      go_wp2_with fail
      refine (R.out _).mono ?_; rintro e w1 ⟨rfl, rfl⟩
      go_wp2_with fail
      refine (WD.out _ (mx_below M.out (box_one _ _))).mono ?_; rintro e w1 ⟨rfl, rfl⟩
      go_wp2_with fail
      refine bodyPost_ret (v := .tuple #[.agg #[.int .u8 2, .int .i64 0, .string (s.extract 0 n), .float .f64 0], .int .i64 0, .bool false]) (by simp [results, Tryd.results36, go_sem]) rfl ?_
      exact tokOk_bad HT.out rfl _ _ _ (box_one _ _)
    · rw [if_neg hn] at HT
      go_enter Tryd.func36, Tryd.ntmps36
      go_wp2_with fail
      refine (K.out _).mono ?_; rintro e w1 ⟨rfl, rfl⟩
      go_wp2_with fail
      refine (R.out _).mono ?_; rintro e w1 ⟨rfl, rfl⟩
      go_wp2_with fail
      refine (WD.out _ (mx_below M.out (box_one _ _))).mono ?_; rintro e w1 ⟨rfl, rfl⟩
      go_wp2_with fail
      refine bodyPost_ret (v := .tuple #[.agg #[.int .u8 2, .int .i64 0, .string (s.extract 0 n), .float .f64 0], .int .i64 n, .bool true]) (by simp [results, Tryd.results36, go_sem]) rfl ?_
      exact tokOk_ok HT.out rfl rfl rfl TD.out Fl.is_0 (box_one _ _)
theorem setRow_same {w : World} {g : Nat} {t : TypeId} {cs : Array Value} (h : Bk w g t cs) : w.setRow g cs = w := by
  have e : (w.setRow g cs).heap = w.heap := by
    unfold World.setRow
    apply Array.ext_getElem?
    intro i
    rw [Array.getElem?_modify]
    by_cases hi : g = i
    · subst hi
      unfold Bk at h
      rw [if_pos rfl, h]; rfl
    · rw [if_neg hi]
  unfold World.setRow at e ⊢
  simp only at e
  rw [e]

theorem trimD_any (s : ByteArray) (w : World) (hs : s.size ≤ 9223372036854775807) :
    Calls Tryd.prog 55 #[.string s, .string ⟨#[48, 49, 50, 51, 52, 53, 54, 55, 56, 57]⟩] w fun e w' => (∃ r : ByteArray, e = .returned (.string r) ∧ r.toList.isEmpty = s.data.toList.all isDig) ∧ Below w.heap.size w w' := by
  refine (Any.strings_Trim_laid Tryd.lays160 (by kernel_rfl) s ⟨#[48, 49, 50, 51, 52, 53, 54, 55, 56, 57]⟩ w hs (by decide) (ascii_of_all (by decide))).mono ?_
  rintro e w' ⟨he, hb⟩
  refine ⟨⟨_, he, ?_⟩, hb⟩
  rw [isE]
  have h := trimD_nil s.data.toList
  rw [Bool.eq_iff_iff, List.isEmpty_iff]
  exact h

theorem run_pos (l : List UInt8) (h : 0 < l.length) (hc : isNm l[0] = true) : 0 < runN l := by
  cases l with
  | nil => simp at h
  | cons c r => rw [runN_cons, if_pos (by simpa using hc)]; omega

set_option maxHeartbeats 4000000 in
set_option maxRecDepth 100000 in
theorem tok_dig (s : ByteArray) (h0 : 0 < s.size) (hs : s.size ≤ 70000) (hc : isLet s[0] = false) (hd : isDig s[0] = true) (hk : kindN s[0] = 2) (w : World) : Calls Tryd.prog 36 #[.string s] w (TokOk s.data.toList w) := by
  have hl0 : 0 < s.data.toList.length := by rw [← ba_size]; exact h0
  have ht := tokR_dig s.data.toList hl0 hc hd
  have hrp := run_pos s.data.toList hl0 (by show (isLet s[0] || isDig s[0]) = true; rw [hc, hd]; rfl)
  have K := hidB (fun W => kind_any s[0] W)
  rw [hk] at K
  have R := hidB (fun W => run_any s (by omega) W)
  have hrl := runN_le s.data.toList
  rw [← ba_size] at hrl
  have TR := hidB (fun W => trimD_any (s.extract 0 (runN s.data.toList)) W (by rw [take_size _ _ hrl]; omega))
  rw [take_data] at TR
  have b0 : ((s[0].toNat : Int) == 48) = decide (s.data.toList[0] = 48) := byte_eq s[0] 48 48 rfl
  have HT := hidB ht
  have hne : s.data.toList.take (runN s.data.toList) ≠ [] := by
    intro e
    have := congrArg List.length e
    rw [List.length_take] at this; simp only [List.length_nil] at this; omega
  have RD := hidB (fun h => read_digits (s.data.toList.take (runN s.data.toList)) hne h)
  have RA := hidB (fun W h16 => read_any (s.extract 0 (runN s.data.toList)) W (by rw [take_size _ _ hrl]; exact h16))
  rw [take_data] at RA
  clear ht hc hd hk hne
  generalize runN s.data.toList = n at *
  have hx1 : (n : Int) ≤ (s.size : Int) := by omega
  generalize hw : s.data.toList.take n = u at *
  clear hw
  generalize hz : decide (s.data.toList[0] = 48) = z at *
  have HZ := hidB hz
  clear hz
  cases hD : u.all isDig
  · rw [hD] at TR
    have HB : Hid (tokR s.data.toList = .bad 0) := hidB (by rw [HT.out, if_pos (Or.inl hD)])
    clear hD RD RA
    have Bt := hidB (box_one w (.cells #[.int .u8 0, .int .i64 0, .string ⟨#[]⟩, .float .f64 0] 25))
    have TK := hidB (Bk.new w 25 #[.int .u8 0, .int .i64 0, .string ⟨#[]⟩, .float .f64 0])
    go_enter Tryd.func36, Tryd.ntmps36
    go_wp2_with fail
    refine (K.out _).mono ?_; rintro e w1 ⟨rfl, rfl⟩
    go_wp2_with fail
    refine (R.out _).mono ?_; rintro e w1 ⟨rfl, rfl⟩
    go_wp2_with fail
    refine (TR.out _).mono ?_; rintro e w2 ⟨⟨r, rfl, hr⟩, b2⟩
    replace Bt := hidB (grow Bt.out b2)
    replace TK := hidB (TK.out.on b2)
    have hr2 := congrArg (!·) hr
    first | simp only [Bool.not_true] at hr2 | simp only [Bool.not_false] at hr2
    clear b2
    go_wp2_with (first | (refine wpList_load_row (by rfl) 25 (.tmp 2) (by rfl) w.heap.size (by rfl) 25 #[.int .u8 0, .int .i64 0, .string ⟨#[]⟩, .float .f64 0] (0, 0) _ TK.out Tryd.underlying25 (by rfl) (by kernel_rfl) ?_) | (refine wpList_store_row (by rfl) 25 (.tmp 2) (.tmp 73) (by rfl) w.heap.size #[.int .u8 0, .int .i64 0, .string ⟨#[]⟩, .float .f64 0] (by rfl) (by rfl) 25 #[.int .u8 0, .int .i64 0, .string ⟨#[]⟩, .float .f64 0] TK.out (by kernel_rfl) (by rfl) (by kernel_rfl) ?_; rw [setRow_same TK.out]))
    obtain ⟨u0, u1, u2, u3, fu⟩ := TK.out.four
    refine bodyPost_ret (v := .tuple #[.agg #[.int .u8 0, .int .i64 0, .string ⟨#[]⟩, .float .f64 0], .int .i64 0, .bool false]) (by simp [results, Tryd.results36, go_sem, u0, u1, u2, u3]) rfl ?_
    exact tokOk_bad HB.out rfl _ _ _ Bt.out
  · rw [hD] at TR
    have RD2 := hidB (RD.out hD)
    have HD := hidB hD
    clear hD RD
    by_cases c1 : z = true ∧ 1 < n
    · obtain ⟨rfl, c2⟩ := c1
      have HB : Hid (tokR s.data.toList = .bad 0) := hidB (by rw [HT.out, if_pos (Or.inr (Or.inl ⟨of_decide_eq_true HZ.out, c2⟩))])
      have hx2 : (1 : Int) < (n : Int) := by omega
      clear RA
      have Bt := hidB (box_one w (.cells #[.int .u8 0, .int .i64 0, .string ⟨#[]⟩, .float .f64 0] 25))
      have TK := hidB (Bk.new w 25 #[.int .u8 0, .int .i64 0, .string ⟨#[]⟩, .float .f64 0])
      go_enter Tryd.func36, Tryd.ntmps36
      go_wp2_with fail
      refine (K.out _).mono ?_; rintro e w1 ⟨rfl, rfl⟩
      go_wp2_with fail
      refine (R.out _).mono ?_; rintro e w1 ⟨rfl, rfl⟩
      go_wp2_with fail
      refine (TR.out _).mono ?_; rintro e w2 ⟨⟨r, rfl, hr⟩, b2⟩
      replace Bt := hidB (grow Bt.out b2)
      replace TK := hidB (TK.out.on b2)
      have hr2 := congrArg (!·) hr
      first | simp only [Bool.not_true] at hr2 | simp only [Bool.not_false] at hr2
      clear b2
      go_wp2_with (first | (refine wpList_load_row (by rfl) 25 (.tmp 2) (by rfl) w.heap.size (by rfl) 25 #[.int .u8 0, .int .i64 0, .string ⟨#[]⟩, .float .f64 0] (0, 0) _ TK.out Tryd.underlying25 (by rfl) (by kernel_rfl) ?_) | (refine wpList_store_row (by rfl) 25 (.tmp 2) (.tmp 73) (by rfl) w.heap.size #[.int .u8 0, .int .i64 0, .string ⟨#[]⟩, .float .f64 0] (by rfl) (by rfl) 25 #[.int .u8 0, .int .i64 0, .string ⟨#[]⟩, .float .f64 0] TK.out (by kernel_rfl) (by rfl) (by kernel_rfl) ?_; rw [setRow_same TK.out]))
      obtain ⟨u0, u1, u2, u3, fu⟩ := TK.out.four
      refine bodyPost_ret (v := .tuple #[.agg #[.int .u8 0, .int .i64 0, .string ⟨#[]⟩, .float .f64 0], .int .i64 0, .bool false]) (by simp [results, Tryd.results36, go_sem, u0, u1, u2, u3]) rfl ?_
      exact tokOk_bad HB.out rfl _ _ _ Bt.out
    · have N1 : Hid (¬ (s.data.toList[0] = 48 ∧ 1 < n)) := hidB (by rintro ⟨h1, h2⟩; exact c1 ⟨by rw [← HZ.out]; exact decide_eq_true h1, h2⟩)
      have c2 : z = false ∨ ¬ (1 : Int) < (n : Int) := by
        cases z
        · exact Or.inl rfl
        · right; intro h; exact c1 ⟨rfl, by omega⟩
      clear c1
      by_cases c3 : 16 < n
      · have HB : Hid (tokR s.data.toList = .bad 0) := hidB (by rw [HT.out, if_pos (Or.inr (Or.inr (Or.inl c3)))])
        have hx3 : (16 : Int) < (n : Int) := by omega
        clear RA
        rcases c2 with rfl | c2
        · have Bt := hidB (box_one w (.cells #[.int .u8 0, .int .i64 0, .string ⟨#[]⟩, .float .f64 0] 25))
          have TK := hidB (Bk.new w 25 #[.int .u8 0, .int .i64 0, .string ⟨#[]⟩, .float .f64 0])
          go_enter Tryd.func36, Tryd.ntmps36
          go_wp2_with fail
          refine (K.out _).mono ?_; rintro e w1 ⟨rfl, rfl⟩
          go_wp2_with fail
          refine (R.out _).mono ?_; rintro e w1 ⟨rfl, rfl⟩
          go_wp2_with fail
          refine (TR.out _).mono ?_; rintro e w2 ⟨⟨r, rfl, hr⟩, b2⟩
          replace Bt := hidB (grow Bt.out b2)
          replace TK := hidB (TK.out.on b2)
          have hr2 := congrArg (!·) hr
          first | simp only [Bool.not_true] at hr2 | simp only [Bool.not_false] at hr2
          clear b2
          go_wp2_with (first | (refine wpList_load_row (by rfl) 25 (.tmp 2) (by rfl) w.heap.size (by rfl) 25 #[.int .u8 0, .int .i64 0, .string ⟨#[]⟩, .float .f64 0] (0, 0) _ TK.out Tryd.underlying25 (by rfl) (by kernel_rfl) ?_) | (refine wpList_store_row (by rfl) 25 (.tmp 2) (.tmp 73) (by rfl) w.heap.size #[.int .u8 0, .int .i64 0, .string ⟨#[]⟩, .float .f64 0] (by rfl) (by rfl) 25 #[.int .u8 0, .int .i64 0, .string ⟨#[]⟩, .float .f64 0] TK.out (by kernel_rfl) (by rfl) (by kernel_rfl) ?_; rw [setRow_same TK.out]))
          obtain ⟨u0, u1, u2, u3, fu⟩ := TK.out.four
          refine bodyPost_ret (v := .tuple #[.agg #[.int .u8 0, .int .i64 0, .string ⟨#[]⟩, .float .f64 0], .int .i64 0, .bool false]) (by simp [results, Tryd.results36, go_sem, u0, u1, u2, u3]) rfl ?_
          exact tokOk_bad HB.out rfl _ _ _ Bt.out
        · omega
      · have hx3 : ¬ (16 : Int) < (n : Int) := by omega
        have RA2 := hidB (fun W => RA.out W (by omega))
        rw [RD2.out] at RA2
        clear RA RD2
        by_cases c4 : 9007199254740991 < worth u
        · rw [if_pos c4] at RA2
          have HB : Hid (tokR s.data.toList = .bad 0) := hidB (by rw [HT.out, if_pos (Or.inr (Or.inr (Or.inr c4)))])
          clear c4
          rcases c2 with rfl | c2
          · have Bt := hidB (box_one w (.cells #[.int .u8 0, .int .i64 0, .string ⟨#[]⟩, .float .f64 0] 25))
            have TK := hidB (Bk.new w 25 #[.int .u8 0, .int .i64 0, .string ⟨#[]⟩, .float .f64 0])
            go_enter Tryd.func36, Tryd.ntmps36
            go_wp2_with fail
            refine (K.out _).mono ?_; rintro e w1 ⟨rfl, rfl⟩
            go_wp2_with fail
            refine (R.out _).mono ?_; rintro e w1 ⟨rfl, rfl⟩
            go_wp2_with fail
            refine (TR.out _).mono ?_; rintro e w2 ⟨⟨r, rfl, hr⟩, b2⟩
            replace Bt := hidB (grow Bt.out b2)
            replace TK := hidB (TK.out.on b2)
            have hr2 := congrArg (!·) hr
            first | simp only [Bool.not_true] at hr2 | simp only [Bool.not_false] at hr2
            clear b2
            go_wp2_with (first | (refine wpList_load_row (by rfl) 25 (.tmp 2) (by rfl) w.heap.size (by rfl) 25 #[.int .u8 0, .int .i64 0, .string ⟨#[]⟩, .float .f64 0] (0, 0) _ TK.out Tryd.underlying25 (by rfl) (by kernel_rfl) ?_) | (refine wpList_store_row (by rfl) 25 (.tmp 2) (.tmp 73) (by rfl) w.heap.size #[.int .u8 0, .int .i64 0, .string ⟨#[]⟩, .float .f64 0] (by rfl) (by rfl) 25 #[.int .u8 0, .int .i64 0, .string ⟨#[]⟩, .float .f64 0] TK.out (by kernel_rfl) (by rfl) (by kernel_rfl) ?_; rw [setRow_same TK.out]))
            refine (RA2.out _).mono ?_; rintro e w3 ⟨⟨v, rfl, hv⟩, b3⟩
            have Bt := hidB (grow Bt.out b3); replace TK := hidB (TK.out.on b3)
            clear b3 hv
            go_wp2_with (first | (refine wpList_load_row (by rfl) 25 (.tmp 2) (by rfl) w.heap.size (by rfl) 25 #[.int .u8 0, .int .i64 0, .string ⟨#[]⟩, .float .f64 0] (0, 0) _ TK.out Tryd.underlying25 (by rfl) (by kernel_rfl) ?_) | (refine wpList_store_row (by rfl) 25 (.tmp 2) (.tmp 88) (by rfl) w.heap.size #[.int .u8 0, .int .i64 0, .string ⟨#[]⟩, .float .f64 0] (by rfl) (by rfl) 25 #[.int .u8 0, .int .i64 0, .string ⟨#[]⟩, .float .f64 0] TK.out (by kernel_rfl) (by rfl) (by kernel_rfl) ?_; rw [setRow_same TK.out]))
            obtain ⟨u0, u1, u2, u3, fu⟩ := TK.out.four
            refine bodyPost_ret (v := .tuple #[.agg #[.int .u8 0, .int .i64 0, .string ⟨#[]⟩, .float .f64 0], .int .i64 0, .bool false]) (by simp [results, Tryd.results36, go_sem, u0, u1, u2, u3]) rfl ?_
            exact tokOk_bad HB.out rfl _ _ _ Bt.out
          · cases z
            · have Bt := hidB (box_one w (.cells #[.int .u8 0, .int .i64 0, .string ⟨#[]⟩, .float .f64 0] 25))
              have TK := hidB (Bk.new w 25 #[.int .u8 0, .int .i64 0, .string ⟨#[]⟩, .float .f64 0])
              go_enter Tryd.func36, Tryd.ntmps36
              go_wp2_with fail
              refine (K.out _).mono ?_; rintro e w1 ⟨rfl, rfl⟩
              go_wp2_with fail
              refine (R.out _).mono ?_; rintro e w1 ⟨rfl, rfl⟩
              go_wp2_with fail
              refine (TR.out _).mono ?_; rintro e w2 ⟨⟨r, rfl, hr⟩, b2⟩
              replace Bt := hidB (grow Bt.out b2)
              replace TK := hidB (TK.out.on b2)
              have hr2 := congrArg (!·) hr
              first | simp only [Bool.not_true] at hr2 | simp only [Bool.not_false] at hr2
              clear b2
              go_wp2_with (first | (refine wpList_load_row (by rfl) 25 (.tmp 2) (by rfl) w.heap.size (by rfl) 25 #[.int .u8 0, .int .i64 0, .string ⟨#[]⟩, .float .f64 0] (0, 0) _ TK.out Tryd.underlying25 (by rfl) (by kernel_rfl) ?_) | (refine wpList_store_row (by rfl) 25 (.tmp 2) (.tmp 73) (by rfl) w.heap.size #[.int .u8 0, .int .i64 0, .string ⟨#[]⟩, .float .f64 0] (by rfl) (by rfl) 25 #[.int .u8 0, .int .i64 0, .string ⟨#[]⟩, .float .f64 0] TK.out (by kernel_rfl) (by rfl) (by kernel_rfl) ?_; rw [setRow_same TK.out]))
              refine (RA2.out _).mono ?_; rintro e w3 ⟨⟨v, rfl, hv⟩, b3⟩
              have Bt := hidB (grow Bt.out b3); replace TK := hidB (TK.out.on b3)
              clear b3 hv
              go_wp2_with (first | (refine wpList_load_row (by rfl) 25 (.tmp 2) (by rfl) w.heap.size (by rfl) 25 #[.int .u8 0, .int .i64 0, .string ⟨#[]⟩, .float .f64 0] (0, 0) _ TK.out Tryd.underlying25 (by rfl) (by kernel_rfl) ?_) | (refine wpList_store_row (by rfl) 25 (.tmp 2) (.tmp 88) (by rfl) w.heap.size #[.int .u8 0, .int .i64 0, .string ⟨#[]⟩, .float .f64 0] (by rfl) (by rfl) 25 #[.int .u8 0, .int .i64 0, .string ⟨#[]⟩, .float .f64 0] TK.out (by kernel_rfl) (by rfl) (by kernel_rfl) ?_; rw [setRow_same TK.out]))
              obtain ⟨u0, u1, u2, u3, fu⟩ := TK.out.four
              refine bodyPost_ret (v := .tuple #[.agg #[.int .u8 0, .int .i64 0, .string ⟨#[]⟩, .float .f64 0], .int .i64 0, .bool false]) (by simp [results, Tryd.results36, go_sem, u0, u1, u2, u3]) rfl ?_
              exact tokOk_bad HB.out rfl _ _ _ Bt.out
            · have Bt := hidB (box_one w (.cells #[.int .u8 0, .int .i64 0, .string ⟨#[]⟩, .float .f64 0] 25))
              have TK := hidB (Bk.new w 25 #[.int .u8 0, .int .i64 0, .string ⟨#[]⟩, .float .f64 0])
              go_enter Tryd.func36, Tryd.ntmps36
              go_wp2_with fail
              refine (K.out _).mono ?_; rintro e w1 ⟨rfl, rfl⟩
              go_wp2_with fail
              refine (R.out _).mono ?_; rintro e w1 ⟨rfl, rfl⟩
              go_wp2_with fail
              refine (TR.out _).mono ?_; rintro e w2 ⟨⟨r, rfl, hr⟩, b2⟩
              replace Bt := hidB (grow Bt.out b2)
              replace TK := hidB (TK.out.on b2)
              have hr2 := congrArg (!·) hr
              first | simp only [Bool.not_true] at hr2 | simp only [Bool.not_false] at hr2
              clear b2
              go_wp2_with (first | (refine wpList_load_row (by rfl) 25 (.tmp 2) (by rfl) w.heap.size (by rfl) 25 #[.int .u8 0, .int .i64 0, .string ⟨#[]⟩, .float .f64 0] (0, 0) _ TK.out Tryd.underlying25 (by rfl) (by kernel_rfl) ?_) | (refine wpList_store_row (by rfl) 25 (.tmp 2) (.tmp 73) (by rfl) w.heap.size #[.int .u8 0, .int .i64 0, .string ⟨#[]⟩, .float .f64 0] (by rfl) (by rfl) 25 #[.int .u8 0, .int .i64 0, .string ⟨#[]⟩, .float .f64 0] TK.out (by kernel_rfl) (by rfl) (by kernel_rfl) ?_; rw [setRow_same TK.out]))
              refine (RA2.out _).mono ?_; rintro e w3 ⟨⟨v, rfl, hv⟩, b3⟩
              have Bt := hidB (grow Bt.out b3); replace TK := hidB (TK.out.on b3)
              clear b3 hv
              go_wp2_with (first | (refine wpList_load_row (by rfl) 25 (.tmp 2) (by rfl) w.heap.size (by rfl) 25 #[.int .u8 0, .int .i64 0, .string ⟨#[]⟩, .float .f64 0] (0, 0) _ TK.out Tryd.underlying25 (by rfl) (by kernel_rfl) ?_) | (refine wpList_store_row (by rfl) 25 (.tmp 2) (.tmp 88) (by rfl) w.heap.size #[.int .u8 0, .int .i64 0, .string ⟨#[]⟩, .float .f64 0] (by rfl) (by rfl) 25 #[.int .u8 0, .int .i64 0, .string ⟨#[]⟩, .float .f64 0] TK.out (by kernel_rfl) (by rfl) (by kernel_rfl) ?_; rw [setRow_same TK.out]))
              obtain ⟨u0, u1, u2, u3, fu⟩ := TK.out.four
              refine bodyPost_ret (v := .tuple #[.agg #[.int .u8 0, .int .i64 0, .string ⟨#[]⟩, .float .f64 0], .int .i64 0, .bool false]) (by simp [results, Tryd.results36, go_sem, u0, u1, u2, u3]) rfl ?_
              exact tokOk_bad HB.out rfl _ _ _ Bt.out
        · rw [if_neg c4] at RA2
          have HO : Hid (tokR s.data.toList = ⟨true, 3, [], worth u, n⟩) := hidB (by
            rw [HT.out, if_neg]
            rintro (h | h | h | h)
            · rw [HD.out] at h; cases h
            · exact N1.out h
            · exact c3 h
            · exact c4 h)
          have hsafe : worth u ≤ 9007199254740991 := by omega
          have HS := hidB hsafe
          clear c4 hsafe
          have z0 : (z = false) ∨ (z = true ∧ ¬ (1 : Int) < (n : Int)) := by
            cases z
            · exact Or.inl rfl
            · rcases c2 with h | h
              · cases h
              · exact Or.inr ⟨rfl, h⟩
          clear c2
          rcases z0 with rfl | ⟨rfl, c5⟩
          · have Bt := hidB (box_one w (.cells #[.int .u8 0, .int .i64 0, .string ⟨#[]⟩, .float .f64 0] 25))
            have TK := hidB (Bk.new w 25 #[.int .u8 0, .int .i64 0, .string ⟨#[]⟩, .float .f64 0])
            go_enter Tryd.func36, Tryd.ntmps36
            go_wp2_with fail
            refine (K.out _).mono ?_; rintro e w1 ⟨rfl, rfl⟩
            go_wp2_with fail
            refine (R.out _).mono ?_; rintro e w1 ⟨rfl, rfl⟩
            go_wp2_with fail
            refine (TR.out _).mono ?_; rintro e w2 ⟨⟨r, rfl, hr⟩, b2⟩
            replace Bt := hidB (grow Bt.out b2)
            replace TK := hidB (TK.out.on b2)
            have hr2 := congrArg (!·) hr
            first | simp only [Bool.not_true] at hr2 | simp only [Bool.not_false] at hr2
            clear b2
            go_wp2_with (first | (refine wpList_load_row (by rfl) 25 (.tmp 2) (by rfl) w.heap.size (by rfl) 25 #[.int .u8 0, .int .i64 0, .string ⟨#[]⟩, .float .f64 0] (0, 0) _ TK.out Tryd.underlying25 (by rfl) (by kernel_rfl) ?_) | (refine wpList_store_row (by rfl) 25 (.tmp 2) (.tmp 73) (by rfl) w.heap.size #[.int .u8 0, .int .i64 0, .string ⟨#[]⟩, .float .f64 0] (by rfl) (by rfl) 25 #[.int .u8 0, .int .i64 0, .string ⟨#[]⟩, .float .f64 0] TK.out (by kernel_rfl) (by rfl) (by kernel_rfl) ?_; rw [setRow_same TK.out]))
            refine (RA2.out _).mono ?_; rintro e w3 ⟨⟨v, rfl, hv⟩, b3⟩
            have Bt := hidB (grow Bt.out b3); replace TK := hidB (TK.out.on b3)
            have MV := hidB (fun W => may_any v W)
            rw [may_is hv HS.out] at MV
            have HV := hidB hv
            clear b3 hv
            go_wp2_with fail
            refine (MV.out _).mono ?_; rintro e w4 ⟨rfl, rfl⟩
            have TV := hidB (TK.out.setRow #[.int .u8 3, .int .i64 0, .string ⟨#[]⟩, .float .f64 v])
            go_wp2_with (first | (refine wpList_store_row (by rfl) 25 (.tmp 2) (.tmp 90) (by rfl) w.heap.size #[.int .u8 3, .int .i64 0, .string ⟨#[]⟩, .float .f64 v] (by rfl) (by rfl) 25 #[.int .u8 0, .int .i64 0, .string ⟨#[]⟩, .float .f64 0] TK.out (by kernel_rfl) (by rfl) (by kernel_rfl) ?_) | (refine wpList_load_row (by rfl) 25 (.tmp 2) (by rfl) w.heap.size (by rfl) 25 #[.int .u8 3, .int .i64 0, .string ⟨#[]⟩, .float .f64 v] (0, 0) _ TV.out Tryd.underlying25 (by rfl) (by kernel_rfl) ?_) | (refine wpList_store_row (by rfl) 25 (.tmp 2) (.tmp 118) (by rfl) w.heap.size #[.int .u8 3, .int .i64 0, .string ⟨#[]⟩, .float .f64 v] (by rfl) (by rfl) 25 #[.int .u8 3, .int .i64 0, .string ⟨#[]⟩, .float .f64 v] TV.out (by kernel_rfl) (by rfl) (by kernel_rfl) ?_; rw [setRow_same TV.out]))
            obtain ⟨u0, u1, u2, u3, fu⟩ := TV.out.four
            refine bodyPost_ret (v := .tuple #[.agg #[.int .u8 3, .int .i64 0, .string ⟨#[]⟩, .float .f64 v], .int .i64 n, .bool true]) (by simp [results, Tryd.results36, go_sem, u0, u1, u2, u3]) rfl ?_
            exact tokOk_ok HO.out rfl rfl rfl rfl HV.out (below_setRow Bt.out (Nat.le_refl _) _)
          · have Bt := hidB (box_one w (.cells #[.int .u8 0, .int .i64 0, .string ⟨#[]⟩, .float .f64 0] 25))
            have TK := hidB (Bk.new w 25 #[.int .u8 0, .int .i64 0, .string ⟨#[]⟩, .float .f64 0])
            go_enter Tryd.func36, Tryd.ntmps36
            go_wp2_with fail
            refine (K.out _).mono ?_; rintro e w1 ⟨rfl, rfl⟩
            go_wp2_with fail
            refine (R.out _).mono ?_; rintro e w1 ⟨rfl, rfl⟩
            go_wp2_with fail
            refine (TR.out _).mono ?_; rintro e w2 ⟨⟨r, rfl, hr⟩, b2⟩
            replace Bt := hidB (grow Bt.out b2)
            replace TK := hidB (TK.out.on b2)
            have hr2 := congrArg (!·) hr
            first | simp only [Bool.not_true] at hr2 | simp only [Bool.not_false] at hr2
            clear b2
            go_wp2_with (first | (refine wpList_load_row (by rfl) 25 (.tmp 2) (by rfl) w.heap.size (by rfl) 25 #[.int .u8 0, .int .i64 0, .string ⟨#[]⟩, .float .f64 0] (0, 0) _ TK.out Tryd.underlying25 (by rfl) (by kernel_rfl) ?_) | (refine wpList_store_row (by rfl) 25 (.tmp 2) (.tmp 73) (by rfl) w.heap.size #[.int .u8 0, .int .i64 0, .string ⟨#[]⟩, .float .f64 0] (by rfl) (by rfl) 25 #[.int .u8 0, .int .i64 0, .string ⟨#[]⟩, .float .f64 0] TK.out (by kernel_rfl) (by rfl) (by kernel_rfl) ?_; rw [setRow_same TK.out]))
            refine (RA2.out _).mono ?_; rintro e w3 ⟨⟨v, rfl, hv⟩, b3⟩
            have Bt := hidB (grow Bt.out b3); replace TK := hidB (TK.out.on b3)
            have MV := hidB (fun W => may_any v W)
            rw [may_is hv HS.out] at MV
            have HV := hidB hv
            clear b3 hv
            go_wp2_with fail
            refine (MV.out _).mono ?_; rintro e w4 ⟨rfl, rfl⟩
            have TV := hidB (TK.out.setRow #[.int .u8 3, .int .i64 0, .string ⟨#[]⟩, .float .f64 v])
            go_wp2_with (first | (refine wpList_store_row (by rfl) 25 (.tmp 2) (.tmp 90) (by rfl) w.heap.size #[.int .u8 3, .int .i64 0, .string ⟨#[]⟩, .float .f64 v] (by rfl) (by rfl) 25 #[.int .u8 0, .int .i64 0, .string ⟨#[]⟩, .float .f64 0] TK.out (by kernel_rfl) (by rfl) (by kernel_rfl) ?_) | (refine wpList_load_row (by rfl) 25 (.tmp 2) (by rfl) w.heap.size (by rfl) 25 #[.int .u8 3, .int .i64 0, .string ⟨#[]⟩, .float .f64 v] (0, 0) _ TV.out Tryd.underlying25 (by rfl) (by kernel_rfl) ?_) | (refine wpList_store_row (by rfl) 25 (.tmp 2) (.tmp 118) (by rfl) w.heap.size #[.int .u8 3, .int .i64 0, .string ⟨#[]⟩, .float .f64 v] (by rfl) (by rfl) 25 #[.int .u8 3, .int .i64 0, .string ⟨#[]⟩, .float .f64 v] TV.out (by kernel_rfl) (by rfl) (by kernel_rfl) ?_; rw [setRow_same TV.out]))
            obtain ⟨u0, u1, u2, u3, fu⟩ := TV.out.four
            refine bodyPost_ret (v := .tuple #[.agg #[.int .u8 3, .int .i64 0, .string ⟨#[]⟩, .float .f64 v], .int .i64 n, .bool true]) (by simp [results, Tryd.results36, go_sem, u0, u1, u2, u3]) rfl ?_
            exact tokOk_ok HO.out rfl rfl rfl rfl HV.out (below_setRow Bt.out (Nat.le_refl _) _)

end Go.Proofs.YtkomjmgmancinaaDoor
