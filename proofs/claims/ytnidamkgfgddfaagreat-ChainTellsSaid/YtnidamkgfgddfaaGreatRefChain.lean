/-
  The reference looks through proxies.
-/
import Derived.Test.YtnidamkgfgddfaaGreatRefLike
namespace Go.Proofs.YtnidamkgfgddfaaGreat
open Go.RowKit

theorem chkH_two (h : HI) : chkH h = 0 ∨ chkH h = 9 := by
  unfold chkH heapE
  split
  · exact Or.inr rfl
  · split <;> simp
theorem askE_one (h : HI) (n : Int) : askE h [n] = if chkH h = 0 then (if 0 ≤ n ∧ n < (h.length : Int) then 0 else 2) else 9 := by
  unfold askE
  rcases chkH_two h with h1 | h1 <;> rw [h1]
  · by_cases h2 : 0 ≤ n ∧ n < (h.length : Int)
    · rw [if_pos rfl, if_pos rfl, if_pos h2, if_pos (by simp [h2.1, h2.2])]
    · rw [if_pos rfl, if_pos rfl, if_neg h2, if_neg]
      intro hh
      simp only [List.all_cons, List.all_nil, Bool.and_true, Bool.and_eq_true, decide_eq_true_eq] at hh
      exact h2 hh
  · simp
set_option maxHeartbeats 8000000 in
set_option maxRecDepth 100000 in
theorem rliveAt_any (h : HI) (hv : Value) (n : Nat) (hn : n < h.length) (w : World) (hr : RdH h hv w) : Calls Tryz.prog 33 #[.agg #[hv], .int .i64 n] w fun e w' => e = .returned (.bool (liveB (objAt h n))) ∧ Below w.heap.size w w' := by
  have HOE := hidB (objAt_lt hn)
  obtain ⟨⟨pa, c, rfl, h1, h2, h3⟩, _⟩ := hr
  unfold maxLen at h2
  have hlm : h.length ≤ 9223372036854775807 := by omega
  obtain ⟨g, o, rfl, hg, hcell⟩ := h3 (by omega)
  have HR := hidB (fun W (hb : Below w.heap.size w W) => rangeOn hb hg (hcell n hn))
  have hx1 : (n : Int) < (h.length : Int) := by omega
  have hx2 : (0 : Int) ≤ (n : Int) := by omega
  clear h3 hg hcell
  generalize (h[n]'hn) = e0 at *
  rw [HOE.out]
  clear HOE
  have Y := hidB (show Bk (w.alloc (.cells (#[.slice (some ⟨g, o, none⟩) h.length c]) 24)) (w.heap.size) 24 (#[.slice (some ⟨g, o, none⟩) h.length c]) from Bk.new w _ _)
  have B := hidB (show Below w.heap.size w (w.alloc (.cells (#[.slice (some ⟨g, o, none⟩) h.length c]) 24)) from box_one w _)
  go_enter Tryz.func33, Tryz.ntmps33
  go_upto_region 1 with fail
  generalize hW : (w.alloc (.cells (#[.slice (some ⟨g, o, none⟩) h.length c]) 24)) = w1 at *
  clear hW
  have y0 : w1.cell? ⟨w.heap.size, 0, none⟩ = some (.slice (some ⟨g, o, none⟩) h.length c) := Y.out.cell 0
  have HRR := HR.out w1 B.out
  have z0 : w1.cell? ⟨g, o + n * 18, none⟩ = some (.int .u8 e0.1.kd) := HRR 0 _ rfl
  have z7 : w1.cell? ⟨g, o + n * 18 + 7, none⟩ = some (.int .u8 e0.1.tg.k) := HRR 7 _ rfl
  clear HRR
  by_cases hk : e0.1.kd = 6
  rotate_left
  · have hkb : (e0.1.kd == 6) = false := by rw [beq_eq_false_iff_ne]; exact hk
    have HK := hidB hkb
    go_wp2_with fail
    go_ret
    exact ⟨ret_bool (by unfold liveB; rw [HK.out]; rfl), B.out⟩
  have HK := hidB (show (e0.1.kd == 6) = true by rw [beq_iff_eq]; exact hk)
  rw [hk] at z0
  clear hk
  by_cases ht : e0.1.tg.k = 1
  · have HT := hidB (show (e0.1.tg.k == 1) = true by rw [beq_iff_eq]; exact ht)
    rw [ht] at z7
    clear ht
    go_wp2_with fail
    go_ret
    exact ⟨ret_bool (by unfold liveB; rw [HK.out, HT.out]; rfl), B.out⟩
  · have htb : (e0.1.tg.k == 1) = false := by rw [beq_eq_false_iff_ne]; exact ht
    have HT := hidB htb
    have htn : (e0.1.tg.k != 1) = true := by rw [bne, htb]; rfl
    clear ht
    go_wp2_with fail
    go_ret
    exact ⟨ret_bool (by unfold liveB; rw [HK.out, HT.out]; rfl), B.out⟩
set_option maxHeartbeats 8000000 in
set_option maxRecDepth 100000 in
theorem rcut_any (h : HI) (hv : Value) (n : Nat) (hn : n < h.length) (w : World) (hr : RdH h hv w) : Calls Tryz.prog 26 #[.agg #[hv], .int .i64 n] w fun e w' => e = .returned (.bool (goneB (objAt h n))) ∧ Below w.heap.size w w' := by
  have HOE := hidB (objAt_lt hn)
  obtain ⟨⟨pa, c, rfl, h1, h2, h3⟩, _⟩ := hr
  unfold maxLen at h2
  have hlm : h.length ≤ 9223372036854775807 := by omega
  obtain ⟨g, o, rfl, hg, hcell⟩ := h3 (by omega)
  have HR := hidB (fun W (hb : Below w.heap.size w W) => rangeOn hb hg (hcell n hn))
  have hx1 : (n : Int) < (h.length : Int) := by omega
  have hx2 : (0 : Int) ≤ (n : Int) := by omega
  clear h3 hg hcell
  generalize (h[n]'hn) = e0 at *
  rw [HOE.out]
  clear HOE
  have Y := hidB (show Bk (w.alloc (.cells (#[.slice (some ⟨g, o, none⟩) h.length c]) 24)) (w.heap.size) 24 (#[.slice (some ⟨g, o, none⟩) h.length c]) from Bk.new w _ _)
  have B := hidB (show Below w.heap.size w (w.alloc (.cells (#[.slice (some ⟨g, o, none⟩) h.length c]) 24)) from box_one w _)
  go_enter Tryz.func26, Tryz.ntmps26
  go_upto_region 1 with fail
  generalize hW : (w.alloc (.cells (#[.slice (some ⟨g, o, none⟩) h.length c]) 24)) = w1 at *
  clear hW
  have y0 : w1.cell? ⟨w.heap.size, 0, none⟩ = some (.slice (some ⟨g, o, none⟩) h.length c) := Y.out.cell 0
  have HRR := HR.out w1 B.out
  have z0 : w1.cell? ⟨g, o + n * 18, none⟩ = some (.int .u8 e0.1.kd) := HRR 0 _ rfl
  have z7 : w1.cell? ⟨g, o + n * 18 + 7, none⟩ = some (.int .u8 e0.1.tg.k) := HRR 7 _ rfl
  clear HRR
  by_cases hk : e0.1.kd = 6
  rotate_left
  · have hkb : (e0.1.kd == 6) = false := by rw [beq_eq_false_iff_ne]; exact hk
    have HK := hidB hkb
    go_wp2_with fail
    go_ret
    exact ⟨ret_bool (by unfold goneB; rw [HK.out]; rfl), B.out⟩
  have HK := hidB (show (e0.1.kd == 6) = true by rw [beq_iff_eq]; exact hk)
  rw [hk] at z0
  clear hk
  by_cases ht : e0.1.tg.k = 1
  · have HT := hidB (show (e0.1.tg.k == 1) = true by rw [beq_iff_eq]; exact ht)
    rw [ht] at z7
    clear ht
    go_wp2_with fail
    go_ret
    exact ⟨ret_bool (by unfold goneB; rw [HK.out, HT.out]; rfl), B.out⟩
  · have htb : (e0.1.tg.k == 1) = false := by rw [beq_eq_false_iff_ne]; exact ht
    have HT := hidB htb
    have htn : (e0.1.tg.k != 1) = true := by rw [bne, htb]; rfl
    clear ht
    go_wp2_with fail
    go_ret
    exact ⟨ret_bool (by unfold goneB; rw [HK.out, HT.out]; rfl), B.out⟩
set_option maxHeartbeats 8000000 in
set_option maxRecDepth 100000 in
theorem rasked_any (h : HI) (hok : HOk h) (hk : HKeys h) (hby : HBytes h) (hv : Value) (n : Int) (w : World) (hr : RdH h hv w) : Calls Tryz.prog 25 #[.agg #[hv], .int .i64 n] w fun e w' => e = .returned (.int .i64 (askE h [n])) ∧ Below w.heap.size w w' := by
  have MH := hidB (fun W (hb : Below w.heap.size w W) => rmayH_any h hok hk hby hv W (hr.on hb))
  obtain ⟨⟨pa, c, rfl, h1, h2, h3⟩, _⟩ := hr
  unfold maxLen at h2
  have hlm : h.length ≤ 9223372036854775807 := by omega
  have HAS := hidB (askE_one h n)
  clear hok hk hby h3
  generalize askE h [n] = res at *
  have Y := hidB (show Bk (w.alloc (.cells (#[(.slice pa h.length c)]) 24)) (w.heap.size) 24 (#[(.slice pa h.length c)]) from Bk.new w _ _)
  have B := hidB (show Below w.heap.size w (w.alloc (.cells (#[(.slice pa h.length c)]) 24)) from box_one w _)
  go_enter Tryz.func25, Tryz.ntmps25
  go_upto_region 1 with fail
  generalize hW : (w.alloc (.cells (#[(.slice pa h.length c)]) 24)) = w1 at *
  clear hW
  go_wp2_with (first | ((with_reducible refine ldId 24 (.tmp 2) ?_); refine wpList_load_row (by rfl) 24 (.tmp 2) (by rfl) (w.heap.size) (by rfl) 24 (#[(.slice pa h.length c)]) (0, 0) _ (by exact Y.out) Tryz.underlying24 (by rfl) (by kernel_rfl) ?_))
  refine (MH.out _ B.out).mono ?_; rintro e w2 ⟨rfl, hb⟩
  replace Y := hidB (Y.out.on hb); replace B := hidB (B.out.trans (hb.mono B.out.size)); clear hb
  have y0 : w2.cell? ⟨w.heap.size, 0, none⟩ = some (.slice pa h.length c) := Y.out.cell 0
  have HCT := hidB (chkH_two h)
  generalize chkH h = ch at *
  rcases HCT.out with rfl | rfl
  rotate_left
  · skip
    go_wp2_with fail
    all_goals first | (exfalso; omega) | (go_ret; exact ⟨by rw [HAS.out]; first | rfl | (simp), B.out⟩)
  by_cases hn0 : n < 0
  · have HN := hidB hn0
    go_wp2_with fail
    all_goals first | (exfalso; omega) | (go_ret; exact ⟨by rw [HAS.out]; first | rfl | (rw [if_pos trivial, if_neg (by have := HN.out; omega)]; rfl), B.out⟩)
  skip
  by_cases hn2 : (h.length : Int) ≤ n
  · have HN := hidB hn2
    go_wp2_with fail
    all_goals first | (exfalso; omega) | (go_ret; exact ⟨by rw [HAS.out]; first | rfl | (rw [if_pos trivial, if_neg (by have := HN.out; omega)]; rfl), B.out⟩)
  have HN : Hid (0 ≤ n ∧ n < (h.length : Int)) := hidB ⟨by omega, by omega⟩
  go_wp2_with fail
  all_goals first | (exfalso; omega) | (go_ret; exact ⟨by rw [HAS.out]; first | rfl | (rw [if_pos trivial, if_pos HN.out]; rfl), B.out⟩)
set_option maxHeartbeats 8000000 in
set_option maxRecDepth 100000 in
theorem rdown_any (h : HI) (hf : FallH h) (hm4 : h.length ≤ 4096) (hv : Value) (n : Nat) (hn : n < h.length) (w : World) (hr : RdH h hv w) : Calls Tryz.prog 30 #[.agg #[hv], .int .i64 n] w fun e w' => ∃ v, e = .returned v ∧ w'.ownsRow w.heap.size 3 1 v (dwn h n).length (nats (dwn h n)) ∧ Below w.heap.size w w' := by
  have LV := hidB (fun (m : Nat) (hm : m < h.length) W (hb : Below w.heap.size w W) => rliveAt_any h hv m hm W (hr.on hb))
  have HRD := hidB (fun W (hb : Below w.heap.size w W) => hr.on hb)
  obtain ⟨⟨pa, c, rfl, h1, h2, h3⟩, _⟩ := hr
  unfold maxLen at h2
  have hlm : h.length ≤ 9223372036854775807 := by omega
  have HFA := hidB hf
  have HN4 := hidB hm4
  clear hf hm4 h3
  have Y := hidB (show Bk (w.alloc (.cells (#[(.slice pa h.length c)]) 24)) (w.heap.size) 24 (#[(.slice pa h.length c)]) from Bk.new w _ _)
  have B := hidB (show Below w.heap.size w (w.alloc (.cells (#[(.slice pa h.length c)]) 24)) from box_one w _)
  go_enter Tryz.func30, Tryz.ntmps30
  go_upto_region 1 with fail
  generalize hW : (w.alloc (.cells (#[(.slice pa h.length c)]) 24)) = w1 at *
  clear hW
  go_wp2_with fail
  go_loopg [1, 5] n (fun k s1 s5 wr => ∃ (m : Nat) (acc : List Nat), m = k ∧ m < h.length ∧ acc.length + m ≤ n ∧ s1 = .int .i64 m ∧ wr.ownsRow w.heap.size 3 1 s5 acc.length (nats acc) ∧ dwn h n = acc ++ dwn h m ∧ Bk wr w.heap.size 24 #[(.slice pa h.length c)] ∧ Below w.heap.size w wr)
  case atStart => exact ⟨n, [], rfl, hn, by simp, rfl, World.ownsRow_nil _ _ _ _, rfl, Y.out, B.out⟩
  case round =>
    clear Y B
    obtain ⟨m, acc, rfl, hm, hle, rfl, hown, hd, hY, hb⟩ := hrel
    have Y := hidB hY
    have B := hidB hb
    have HO := hidB hown
    have HD := hidB hd
    clear hY hb hd
    obtain ⟨q, ca, hsl⟩ := own_sliceH hown
    subst hsl
    clear hown
    have hx1 : (m : Int) < (h.length : Int) := by omega
    have hx2 : (0 : Int) ≤ (m : Int) := by omega
    go_wp2_with (first | ((with_reducible refine ldId 24 (.tmp 2) ?_); refine wpList_load_row (by rfl) 24 (.tmp 2) (by rfl) (w.heap.size) (by rfl) 24 (#[(.slice pa h.length c)]) (0, 0) _ (by exact Y.out) Tryz.underlying24 (by rfl) (by kernel_rfl) ?_))
    refine (LV.out m hm _ B.out).mono ?_; rintro e w5 ⟨rfl, hb⟩
    replace Y := hidB (Y.out.on hb); replace HO := hidB (own_onH HO.out hb); replace B := hidB (B.out.trans (hb.mono B.out.size)); clear hb
    cases hlv : liveB (objAt h m)
    · have HDW := hidB (show dwn h n = acc by rw [HD.out, (dwn_dead hlv).1, List.append_nil])
      go_wp2_with fail
      go_ret
      exact ⟨_, rfl, by rw [HDW.out]; exact HO.out, B.out⟩
    have HLV := hidB (dwn_live HFA.out hm hlv)
    have HF := hidB (HFA.out m hm hlv)
    have HRW := HRD.out _ B.out
    obtain ⟨g, o, rfl, hgl, hrow⟩ := rd_rowH HRW hm
    have HOA := hidB (objAt_lt hm)
    rw [HOA.out] at HLV HF
    generalize (h[m]'hm) = e0 at *
    obtain ⟨r, hr⟩ : ∃ r : Nat, e0.1.tg.r = (r : Int) := ⟨e0.1.tg.r.toNat, by have := HF.out.1; omega⟩
    rw [hr, Int.toNat_natCast] at HLV HF
    have hrm := HF.out.2
    have z10 : w5.cell? ⟨g, o + m * 18 + 10, none⟩ = some (.int .i64 (r : Int)) := hr ▸ hrow 10 _ rfl
    have z73 : w5.cell? ⟨g, o + m * 18 + 7 + 3, none⟩ = some (.int .i64 (r : Int)) := z10
    have y0 : w5.cell? ⟨w.heap.size, 0, none⟩ = some (.slice (some ⟨g, o, none⟩) h.length c) := Y.out.cell 0
    obtain ⟨i0, hi, hz0, hz1, hz2⟩ := info_parts info_intC
    have hlen4 := HN4.out
    clear hr hrow hgl HRW hlv HOA
    go_upto_region 4 with fail
    clear z10 z73 y0
    have NB := hidB (show Bk (w5.alloc (.cells #[.int .i64 (r : Int)] 3)) w5.heap.size 3 #[.int .i64 (r : Int)] from Bk.new w5 _ _)
    replace HO := hidB (show (w5.alloc (.cells #[.int .i64 (r : Int)] 3)).ownsRow w.heap.size 3 1 (.slice q acc.length ca) acc.length (nats acc) from own_onH HO.out (box_one w5 _))
    replace Y := hidB (show Bk (w5.alloc (.cells #[.int .i64 (r : Int)] 3)) w.heap.size 24 #[(.slice (some ⟨g, o, none⟩) h.length c)] from Y.out.alloc _)
    replace B := hidB (show Below w.heap.size w (w5.alloc (.cells #[.int .i64 (r : Int)] 3)) from B.out.alloc B.out.size _)
    go_wp2_with (first | ((with_reducible refine wpId ?_); refine wpList_mkSliceH (by rfl) 32 3 1 1 _ (by rfl) [(0, .int .i64 (r : Int))] (by kernel_rfl) (.int .i64 0) #[.int .i64 (r : Int)] Tryz.underlying32 (by kernel_rfl) (by decide) (by decide) (by kernel_rfl) ?_) | (at_builtin; refine wpList_append_own _ (by rfl) (.tmp 16) (.tmp 18) 32 (by rfl) w.heap.size 3 i0 (.int .i64 0) 1 8 Tryz.underlying32 hi hz0 hz1 hz2 (by rfl) (by decide) (.slice q acc.length ca) acc.length (nats acc) (by rfl) HO.out ⟨w5.heap.size, 0, none⟩ 1 1 [.int .i64 (r : Int)] (by rfl) (by rfl) (bk_cellsH NB.out) (fun u hu => by simp at hu; subst hu; rfl) (by unfold maxLen; omega) (by omega) (by have := B.out.size; exact this) ?_; intro v' w9 hown' hgrow _))
    have HO9 := hidB (show w9.ownsRow w.heap.size 3 1 v' (acc ++ [r]).length (nats (acc ++ [r])) by rw [List.length_append, nats, List.map_append]; exact hown')
    have Y9 := hidB (show Bk w9 w.heap.size 24 #[(.slice (some ⟨g, o, none⟩) h.length c)] from (hgrow.block _ Y.out.lt (fun e => own_ne_typeH HO.out (by decide) Y.out e.symm)).trans Y.out)
    have B9 := hidB (show Below w.heap.size w w9 from B.out.grown hgrow (by have := B.out.size; exact this) (fun j hj => (HO.out.lt j hj).1))
    have HD9 := hidB (show dwn h n = (acc ++ [r]) ++ dwn h r by rw [HD.out, HLV.out.1, List.append_assoc]; rfl)
    clear hown' hgrow HO Y B NB
    go_wp2_with fail
    go_roundg r
    case measure => exact hrm
    case rel => exact ⟨r, acc ++ [r], rfl, by omega, by simp; omega, rfl, HO9.out, HD9.out, Y9.out, B9.out⟩
set_option maxHeartbeats 8000000 in
set_option maxRecDepth 100000 in
theorem rlast_any (n : Nat) (l : List Nat) (x : Nat) (hx : (n :: l)[l.length]? = some x) (v : Value) (w : World) (hr : RdN l v w) : Calls Tryz.prog 31 #[.int .i64 n, v] w fun e w' => e = .returned (.int .i64 x) ∧ Below w.heap.size w w' := by
  obtain ⟨pa, c, rfl, h1, h3⟩ := hr
  unfold maxLen at h1
  have hlm : l.length ≤ 9223372036854775807 := by omega
  by_cases h0 : l.length = 0
  · obtain rfl : l = [] := List.eq_nil_of_length_eq_zero h0
    have HX : Hid (n = x) := hidB (by simpa using hx)
    clear hx h3 h0
    go_enter Tryz.func31, Tryz.ntmps31
    go_wp2_with fail
    go_ret
    exact ⟨by rw [HX.out]; rfl, Below.refl _ _⟩
  obtain ⟨g, o, rfl, hg, hcell⟩ := h3 (by omega)
  obtain ⟨k, hk⟩ : ∃ k, l.length = k + 1 := ⟨l.length - 1, by omega⟩
  have hkl : k < l.length := by omega
  have z0 : w.cell? ⟨g, o + k, none⟩ = some (.int .i64 (l[k] : Int)) := hcell k hkl
  have HX : Hid (l[k]'hkl = x) := hidB (by rw [hk, List.getElem?_cons_succ, List.getElem?_eq_getElem hkl] at hx; exact Option.some.inj hx)
  clear hx hcell h3 hg
  generalize l[k]'hkl = y at *
  have hz : ((l.length : Int) == 0) = false := by rw [beq_eq_false_iff_ne]; omega
  have hs : (l.length : Int) - 1 = (k : Int) := by omega
  have hx1 : (k : Int) < (l.length : Int) := by omega
  have hx2 : (0 : Int) ≤ (k : Int) := by omega
  clear h0 hk
  go_enter Tryz.func31, Tryz.ntmps31
  go_wp2_with fail
  go_ret
  exact ⟨by rw [HX.out]; rfl, Below.refl _ _⟩
set_option maxHeartbeats 8000000 in
set_option maxRecDepth 100000 in
theorem rDown_any (h : HI) (hok : HOk h) (hk : HKeys h) (hby : HBytes h) (hv : Value) (n : Int) (w : World) (hr : RdH h hv w) : Calls Tryz.prog 11 #[.agg #[hv], .int .i64 n] w (DownQ h n w) := by
  have AS := hidB (fun W (hb : Below w.heap.size w W) => rasked_any h hok hk hby hv n W (hr.on hb))
  have HRD := hidB (fun W (hb : Below w.heap.size w W) => hr.on hb)
  obtain ⟨⟨pa, c, rfl, h1, h2, h3⟩, _⟩ := hr
  unfold maxLen at h2
  have hlm : h.length ≤ 9223372036854775807 := by omega
  clear hok hk hby h3
  have Y := hidB (show Bk (w.alloc (.cells (#[(.slice pa h.length c)]) 24)) (w.heap.size) 24 (#[(.slice pa h.length c)]) from Bk.new w _ _)
  have B := hidB (show Below w.heap.size w (w.alloc (.cells (#[(.slice pa h.length c)]) 24)) from box_one w _)
  go_enter Tryz.func11, Tryz.ntmps11
  go_upto_region 1 with fail
  generalize hW : (w.alloc (.cells (#[(.slice pa h.length c)]) 24)) = w1 at *
  clear hW
  go_wp2_with (first | ((with_reducible refine ldId 24 (.tmp 2) ?_); refine wpList_load_row (by rfl) 24 (.tmp 2) (by rfl) (w.heap.size) (by rfl) 24 (#[(.slice pa h.length c)]) (0, 0) _ (by exact Y.out) Tryz.underlying24 (by rfl) (by kernel_rfl) ?_))
  refine (AS.out _ B.out).mono ?_; rintro e w2 ⟨rfl, hb⟩
  replace Y := hidB (Y.out.on hb); replace B := hidB (B.out.trans (hb.mono B.out.size)); clear hb
  obtain ⟨ck, hck⟩ : ∃ ck, askE h [n] = ck := ⟨_, rfl⟩
  have HCK := hidB hck
  rw [hck]
  clear hck AS
  by_cases h0 : ck = 0
  rotate_left
  · have h0b : (ck == 0) = false := by rw [beq_eq_false_iff_ne]; exact h0
    have h0n : (ck != 0) = true := by rw [bne, h0b]; rfl
    have HN := hidB h0
    clear h0
    go_wp2_with fail
    go_ret3
    exact ⟨B.out, Or.inl ⟨by rw [HCK.out]; exact HN.out, by rw [HCK.out]; rfl⟩⟩
  subst h0
  obtain ⟨hc, hn0, hn1⟩ := askE_ok HCK.out
  obtain ⟨n, rfl⟩ : ∃ k : Nat, n = (k : Int) := ⟨n.toNat, by omega⟩
  have hn : n < h.length := by omega
  have HFA := hidB (fall_of (chkH_ok hc).2.1)
  have HN4 := hidB (chkH_ok hc).1
  have HNN := hidB hn
  have HDA := hidB (dwn_all HFA.out n hn)
  clear hc hn0 hn1 hn
  go_wp2_with (first | ((with_reducible refine ldId 24 (.tmp 2) ?_); refine wpList_load_row (by rfl) 24 (.tmp 2) (by rfl) (w.heap.size) (by rfl) 24 (#[(.slice pa h.length c)]) (0, 0) _ (by exact Y.out) Tryz.underlying24 (by rfl) (by kernel_rfl) ?_))
  refine (rdown_any h HFA.out HN4.out _ n HNN.out _ (HRD.out _ B.out)).mono ?_; rintro e w3 ⟨v, rfl, hown, hb⟩
  replace Y := hidB (Y.out.on hb)
  have HO := hidB (own_baseH hown B.out.size)
  replace B := hidB (B.out.trans (hb.mono B.out.size))
  clear hb
  obtain ⟨q, ca, hsl⟩ := own_sliceH hown
  subst hsl
  clear hown
  go_upto_region 5 with fail
  refine wp_region_noPanic ?_
  refine wp_region_held_drew (S := fun W => Below w.heap.size w W ∧ Bk W w.heap.size 24 #[(.slice pa h.length c)] ∧ W.ownsRow w.heap.size 3 1 (.slice q (dwn h n).length ca) (dwn h n).length (nats (dwn h n))) (by kernel_rfl) ?_ (fun hHeld => ?_)
  · exact ⟨B.out.drew, Y.out.drew, own_onH HO.out (Below.refl _ _).drew⟩
  generalize hWd : w3.drew = wd at *
  clear hWd
  first | (refine wpAnyH_take (i := 0) (v := undef) (by simp only [List.getElem?_toArray, List.getElem?_cons_zero]; exact rfl) (by kernel_rfl) (by kernel_rfl) (by kernel_rfl) (fun _ _ _ h => h) (Or.inr ⟨?_, rfl⟩) (by assumption) ?_; (rfl); try simp only [Act.put, List.setIfInBounds_toArray, List.set_cons_zero, List.set_cons_succ]) | (refine wpAnyH_take (i := 0) (v := ?_) (by simp only [List.getElem?_toArray, List.getElem?_cons_zero]; exact rfl) (by kernel_rfl) (by kernel_rfl) (by kernel_rfl) (fun _ _ _ h => h) (Or.inl ⟨?_, ?_⟩) (by assumption) ?_; rotate_left; (rfl); (focus (intro w hSw; (try dsimp only at hSw); go_simp; try with_reducible rfl)); try simp only [Act.put, List.setIfInBounds_toArray, List.set_cons_zero, List.set_cons_succ])
  (refine wpAnyH_take (i := 1) (v := .agg #[(.slice pa h.length c)]) (by simp only [List.getElem?_toArray, List.getElem?_cons_succ, List.getElem?_cons_zero]; exact rfl) (by kernel_rfl) (by kernel_rfl) (by kernel_rfl) (fun _ _ _ h => h) (yieldsIf_load_mid (by rfl) 24 (.tmp 2) (by rfl) (w.heap.size) (0) (by rfl) ([(.slice pa h.length c)]) _ (fun W hS => Bk.mid hS.2.1 0 _ rfl) Tryz.underlying24 (by rfl) (by kernel_rfl)) (by assumption) ?_; try simp only [Act.put, List.setIfInBounds_toArray, List.set_cons_zero, List.set_cons_succ])
  first | (refine wpAnyH_take (i := 2) (v := undef) (by simp only [List.getElem?_toArray, List.getElem?_cons_succ, List.getElem?_cons_zero]; exact rfl) (by kernel_rfl) (by kernel_rfl) (by kernel_rfl) (fun _ _ _ h => h) (Or.inr ⟨?_, rfl⟩) (by assumption) ?_; (rfl); try simp only [Act.put, List.setIfInBounds_toArray, List.set_cons_zero, List.set_cons_succ]) | (refine wpAnyH_take (i := 2) (v := ?_) (by simp only [List.getElem?_toArray, List.getElem?_cons_succ, List.getElem?_cons_zero]; exact rfl) (by kernel_rfl) (by kernel_rfl) (by kernel_rfl) (fun _ _ _ h => h) (Or.inl ⟨?_, ?_⟩) (by assumption) ?_; rotate_left; (rfl); (focus (intro w hSw; (try dsimp only at hSw); go_simp; try with_reducible rfl)); try simp only [Act.put, List.setIfInBounds_toArray, List.set_cons_zero, List.set_cons_succ])
  first | (refine wpAnyH_take (i := 3) (v := undef) (by simp only [List.getElem?_toArray, List.getElem?_cons_succ, List.getElem?_cons_zero]; exact rfl) (by kernel_rfl) (by kernel_rfl) (by kernel_rfl) (fun _ _ _ h => h) (Or.inr ⟨?_, rfl⟩) (by assumption) ?_; (rfl); try simp only [Act.put, List.setIfInBounds_toArray, List.set_cons_zero, List.set_cons_succ]) | (refine wpAnyH_take (i := 3) (v := ?_) (by simp only [List.getElem?_toArray, List.getElem?_cons_succ, List.getElem?_cons_zero]; exact rfl) (by kernel_rfl) (by kernel_rfl) (by kernel_rfl) (fun _ _ _ h => h) (Or.inl ⟨?_, ?_⟩) (by assumption) ?_; rotate_left; (rfl); (focus (intro w hSw; (try dsimp only at hSw); go_simp; try with_reducible rfl)); try simp only [Act.put, List.setIfInBounds_toArray, List.set_cons_zero, List.set_cons_succ])
  refine wpAnyH_ready (rs := [4]) (by kernel_rfl) (by simp) ?_
  refine AllReadyH.cons rfl (fun K hK => ?_) AllReadyH.nil
  go_simp
  refine (rlast_any n (dwn h n) (lst h n) HDA.out.2.2.1 _ _ (RdN.own hHeld.2.2)).mono ?_; rintro e v5 ⟨rfl, hb⟩
  replace hHeld := And.intro (hHeld.1.trans (hb.mono hHeld.1.size)) (And.intro (hHeld.2.1.on hb) (own_onH hHeld.2.2 hb))
  clear hb
  refine hK.out _ _ hHeld (fun _ => ?_)
  clear hK K
  try simp only [Act.put, List.setIfInBounds_toArray, List.set_cons_zero, List.set_cons_succ]
  refine wpAnyH_ready (rs := [5]) (by kernel_rfl) (by simp) ?_
  refine AllReadyH.cons rfl (fun K hK => ?_) AllReadyH.nil
  go_simp
  refine (rcut_any h _ (lst h n) HDA.out.1 _ (HRD.out _ hHeld.1)).mono ?_; rintro e v6 ⟨rfl, hb⟩
  replace hHeld := And.intro (hHeld.1.trans (hb.mono hHeld.1.size)) (And.intro (hHeld.2.1.on hb) (own_onH hHeld.2.2 hb))
  clear hb
  refine hK.out _ _ hHeld (fun _ => ?_)
  clear hK K
  try simp only [Act.put, List.setIfInBounds_toArray, List.set_cons_zero, List.set_cons_succ]
  first | (refine wpAnyH_take (i := 6) (v := undef) (by simp only [List.getElem?_toArray, List.getElem?_cons_succ, List.getElem?_cons_zero]; exact rfl) (by kernel_rfl) (by kernel_rfl) (by kernel_rfl) (fun _ _ _ h => h) (Or.inr ⟨?_, rfl⟩) (by assumption) ?_; (rfl); try simp only [Act.put, List.setIfInBounds_toArray, List.set_cons_zero, List.set_cons_succ]) | (refine wpAnyH_take (i := 6) (v := ?_) (by simp only [List.getElem?_toArray, List.getElem?_cons_succ, List.getElem?_cons_zero]; exact rfl) (by kernel_rfl) (by kernel_rfl) (by kernel_rfl) (fun _ _ _ h => h) (Or.inl ⟨?_, ?_⟩) (by assumption) ?_; rotate_left; (rfl); (focus (intro w hSw; (try dsimp only at hSw); go_simp; try with_reducible rfl)); try simp only [Act.put, List.setIfInBounds_toArray, List.set_cons_zero, List.set_cons_succ])
  first | (refine wpAnyH_take (i := 7) (v := undef) (by simp only [List.getElem?_toArray, List.getElem?_cons_succ, List.getElem?_cons_zero]; exact rfl) (by kernel_rfl) (by kernel_rfl) (by kernel_rfl) (fun _ _ _ h => h) (Or.inr ⟨?_, rfl⟩) (by assumption) ?_; (rfl); try simp only [Act.put, List.setIfInBounds_toArray, List.set_cons_zero, List.set_cons_succ]) | (refine wpAnyH_take (i := 7) (v := ?_) (by simp only [List.getElem?_toArray, List.getElem?_cons_succ, List.getElem?_cons_zero]; exact rfl) (by kernel_rfl) (by kernel_rfl) (by kernel_rfl) (fun _ _ _ h => h) (Or.inl ⟨?_, ?_⟩) (by assumption) ?_; rotate_left; (rfl); (focus (intro w hSw; (try dsimp only at hSw); go_simp; try with_reducible rfl)); try simp only [Act.put, List.setIfInBounds_toArray, List.set_cons_zero, List.set_cons_succ])
  first | (refine wpAnyH_take (i := 8) (v := undef) (by simp only [List.getElem?_toArray, List.getElem?_cons_succ, List.getElem?_cons_zero]; exact rfl) (by kernel_rfl) (by kernel_rfl) (by kernel_rfl) (fun _ _ _ h => h) (Or.inr ⟨?_, rfl⟩) (by assumption) ?_; (rfl); try simp only [Act.put, List.setIfInBounds_toArray, List.set_cons_zero, List.set_cons_succ]) | (refine wpAnyH_take (i := 8) (v := ?_) (by simp only [List.getElem?_toArray, List.getElem?_cons_succ, List.getElem?_cons_zero]; exact rfl) (by kernel_rfl) (by kernel_rfl) (by kernel_rfl) (fun _ _ _ h => h) (Or.inl ⟨?_, ?_⟩) (by assumption) ?_; rotate_left; (rfl); (focus (intro w hSw; (try dsimp only at hSw); go_simp; try with_reducible rfl)); try simp only [Act.put, List.setIfInBounds_toArray, List.set_cons_zero, List.set_cons_succ])
  refine wpAnyH_done (by kernel_rfl) ?_ _
  refine NoPanic.normal ?_
  go_wp2_with fail
  go_ret3
  exact ⟨hHeld.1, Or.inr ⟨HCK.out, _, rfl, hHeld.2.2⟩⟩
set_option maxHeartbeats 8000000 in
set_option maxRecDepth 100000 in
theorem rdeep_any (h : HI) (hok : HOk h) (hk : HKeys h) (hby : HBytes h) (hv : Value) (n : Int) (w : World) (hr : RdH h hv w) : Calls Tryz.prog 15 #[.agg #[hv], .int .i64 n] w fun e w' => e = .returned (.tuple #[.int .i64 (deepV h n), .int .i64 (askE h [n])]) ∧ Below w.heap.size w w' := by
  have AS := hidB (fun W (hb : Below w.heap.size w W) => rasked_any h hok hk hby hv n W (hr.on hb))
  have HRD := hidB (fun W (hb : Below w.heap.size w W) => hr.on hb)
  obtain ⟨⟨pa, c, rfl, h1, h2, h3⟩, _⟩ := hr
  unfold maxLen at h2
  have hlm : h.length ≤ 9223372036854775807 := by omega
  clear hok hk hby h3
  have Y := hidB (show Bk (w.alloc (.cells (#[(.slice pa h.length c)]) 24)) (w.heap.size) 24 (#[(.slice pa h.length c)]) from Bk.new w _ _)
  have B := hidB (show Below w.heap.size w (w.alloc (.cells (#[(.slice pa h.length c)]) 24)) from box_one w _)
  go_enter Tryz.func15, Tryz.ntmps15
  go_upto_region 1 with fail
  generalize hW : (w.alloc (.cells (#[(.slice pa h.length c)]) 24)) = w1 at *
  clear hW
  go_wp2_with (first | ((with_reducible refine ldId 24 (.tmp 2) ?_); refine wpList_load_row (by rfl) 24 (.tmp 2) (by rfl) (w.heap.size) (by rfl) 24 (#[(.slice pa h.length c)]) (0, 0) _ (by exact Y.out) Tryz.underlying24 (by rfl) (by kernel_rfl) ?_))
  refine (AS.out _ B.out).mono ?_; rintro e w2 ⟨rfl, hb⟩
  replace Y := hidB (Y.out.on hb); replace B := hidB (B.out.trans (hb.mono B.out.size)); clear hb
  obtain ⟨ck, hck⟩ : ∃ ck, askE h [n] = ck := ⟨_, rfl⟩
  have HCK := hidB hck
  rw [hck]
  clear hck AS
  by_cases h0 : ck = 0
  rotate_left
  · have h0b : (ck == 0) = false := by rw [beq_eq_false_iff_ne]; exact h0
    have h0n : (ck != 0) = true := by rw [bne, h0b]; rfl
    have HN := hidB h0
    clear h0
    have HV := hidB (show deepV h n = 0 by unfold deepV; rw [HCK.out, if_neg HN.out])
    go_wp2_with fail
    go_ret2
    exact ⟨by rw [HV.out, HCK.out]; rfl, B.out⟩
  subst h0
  obtain ⟨hc, hn0, hn1⟩ := askE_ok HCK.out
  obtain ⟨n, rfl⟩ : ∃ k : Nat, n = (k : Int) := ⟨n.toNat, by omega⟩
  have hn : n < h.length := by omega
  have HFA := hidB (fall_of (chkH_ok hc).2.1)
  have HN4 := hidB (chkH_ok hc).1
  have HNN := hidB hn
  have HDA := hidB (dwn_all HFA.out n hn)
  clear hc hn0 hn1 hn
  go_wp2_with (first | ((with_reducible refine ldId 24 (.tmp 2) ?_); refine wpList_load_row (by rfl) 24 (.tmp 2) (by rfl) (w.heap.size) (by rfl) 24 (#[(.slice pa h.length c)]) (0, 0) _ (by exact Y.out) Tryz.underlying24 (by rfl) (by kernel_rfl) ?_))
  refine (rdown_any h HFA.out HN4.out _ n HNN.out _ (HRD.out _ B.out)).mono ?_; rintro e w3 ⟨v, rfl, hown, hb⟩
  replace Y := hidB (Y.out.on hb)
  have HO := hidB (own_baseH hown B.out.size)
  replace B := hidB (B.out.trans (hb.mono B.out.size))
  clear hb
  obtain ⟨q, ca, hsl⟩ := own_sliceH hown
  subst hsl
  clear hown
  have HV := hidB (show deepV h (n : Int) = ((dwn h n).length : Int) + (if goneB (objAt h (lst h n)) then 1 else 0) by unfold deepV; rw [HCK.out, if_pos rfl, Int.toNat_natCast]; rfl)
  have hlen : (dwn h n).length ≤ 4096 := by have := HDA.out.2.2.2.1; have := HNN.out; have := HN4.out; omega
  go_upto_region 6 with fail
  refine wp_region_noPanic ?_
  refine wp_region_held_drew (S := fun W => Below w.heap.size w W ∧ Bk W w.heap.size 24 #[(.slice pa h.length c)] ∧ W.ownsRow w.heap.size 3 1 (.slice q (dwn h n).length ca) (dwn h n).length (nats (dwn h n))) (by kernel_rfl) ?_ (fun hHeld => ?_)
  · exact ⟨B.out.drew, Y.out.drew, own_onH HO.out (Below.refl _ _).drew⟩
  generalize hWd : w3.drew = wd at *
  clear hWd
  (refine wpAnyH_take (i := 0) (v := .agg #[(.slice pa h.length c)]) (by simp only [List.getElem?_toArray, List.getElem?_cons_zero]; exact rfl) (by kernel_rfl) (by kernel_rfl) (by kernel_rfl) (fun _ _ _ h => h) (yieldsIf_load_mid (by rfl) 24 (.tmp 2) (by rfl) (w.heap.size) (0) (by rfl) ([(.slice pa h.length c)]) _ (fun W hS => Bk.mid hS.2.1 0 _ rfl) Tryz.underlying24 (by rfl) (by kernel_rfl)) (by assumption) ?_; try simp only [Act.put, List.setIfInBounds_toArray, List.set_cons_zero, List.set_cons_succ])
  first | (refine wpAnyH_take (i := 1) (v := undef) (by simp only [List.getElem?_toArray, List.getElem?_cons_succ, List.getElem?_cons_zero]; exact rfl) (by kernel_rfl) (by kernel_rfl) (by kernel_rfl) (fun _ _ _ h => h) (Or.inr ⟨?_, rfl⟩) (by assumption) ?_; (rfl); try simp only [Act.put, List.setIfInBounds_toArray, List.set_cons_zero, List.set_cons_succ]) | (refine wpAnyH_take (i := 1) (v := ?_) (by simp only [List.getElem?_toArray, List.getElem?_cons_succ, List.getElem?_cons_zero]; exact rfl) (by kernel_rfl) (by kernel_rfl) (by kernel_rfl) (fun _ _ _ h => h) (Or.inl ⟨?_, ?_⟩) (by assumption) ?_; rotate_left; (rfl); (focus (intro w hSw; (try dsimp only at hSw); go_simp; try with_reducible rfl)); try simp only [Act.put, List.setIfInBounds_toArray, List.set_cons_zero, List.set_cons_succ])
  first | (refine wpAnyH_take (i := 2) (v := undef) (by simp only [List.getElem?_toArray, List.getElem?_cons_succ, List.getElem?_cons_zero]; exact rfl) (by kernel_rfl) (by kernel_rfl) (by kernel_rfl) (fun _ _ _ h => h) (Or.inr ⟨?_, rfl⟩) (by assumption) ?_; (rfl); try simp only [Act.put, List.setIfInBounds_toArray, List.set_cons_zero, List.set_cons_succ]) | (refine wpAnyH_take (i := 2) (v := ?_) (by simp only [List.getElem?_toArray, List.getElem?_cons_succ, List.getElem?_cons_zero]; exact rfl) (by kernel_rfl) (by kernel_rfl) (by kernel_rfl) (fun _ _ _ h => h) (Or.inl ⟨?_, ?_⟩) (by assumption) ?_; rotate_left; (rfl); (focus (intro w hSw; (try dsimp only at hSw); go_simp; try with_reducible rfl)); try simp only [Act.put, List.setIfInBounds_toArray, List.set_cons_zero, List.set_cons_succ])
  refine wpAnyH_ready (rs := [3]) (by kernel_rfl) (by simp) ?_
  refine AllReadyH.cons rfl (fun K hK => ?_) AllReadyH.nil
  go_simp
  refine (rlast_any n (dwn h n) (lst h n) HDA.out.2.2.1 _ _ (RdN.own hHeld.2.2)).mono ?_; rintro e v5 ⟨rfl, hb⟩
  replace hHeld := And.intro (hHeld.1.trans (hb.mono hHeld.1.size)) (And.intro (hHeld.2.1.on hb) (own_onH hHeld.2.2 hb))
  clear hb
  refine hK.out _ _ hHeld (fun _ => ?_)
  clear hK K
  try simp only [Act.put, List.setIfInBounds_toArray, List.set_cons_zero, List.set_cons_succ]
  refine wpAnyH_ready (rs := [4]) (by kernel_rfl) (by simp) ?_
  refine AllReadyH.cons rfl (fun K hK => ?_) AllReadyH.nil
  go_simp
  refine (rcut_any h _ (lst h n) HDA.out.1 _ (HRD.out _ hHeld.1)).mono ?_; rintro e v6 ⟨rfl, hb⟩
  replace hHeld := And.intro (hHeld.1.trans (hb.mono hHeld.1.size)) (And.intro (hHeld.2.1.on hb) (own_onH hHeld.2.2 hb))
  clear hb
  refine hK.out _ _ hHeld (fun _ => ?_)
  clear hK K
  try simp only [Act.put, List.setIfInBounds_toArray, List.set_cons_zero, List.set_cons_succ]
  refine wpAnyH_done (by kernel_rfl) ?_ _
  refine NoPanic.normal ?_
  replace B := hidB hHeld.1
  cases hgo : goneB (objAt h (lst h n))
  · have HGO := hidB hgo
    clear hgo
    go_wp2_with fail
    go_ret2
    exact ⟨by rw [HV.out, HCK.out, HGO.out]; first | rfl | simp, B.out⟩
  · have HGO := hidB hgo
    clear hgo
    go_wp2_with fail
    go_ret2
    exact ⟨by rw [HV.out, HCK.out, HGO.out]; first | rfl | simp, B.out⟩
set_option maxHeartbeats 8000000 in
set_option maxRecDepth 100000 in
theorem rLive_any (h : HI) (hok : HOk h) (hk : HKeys h) (hby : HBytes h) (hv : Value) (n : Int) (w : World) (hr : RdH h hv w) : Calls Tryz.prog 17 #[.agg #[hv], .int .i64 n] w fun e w' => e = .returned (.tuple #[.bool (liveV h n), .int .i64 (askE h [n])]) ∧ Below w.heap.size w w' := by
  have AS := hidB (fun W (hb : Below w.heap.size w W) => rasked_any h hok hk hby hv n W (hr.on hb))
  have HRD := hidB (fun W (hb : Below w.heap.size w W) => hr.on hb)
  obtain ⟨⟨pa, c, rfl, h1, h2, h3⟩, _⟩ := hr
  unfold maxLen at h2
  have hlm : h.length ≤ 9223372036854775807 := by omega
  clear hok hk hby h3
  have Y := hidB (show Bk (w.alloc (.cells (#[(.slice pa h.length c)]) 24)) (w.heap.size) 24 (#[(.slice pa h.length c)]) from Bk.new w _ _)
  have B := hidB (show Below w.heap.size w (w.alloc (.cells (#[(.slice pa h.length c)]) 24)) from box_one w _)
  go_enter Tryz.func17, Tryz.ntmps17
  go_upto_region 1 with fail
  generalize hW : (w.alloc (.cells (#[(.slice pa h.length c)]) 24)) = w1 at *
  clear hW
  go_wp2_with (first | ((with_reducible refine ldId 24 (.tmp 2) ?_); refine wpList_load_row (by rfl) 24 (.tmp 2) (by rfl) (w.heap.size) (by rfl) 24 (#[(.slice pa h.length c)]) (0, 0) _ (by exact Y.out) Tryz.underlying24 (by rfl) (by kernel_rfl) ?_))
  refine (AS.out _ B.out).mono ?_; rintro e w2 ⟨rfl, hb⟩
  replace Y := hidB (Y.out.on hb); replace B := hidB (B.out.trans (hb.mono B.out.size)); clear hb
  obtain ⟨ck, hck⟩ : ∃ ck, askE h [n] = ck := ⟨_, rfl⟩
  have HCK := hidB hck
  rw [hck]
  clear hck AS
  by_cases h0 : ck = 0
  rotate_left
  · have h0b : (ck == 0) = false := by rw [beq_eq_false_iff_ne]; exact h0
    have h0n : (ck != 0) = true := by rw [bne, h0b]; rfl
    have HN := hidB h0
    clear h0
    have HV := hidB (show liveV h n = false by unfold liveV; rw [HCK.out, if_neg HN.out])
    go_wp2_with fail
    go_ret2
    exact ⟨by rw [HV.out, HCK.out]; rfl, B.out⟩
  subst h0
  obtain ⟨hc, hn0, hn1⟩ := askE_ok HCK.out
  obtain ⟨n, rfl⟩ : ∃ k : Nat, n = (k : Int) := ⟨n.toNat, by omega⟩
  have hn : n < h.length := by omega
  have HFA := hidB (fall_of (chkH_ok hc).2.1)
  have HN4 := hidB (chkH_ok hc).1
  have HNN := hidB hn
  have HDA := hidB (dwn_all HFA.out n hn)
  clear hc hn0 hn1 hn
  have HV := hidB (show liveV h (n : Int) = liveB (objAt h n) by unfold liveV; rw [HCK.out, if_pos rfl, Int.toNat_natCast])
  go_wp2_with (first | ((with_reducible refine ldId 24 (.tmp 2) ?_); refine wpList_load_row (by rfl) 24 (.tmp 2) (by rfl) (w.heap.size) (by rfl) 24 (#[(.slice pa h.length c)]) (0, 0) _ (by exact Y.out) Tryz.underlying24 (by rfl) (by kernel_rfl) ?_))
  refine (rliveAt_any h _ n HNN.out _ (HRD.out _ B.out)).mono ?_; rintro e w3 ⟨rfl, hb⟩
  replace Y := hidB (Y.out.on hb); replace B := hidB (B.out.trans (hb.mono B.out.size)); clear hb
  go_wp2_with fail
  go_ret2
  exact ⟨by rw [HV.out, HCK.out]; rfl, B.out⟩

def badA (h : HI) (n : Nat) : Bool := cutB h n || decide (64 < (dwn h n).length)
set_option maxHeartbeats 8000000 in
set_option maxRecDepth 100000 in
theorem rarrayed_any (h : HI) (hf : FallH h) (hm4 : h.length ≤ 4096) (hv : Value) (n : Nat) (hn : n < h.length) (w : World) (hr : RdH h hv w) : Calls Tryz.prog 32 #[.agg #[hv], .int .i64 n] w fun e w' => e = .returned (.tuple #[.bool (!badA h n && ((objAt h (lst h n)).kd == 2)), .bool (!badA h n)]) ∧ Below w.heap.size w w' := by
  have HRD := hidB (fun W (hb : Below w.heap.size w W) => hr.on hb)
  obtain ⟨⟨pa, c, rfl, h1, h2, h3⟩, _⟩ := hr
  unfold maxLen at h2
  have hlm : h.length ≤ 9223372036854775807 := by omega
  have HFA := hidB hf
  have HN4 := hidB hm4
  have HNN := hidB hn
  have HDA := hidB (dwn_all hf n hn)
  clear hf hm4 hn h3
  have Y := hidB (show Bk (w.alloc (.cells (#[(.slice pa h.length c)]) 24)) (w.heap.size) 24 (#[(.slice pa h.length c)]) from Bk.new w _ _)
  have B := hidB (show Below w.heap.size w (w.alloc (.cells (#[(.slice pa h.length c)]) 24)) from box_one w _)
  go_enter Tryz.func32, Tryz.ntmps32
  go_upto_region 1 with fail
  generalize hW : (w.alloc (.cells (#[(.slice pa h.length c)]) 24)) = w1 at *
  clear hW
  go_wp2_with (first | ((with_reducible refine ldId 24 (.tmp 2) ?_); refine wpList_load_row (by rfl) 24 (.tmp 2) (by rfl) (w.heap.size) (by rfl) 24 (#[(.slice pa h.length c)]) (0, 0) _ (by exact Y.out) Tryz.underlying24 (by rfl) (by kernel_rfl) ?_))
  refine (rdown_any h HFA.out HN4.out _ n HNN.out _ (HRD.out _ B.out)).mono ?_; rintro e w3 ⟨v, rfl, hown, hb⟩
  replace Y := hidB (Y.out.on hb)
  have HO := hidB (own_baseH hown B.out.size)
  replace B := hidB (B.out.trans (hb.mono B.out.size))
  clear hb
  obtain ⟨q, ca, hsl⟩ := own_sliceH hown
  subst hsl
  clear hown
  go_wp2_with fail
  refine (rlast_any n (dwn h n) (lst h n) HDA.out.2.2.1 _ _ (RdN.own HO.out)).mono ?_; rintro e w4 ⟨rfl, hb⟩
  replace Y := hidB (Y.out.on hb)
  replace B := hidB (B.out.trans (hb.mono B.out.size))
  clear hb HO
  go_wp2_with (first | ((with_reducible refine ldId 24 (.tmp 2) ?_); refine wpList_load_row (by rfl) 24 (.tmp 2) (by rfl) (w.heap.size) (by rfl) 24 (#[(.slice pa h.length c)]) (0, 0) _ (by exact Y.out) Tryz.underlying24 (by rfl) (by kernel_rfl) ?_))
  refine (rcut_any h _ (lst h n) HDA.out.1 _ (HRD.out _ B.out)).mono ?_; rintro e w5 ⟨rfl, hb⟩
  replace Y := hidB (Y.out.on hb); replace B := hidB (B.out.trans (hb.mono B.out.size)); clear hb
  have HBA := hidB (show badA h n = (goneB (objAt h (lst h n)) || decide (64 < (dwn h n).length)) from rfl)
  have HLL := hidB HDA.out.1
  have hlen : (dwn h n).length ≤ 4096 := by have := HDA.out.2.2.2.1; have := HNN.out; have := HN4.out; omega
  cases hgo : goneB (objAt h (lst h n))
  rotate_left
  · have HGO := hidB hgo
    clear hgo
    have HB1 := hidB (show badA h n = true by rw [HBA.out, HGO.out]; rfl)
    go_wp2_with fail
    go_ret2
    exact ⟨by first | rfl | (rw [HB1.out]; rfl), B.out⟩
  have HGO := hidB hgo
  clear hgo
  by_cases h64 : 64 < (dwn h n).length
  · have h64i : (64 : Int) < ((dwn h n).length : Int) := by omega
    have HB1 := hidB (show badA h n = true by rw [HBA.out, HGO.out, decide_eq_true h64]; rfl)
    go_wp2_with fail
    go_ret2
    exact ⟨by first | rfl | (rw [HB1.out]; rfl), B.out⟩
  have h64i : ¬ (64 : Int) < ((dwn h n).length : Int) := by omega
  have HB1 := hidB (show badA h n = false by rw [HBA.out, HGO.out, decide_eq_false h64]; rfl)
  have HRW := HRD.out _ B.out
  obtain ⟨g, o, rfl, hgl, hrow⟩ := rd_rowH HRW HLL.out
  have HOA := hidB (objAt_lt HLL.out)
  have hx1 : (lst h n : Int) < (h.length : Int) := by have := HLL.out; omega
  have hx2 : (0 : Int) ≤ (lst h n : Int) := by omega
  have z0 : w5.cell? ⟨g, o + lst h n * 18, none⟩ = some (.int .u8 (h[lst h n]'HLL.out).1.kd) := hrow 0 _ rfl
  generalize (h[lst h n]'HLL.out) = e0 at *
  have y0 : w5.cell? ⟨w.heap.size, 0, none⟩ = some (.slice (some ⟨g, o, none⟩) h.length c) := Y.out.cell 0
  clear hrow hgl HRW h64
  go_wp2_with fail
  all_goals first | (exfalso; omega) | (go_ret2; exact ⟨by first | (rw [HB1.out, HOA.out]; rfl) | (rw [HOA.out]; rfl) | rfl | (simp [HB1.out, HOA.out]; done), B.out⟩)
set_option maxHeartbeats 8000000 in
set_option maxRecDepth 100000 in
theorem risarr_any (h : HI) (hok : HOk h) (hk : HKeys h) (hby : HBytes h) (hv : Value) (n : Int) (w : World) (hr : RdH h hv w) : Calls Tryz.prog 13 #[.agg #[hv], .int .i64 n] w fun e w' => e = .returned (.tuple #[.bool (arrV h n), .int .i64 (arrE h n)]) ∧ Below w.heap.size w w' := by
  have AS := hidB (fun W (hb : Below w.heap.size w W) => rasked_any h hok hk hby hv n W (hr.on hb))
  have HRD := hidB (fun W (hb : Below w.heap.size w W) => hr.on hb)
  obtain ⟨⟨pa, c, rfl, h1, h2, h3⟩, _⟩ := hr
  unfold maxLen at h2
  have hlm : h.length ≤ 9223372036854775807 := by omega
  clear hok hk hby h3
  have Y := hidB (show Bk (w.alloc (.cells (#[(.slice pa h.length c)]) 24)) (w.heap.size) 24 (#[(.slice pa h.length c)]) from Bk.new w _ _)
  have B := hidB (show Below w.heap.size w (w.alloc (.cells (#[(.slice pa h.length c)]) 24)) from box_one w _)
  go_enter Tryz.func13, Tryz.ntmps13
  go_upto_region 1 with fail
  generalize hW : (w.alloc (.cells (#[(.slice pa h.length c)]) 24)) = w1 at *
  clear hW
  go_wp2_with (first | ((with_reducible refine ldId 24 (.tmp 2) ?_); refine wpList_load_row (by rfl) 24 (.tmp 2) (by rfl) (w.heap.size) (by rfl) 24 (#[(.slice pa h.length c)]) (0, 0) _ (by exact Y.out) Tryz.underlying24 (by rfl) (by kernel_rfl) ?_))
  refine (AS.out _ B.out).mono ?_; rintro e w2 ⟨rfl, hb⟩
  replace Y := hidB (Y.out.on hb); replace B := hidB (B.out.trans (hb.mono B.out.size)); clear hb
  obtain ⟨ck, hck⟩ : ∃ ck, askE h [n] = ck := ⟨_, rfl⟩
  have HCK := hidB hck
  rw [hck]
  clear hck AS
  by_cases h0 : ck = 0
  rotate_left
  · have h0b : (ck == 0) = false := by rw [beq_eq_false_iff_ne]; exact h0
    have h0n : (ck != 0) = true := by rw [bne, h0b]; rfl
    have HN := hidB h0
    clear h0
    have HE := hidB (show arrE h n = ck by unfold arrE; rw [HCK.out, if_neg HN.out])
    have HV := hidB (show arrV h n = false by unfold arrV; rw [HE.out, if_neg HN.out])
    go_wp2_with fail
    go_ret2
    exact ⟨by rw [HV.out, HE.out]; rfl, B.out⟩
  subst h0
  obtain ⟨hc, hn0, hn1⟩ := askE_ok HCK.out
  obtain ⟨n, rfl⟩ : ∃ k : Nat, n = (k : Int) := ⟨n.toNat, by omega⟩
  have hn : n < h.length := by omega
  have HFA := hidB (fall_of (chkH_ok hc).2.1)
  have HN4 := hidB (chkH_ok hc).1
  have HNN := hidB hn
  have HDA := hidB (dwn_all HFA.out n hn)
  clear hc hn0 hn1 hn
  have HE := hidB (show arrE h (n : Int) = if badA h n then 140 else 0 by unfold arrE; rw [HCK.out, if_pos rfl, Int.toNat_natCast]; rfl)
  have HV := hidB (show arrV h (n : Int) = (!badA h n && ((objAt h (lst h n)).kd == 2)) by unfold arrV; rw [HE.out, Int.toNat_natCast]; cases badA h n <;> rfl)
  go_wp2_with (first | ((with_reducible refine ldId 24 (.tmp 2) ?_); refine wpList_load_row (by rfl) 24 (.tmp 2) (by rfl) (w.heap.size) (by rfl) 24 (#[(.slice pa h.length c)]) (0, 0) _ (by exact Y.out) Tryz.underlying24 (by rfl) (by kernel_rfl) ?_))
  refine (rarrayed_any h HFA.out HN4.out _ n HNN.out _ (HRD.out _ B.out)).mono ?_; rintro e w3 ⟨rfl, hb⟩
  replace Y := hidB (Y.out.on hb); replace B := hidB (B.out.trans (hb.mono B.out.size)); clear hb
  have HKD := hidB (rfl : ((objAt h (lst h n)).kd == 2) = ((objAt h (lst h n)).kd == 2))
  generalize ((objAt h (lst h n)).kd == 2) = kb at *
  generalize badA h n = ba at *
  cases ba
  · go_wp2_with fail
    go_ret2
    exact ⟨by rw [HV.out, HE.out]; rfl, B.out⟩
  · go_wp2_with fail
    go_ret2
    exact ⟨by rw [HV.out, HE.out]; rfl, B.out⟩

end Go.Proofs.YtnidamkgfgddfaaGreat
