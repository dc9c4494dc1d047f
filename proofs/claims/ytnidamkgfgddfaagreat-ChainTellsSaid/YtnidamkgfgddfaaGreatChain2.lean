/-
  Proxies in one another: chain.Live, Down, Deep.
-/
import Derived.Test.YtnidamkgfgddfaaGreatChain1
import Derived.Deep.LoopGhost
namespace Go.Proofs.YtnidamkgfgddfaaGreat
open Go.RowKit

theorem askE_ok {h : HI} {n : Int} (e : askE h [n] = 0) : chkH h = 0 ∧ 0 ≤ n ∧ n < (h.length : Int) := by
  unfold askE at e
  split at e
  · rename_i h0
    split at e
    · rename_i ha
      simp only [List.all_cons, List.all_nil, Bool.and_true, Bool.and_eq_true, decide_eq_true_eq] at ha
      exact ⟨h0, ha.1, ha.2⟩
    · cases e
  · rename_i h0; exact absurd e h0
theorem askE_of {h : HI} {n : Int} (h0 : chkH h = 0) (h1 : 0 ≤ n) (h2 : n < (h.length : Int)) : askE h [n] = 0 := by
  unfold askE
  rw [if_pos h0, if_pos (by simp [h1, h2])]
def objAt (h : HI) (n : Nat) : OJ := ((h[n]?).map (·.1)).getD ⟨0, .zero, false, .slice none 0 0, .zero, .zero, ⟨#[]⟩, false, false⟩
theorem objAt_lt {h : HI} {n : Nat} (hn : n < h.length) : objAt h n = (h[n]'hn).1 := by unfold objAt; rw [List.getElem?_eq_getElem hn]; rfl
/-- What is behind an object, and the last of it. -/
def downN (h : HI) : Nat → Nat → List Nat
  | 0, _ => []
  | f + 1, n => if liveB (objAt h n) then (objAt h n).tg.r.toNat :: downN h f (objAt h n).tg.r.toNat else []
def lastN (h : HI) : Nat → Nat → Nat
  | 0, n => n
  | f + 1, n => if liveB (objAt h n) then lastN h f (objAt h n).tg.r.toNat else n
/-- Targets stand ahead of their proxies. -/
def FallH (h : HI) : Prop := ∀ n, n < h.length → liveB (objAt h n) = true → 0 ≤ (objAt h n).tg.r ∧ (objAt h n).tg.r.toNat < n
theorem fall_of {h : HI} (ha : allO h h.length = true) : FallH h := by
  intro n hn hl
  have ho := allO_at ha hn hn
  rw [objAt_lt hn] at hl ⊢
  unfold liveB at hl
  rw [Bool.and_eq_true] at hl
  have hk := eq_of_beq hl.1
  unfold objB at ho
  rw [if_pos hk] at ho
  unfold prxB at ho
  cases hn1 : isV (h[n]'hn).1.tg 1
  · rw [hn1] at ho
    cases hr : refB h n (h[n]'hn).1.tg
    · rw [hr] at ho; simp at ho
    · unfold refB at hr
      simp only [Bool.and_eq_true, decide_eq_true_eq] at hr
      have := inB_ref hr.2.1 hr.1
      omega
  · unfold isV at hn1
    rw [Bool.and_eq_true] at hn1
    rw [hn1.1] at hl
    cases hl.2
theorem downN_more {h : HI} (hf : FallH h) : ∀ f n, n < h.length → n < f → downN h f n = downN h (n + 1) n ∧ lastN h f n = lastN h (n + 1) n
  | 0, _, _, h0 => absurd h0 (by omega)
  | f + 1, n, hn, h0 => by
    unfold downN lastN
    cases hl : liveB (objAt h n)
    · exact ⟨rfl, rfl⟩
    · have := hf n hn hl
      have h1 := downN_more hf f (objAt h n).tg.r.toNat (by omega) (by omega)
      have h2 := downN_more hf n (objAt h n).tg.r.toNat (by omega) (by omega)
      rw [h1.1, h1.2, h2.1, h2.2]
      exact ⟨rfl, rfl⟩
def dwn (h : HI) (n : Nat) : List Nat := downN h (n + 1) n
def lst (h : HI) (n : Nat) : Nat := lastN h (n + 1) n
theorem dwn_live {h : HI} (hf : FallH h) {n : Nat} (hn : n < h.length) (hl : liveB (objAt h n) = true) : dwn h n = (objAt h n).tg.r.toNat :: dwn h (objAt h n).tg.r.toNat ∧ lst h n = lst h (objAt h n).tg.r.toNat := by
  have := hf n hn hl
  have h2 := downN_more hf n (objAt h n).tg.r.toNat (by omega) (by omega)
  unfold dwn lst
  rw [downN, lastN, hl, ← h2.1, ← h2.2]
  exact ⟨rfl, rfl⟩
theorem dwn_dead {h : HI} {n : Nat} (hl : liveB (objAt h n) = false) : dwn h n = [] ∧ lst h n = n := by
  unfold dwn lst
  rw [downN, lastN, hl]
  exact ⟨rfl, rfl⟩
theorem dwn_all {h : HI} (hf : FallH h) : ∀ n, n < h.length → lst h n < h.length ∧ liveB (objAt h (lst h n)) = false ∧ (n :: dwn h n)[(dwn h n).length]? = some (lst h n) ∧ (dwn h n).length ≤ n ∧ ∀ x ∈ dwn h n, x < n := by
  intro n
  induction n using Nat.strongRecOn with
  | _ n ih =>
    intro hn
    cases hl : liveB (objAt h n)
    · obtain ⟨h1, h2⟩ := dwn_dead hl
      rw [h1, h2]
      exact ⟨hn, hl, rfl, Nat.zero_le _, fun x hx => by cases hx⟩
    · obtain ⟨h1, h2⟩ := dwn_live hf hn hl
      have hr := hf n hn hl
      obtain ⟨i1, i2, i3, i4, i5⟩ := ih _ hr.2 (by omega)
      rw [h1, h2]
      refine ⟨i1, i2, ?_, by simp; omega, fun x hx => ?_⟩
      · simpa using i3
      · rcases List.mem_cons.1 hx with rfl | hx
        · exact hr.2
        · have := i5 x hx; omega
/-- Is what an object leads to revoked? -/
def cutB (h : HI) (n : Nat) : Bool := goneB (objAt h (lst h n))
def nats (l : List Nat) : List Value := l.map (fun (i : Nat) => Value.int .i64 (i : Int))
def DownQ (h : HI) (n : Int) (w : World) (e : Ending) (w' : World) : Prop := Below w.heap.size w w' ∧ ((askE h [n] ≠ 0 ∧ e = .returned (.tuple #[.slice none 0 0, .bool false, .int .i64 (askE h [n])])) ∨
  (askE h [n] = 0 ∧ ∃ v, e = .returned (.tuple #[v, .bool (cutB h n.toNat), .int .i64 0]) ∧ w'.ownsRow w.heap.size 3 1 v (dwn h n.toNat).length (nats (dwn h n.toNat))))
def liveV (h : HI) (n : Int) : Bool := if askE h [n] = 0 then liveB (objAt h n.toNat) else false
theorem gone_dead {o : OJ} (h : goneB o = true) : liveB o = false := by
  unfold goneB at h
  rw [Bool.and_eq_true] at h
  unfold liveB
  rw [h.1, h.2]; rfl
theorem info_intC : (Tryz.prog.info? 3).map (fun i => (i.zero, i.size, i.bytes)) = some (some (.int .i64 0), 1, 8) := by kernel_rfl

set_option maxHeartbeats 8000000 in
set_option maxRecDepth 100000 in
theorem live_heap (h : HI) (hok : HOk h) (hk : HKeys h) (hv : Value) (n : Int) (w : World) (hr : RdH h hv w) : Calls Tryz.prog 16 #[.agg #[hv], .int .i64 n] w fun e w' => e = .returned (.tuple #[.bool (liveV h n), .int .i64 (askE h [n])]) ∧ Below w.heap.size w w' := by
  have HRD := hidB (fun W (hb : Below w.heap.size w W) => hr.on hb)
  have HOK := hidB hok
  have HKY := hidB hk
  obtain ⟨⟨pa, c, rfl, h1, h2, _⟩, _⟩ := hr
  unfold maxLen at h2
  have hlm : h.length ≤ 9223372036854775807 := by omega
  clear hok hk h1 h2
  have Y := hidB (show Bk (w.alloc (.cells (#[(.slice pa h.length c)]) 24)) (w.heap.size) 24 (#[(.slice pa h.length c)]) from Bk.new w _ _)
  have B := hidB (show Below w.heap.size w (w.alloc (.cells (#[(.slice pa h.length c)]) 24)) from box_one w _)
  go_enter Tryz.func16, Tryz.ntmps16
  go_upto_region 1 with fail
  generalize hW : (w.alloc (.cells (#[(.slice pa h.length c)]) 24)) = w1 at *
  clear hW
  have NB := hidB (show Bk (w1.alloc (.cells #[.int .i64 n] 3)) w1.heap.size 3 (intsC [n]) from Bk.new w1 _ _)
  have BA := hidB (show Below w.heap.size w (w1.alloc (.cells #[.int .i64 n] 3)) from B.out.alloc B.out.size _)
  have YA := hidB (show Bk (w1.alloc (.cells #[.int .i64 n] 3)) w.heap.size 24 #[(.slice pa h.length c)] from Y.out.alloc _)
  go_wp2_with (first | ((with_reducible refine ldId 24 (.tmp 2) ?_); refine wpList_load_row (by rfl) 24 (.tmp 2) (by rfl) (w.heap.size) (by rfl) 24 (#[(.slice pa h.length c)]) (0, 0) _ (by exact Y.out) Tryz.underlying24 (by rfl) (by kernel_rfl) ?_) | ((with_reducible refine wpId ?_); refine wpList_mkSliceH (by rfl) 32 3 1 1 _ (by rfl) [(0, .int .i64 n)] (by kernel_rfl) (.int .i64 0) #[.int .i64 n] Tryz.underlying32 (by kernel_rfl) (by decide) (by decide) (by kernel_rfl) ?_))
  refine (asked_chain h HOK.out HKY.out (.slice pa h.length c) [n] (by simp) _ (HRD.out _ BA.out) _ NB.out).mono ?_; rintro e w3 ⟨rfl, hb⟩
  replace Y := hidB (YA.out.on hb)
  replace B := hidB (BA.out.trans (hb.mono BA.out.size))
  clear hb NB BA YA
  obtain ⟨ck, hck⟩ : ∃ ck, askE h [n] = ck := ⟨_, rfl⟩
  have HCK := hidB hck
  rw [hck]
  clear hck
  by_cases h0 : ck = 0
  rotate_left
  · have h0b : (ck == 0) = false := by rw [beq_eq_false_iff_ne]; exact h0
    have h0n : (ck != 0) = true := by rw [bne, h0b]; rfl
    have HQ := hidB (show liveV h n = false by unfold liveV; rw [HCK.out, if_neg h0])
    clear h0
    go_wp2_with fail
    go_ret2
    exact ⟨by rw [HQ.out, HCK.out]; rfl, B.out⟩
  subst h0
  have HQ := hidB (show liveV h n = liveB (objAt h n.toNat) by unfold liveV; rw [HCK.out, if_pos rfl])
  obtain ⟨_, hn0, hn1⟩ := askE_ok HCK.out
  obtain ⟨n, rfl⟩ : ∃ k : Nat, n = (k : Int) := ⟨n.toNat, by omega⟩
  have hn : n < h.length := by omega
  clear hn0 hn1
  have hi0 : (0 : Int) ≤ (n : Int) := by omega
  have hi1 : (n : Int) < (h.length : Int) := by omega
  have HRW := HRD.out _ B.out
  obtain ⟨g, o, rfl, hgl, hrow⟩ := rd_rowH HRW hn
  have HPO := hidB (HRW.props _ (List.getElem_mem hn)).one
  have HGL := hidB hgl
  have HROW := hidB hrow
  clear hrow hgl HRW
  have HOE := hidB (objAt_lt hn)
  rw [← HOE.out] at HPO HROW
  replace HOE := hidB (rfl : objAt h n = objAt h n)
  obtain ⟨e0, he⟩ : ∃ q, objAt h n = q := ⟨_, rfl⟩
  replace HOE := hidB he
  rw [he] at HPO HROW
  try rw [he]
  clear he
  have y0 : w3.cell? ⟨w.heap.size, 0, none⟩ = some (.slice (some ⟨g, o, none⟩) h.length c) := Y.out.cell 0
  go_wp2_with (first | ((with_reducible refine ldId 46 (.tmp 17) ?_); refine wpList_load_mid (by rfl) 46 (.tmp 17) (by rfl) g (o + n * 18) (by rfl) e0.cs.toList _ (by exact HROW.out) Tryz.underlying46 (by rfl) (by kernel_rfl) ?_))
  refine (live_any e0 _).mono ?_; rintro e w4 ⟨rfl, hb⟩
  replace B := hidB (B.out.trans (hb.mono B.out.size))
  clear hb
  go_wp2_with fail
  go_ret2
  exact ⟨by rw [HQ.out, HCK.out, Int.toNat_natCast, HOE.out]; rfl, B.out⟩
set_option maxHeartbeats 8000000 in
set_option maxRecDepth 100000 in
theorem down_heap (h : HI) (hok : HOk h) (hk : HKeys h) (hv : Value) (n : Int) (w : World) (hr : RdH h hv w) : Calls Tryz.prog 10 #[.agg #[hv], .int .i64 n] w (DownQ h n w) := by
  have HRD := hidB (fun W (hb : Below w.heap.size w W) => hr.on hb)
  have HOK := hidB hok
  have HKY := hidB hk
  obtain ⟨⟨pa, c, rfl, h1, h2, _⟩, _⟩ := hr
  unfold maxLen at h2
  have hlm : h.length ≤ 9223372036854775807 := by omega
  clear hok hk h1 h2
  have Y := hidB (show Bk (w.alloc (.cells (#[(.slice pa h.length c)]) 24)) (w.heap.size) 24 (#[(.slice pa h.length c)]) from Bk.new w _ _)
  have B := hidB (show Below w.heap.size w (w.alloc (.cells (#[(.slice pa h.length c)]) 24)) from box_one w _)
  go_enter Tryz.func10, Tryz.ntmps10
  go_upto_region 1 with fail
  generalize hW : (w.alloc (.cells (#[(.slice pa h.length c)]) 24)) = w1 at *
  clear hW
  go_step3
  have NB := hidB (show Bk (w1.alloc (.cells #[.int .i64 n] 3)) w1.heap.size 3 (intsC [n]) from Bk.new w1 _ _)
  have BA := hidB (show Below w.heap.size w (w1.alloc (.cells #[.int .i64 n] 3)) from B.out.alloc B.out.size _)
  have YA := hidB (show Bk (w1.alloc (.cells #[.int .i64 n] 3)) w.heap.size 24 #[(.slice pa h.length c)] from Y.out.alloc _)
  go_wp2_with (first | ((with_reducible refine ldId 24 (.tmp 2) ?_); refine wpList_load_row (by rfl) 24 (.tmp 2) (by rfl) (w.heap.size) (by rfl) 24 (#[(.slice pa h.length c)]) (0, 0) _ (by exact Y.out) Tryz.underlying24 (by rfl) (by kernel_rfl) ?_) | ((with_reducible refine wpId ?_); refine wpList_mkSliceH (by rfl) 32 3 1 1 _ (by rfl) [(0, .int .i64 n)] (by kernel_rfl) (.int .i64 0) #[.int .i64 n] Tryz.underlying32 (by kernel_rfl) (by decide) (by decide) (by kernel_rfl) ?_))
  refine (asked_chain h HOK.out HKY.out (.slice pa h.length c) [n] (by simp) _ (HRD.out _ BA.out) _ NB.out).mono ?_; rintro e w3 ⟨rfl, hb⟩
  replace Y := hidB (YA.out.on hb)
  replace B := hidB (BA.out.trans (hb.mono BA.out.size))
  clear hb NB BA YA
  obtain ⟨ck, hck⟩ : ∃ ck, askE h [n] = ck := ⟨_, rfl⟩
  have HCK := hidB hck
  rw [hck]
  clear hck
  by_cases h0 : ck = 0
  rotate_left
  · have h0b : (ck == 0) = false := by rw [beq_eq_false_iff_ne]; exact h0
    have h0n : (ck != 0) = true := by rw [bne, h0b]; rfl
    have HN := hidB h0
    clear h0
    go_wp2_with fail
    go_ret3
    exact ⟨B.out, Or.inl ⟨by rw [HCK.out]; exact HN.out, by rw [HCK.out]; rfl⟩⟩
  subst h0
  obtain ⟨hc, hn0, hn1⟩ := askE_ok HCK.out
  obtain ⟨n, rfl⟩ : ∃ k : Nat, n = (k : Int) := ⟨n.toNat, by omega⟩
  have HFA := hidB (fall_of (chkH_ok hc).2.1)
  have hn : n < h.length := by omega
  have HN4 := hidB (chkH_ok hc).1
  clear hc hn0 hn1
  go_wp2_with fail
  go_step3
  go_wp2_with fail
  go_loopg [1, 4, 5] n (fun k s1 s4 s5 wr => ∃ (m : Nat) (acc : List Nat), m = k ∧ m < h.length ∧ acc.length + m ≤ n ∧ s1 = .int .i64 m ∧ s5 = .bool false ∧ wr.ownsRow w.heap.size 3 1 s4 acc.length (nats acc) ∧ dwn h n = acc ++ dwn h m ∧ lst h n = lst h m ∧ Bk wr w.heap.size 24 #[(.slice pa h.length c)] ∧ Below w.heap.size w wr)
  case atStart => exact ⟨n, [], rfl, hn, by simp, rfl, rfl, World.ownsRow_nil _ _ _ _, rfl, rfl, Y.out, B.out⟩
  case round =>
    clear Y B
    obtain ⟨m, acc, rfl, hm, hle, rfl, rfl, hown, hd, hl, hY, hb⟩ := hrel
    have Y := hidB hY
    have B := hidB hb
    have HO := hidB hown
    have HD := hidB hd
    have HL := hidB hl
    clear hY hb hd hl
    obtain ⟨q, ca, hsl⟩ := own_sliceH hown
    subst hsl
    clear hown
    have hi0 : (0 : Int) ≤ (m : Int) := by omega
    have hi1 : (m : Int) < (h.length : Int) := by omega
    have HRW := HRD.out _ B.out
    obtain ⟨g, o, rfl, hgl, hrow⟩ := rd_rowH HRW hm
    have HPO := hidB (HRW.props _ (List.getElem_mem hm)).one
    have HGL := hidB hgl
    have HROW := hidB hrow
    clear hrow hgl HRW
    have HOE := hidB (objAt_lt hm)
    rw [← HOE.out] at HPO HROW
    replace HOE := hidB (rfl : objAt h m = objAt h m)
    obtain ⟨e0, he⟩ : ∃ q, objAt h m = q := ⟨_, rfl⟩
    replace HOE := hidB he
    rw [he] at HPO HROW
    try rw [he]
    clear he
    have y0 : wr.cell? ⟨w.heap.size, 0, none⟩ = some (.slice (some ⟨g, o, none⟩) h.length c) := Y.out.cell 0
    have HOB := hidB (objAt_lt hm)
    skip
    have X := hidB (show Bk (wr.alloc (.cells e0.cs 46)) wr.heap.size 46 e0.cs from Bk.new wr _ _)
    have Y5 := hidB (show Bk (wr.alloc (.cells e0.cs 46)) w.heap.size 24 #[(.slice (some ⟨g, o, none⟩) h.length c)] from Y.out.alloc _)
    have HO5 := hidB (show (wr.alloc (.cells e0.cs 46)).ownsRow w.heap.size 3 1 (.slice q acc.length ca) acc.length (nats acc) from own_onH HO.out (box_one wr _))
    have B5 := hidB (show Below w.heap.size w (wr.alloc (.cells e0.cs 46)) from B.out.alloc B.out.size _)
    clear Y HO B
    go_upto_region 5 with (first | ((with_reducible refine ldId 46 (.tmp 19) ?_); refine wpList_load_mid (by rfl) 46 (.tmp 19) (by rfl) g (o + m * 18) (by rfl) e0.cs.toList _ (by exact HROW.out) Tryz.underlying46 (by rfl) (by kernel_rfl) ?_) | ((with_reducible refine wpId ?_); refine wpList_store_new (by rfl) 46 (.tmp 8) (.tmp 20) (by rfl) e0.cs 46 _ (by rfl) (by rfl) (by kernel_rfl) (by rfl) (by exact OJ.one _ HPO.out) ?_))
    generalize (wr.alloc (.cells e0.cs 46)) = w5 at *
    generalize wr.heap.size = gx at *
    clear y0
    go_wp2_with (first | ((with_reducible refine ldId 46 (.tmp 8) ?_); refine wpList_load_row (by rfl) 46 (.tmp 8) (by rfl) (gx) (by rfl) 46 (e0.cs) (0, 0) _ (by exact X.out) Tryz.underlying46 (by rfl) (by kernel_rfl) ?_))
    refine (gone_any e0 _).mono ?_; rintro e w6 ⟨rfl, hb⟩
    replace X := hidB (X.out.on hb)
    replace Y5 := hidB (Y5.out.on hb)
    replace HO5 := hidB (own_onH HO5.out hb)
    replace B5 := hidB (B5.out.trans (hb.mono B5.out.size))
    clear hb
    cases hg : goneB e0
    rotate_left
    · have HCU := hidB (show cutB h n = true by unfold cutB; rw [HL.out, (dwn_dead (gone_dead (HOE.out ▸ hg))).2, HOE.out, hg])
      have HDW := hidB (show dwn h n = acc by rw [HD.out, (dwn_dead (gone_dead (HOE.out ▸ hg))).1, List.append_nil])
      clear hg
      go_wp2_with fail
      go_ret3
      exact ⟨B5.out, Or.inr ⟨HCK.out, _, by rw [Int.toNat_natCast, HCU.out]; rfl, by rw [Int.toNat_natCast, HDW.out]; exact HO5.out⟩⟩
    have HG := hidB hg
    clear hg
    go_wp2_with (first | ((with_reducible refine ldId 46 (.tmp 8) ?_); refine wpList_load_row (by rfl) 46 (.tmp 8) (by rfl) (gx) (by rfl) 46 (e0.cs) (0, 0) _ (by exact X.out) Tryz.underlying46 (by rfl) (by kernel_rfl) ?_))
    refine (live_any e0 _).mono ?_; rintro e w7 ⟨rfl, hb⟩
    replace X := hidB (X.out.on hb)
    replace Y5 := hidB (Y5.out.on hb)
    replace HO5 := hidB (own_onH HO5.out hb)
    replace B5 := hidB (B5.out.trans (hb.mono B5.out.size))
    clear hb
    cases hlv : liveB e0
    · have HCU := hidB (show cutB h n = false by unfold cutB; rw [HL.out, (dwn_dead (HOE.out ▸ hlv)).2, HOE.out, HG.out])
      have HDW := hidB (show dwn h n = acc by rw [HD.out, (dwn_dead (HOE.out ▸ hlv)).1, List.append_nil])
      clear hlv
      go_wp2_with fail
      go_ret3
      exact ⟨B5.out, Or.inr ⟨HCK.out, _, by rw [Int.toNat_natCast, HCU.out]; rfl, by rw [Int.toNat_natCast, HDW.out]; exact HO5.out⟩⟩
    have HLV := hidB (dwn_live HFA.out hm (HOE.out ▸ hlv))
    have HF := hidB (HFA.out m hm (HOE.out ▸ hlv))
    rw [HOE.out] at HLV HF
    clear hlv
    obtain ⟨r, hr⟩ : ∃ r : Nat, e0.tg.r = (r : Int) := ⟨e0.tg.r.toNat, by have := HF.out.1; omega⟩
    rw [hr, Int.toNat_natCast] at HLV HF
    have hrm := HF.out.2
    have x10 : w7.cell? ⟨gx, 10, none⟩ = some (.int .i64 (r : Int)) := hr ▸ X.out.cell 10
    clear hr
    obtain ⟨i0, hi, hz0, hz1, hz2⟩ := info_parts info_intC
    have hlen4 := HN4.out
    go_upto_region 9 with fail
    clear x10
    have NB := hidB (show Bk (w7.alloc (.cells #[.int .i64 (r : Int)] 3)) w7.heap.size 3 #[.int .i64 (r : Int)] from Bk.new w7 _ _)
    replace HO5 := hidB (show (w7.alloc (.cells #[.int .i64 (r : Int)] 3)).ownsRow w.heap.size 3 1 (.slice q acc.length ca) acc.length (nats acc) from own_onH HO5.out (box_one w7 _))
    replace Y5 := hidB (show Bk (w7.alloc (.cells #[.int .i64 (r : Int)] 3)) w.heap.size 24 #[(.slice (some ⟨g, o, none⟩) h.length c)] from Y5.out.alloc _)
    replace B5 := hidB (show Below w.heap.size w (w7.alloc (.cells #[.int .i64 (r : Int)] 3)) from B5.out.alloc B5.out.size _)
    clear X
    go_wp2_with (first | ((with_reducible refine wpId ?_); refine wpList_mkSliceH (by rfl) 32 3 1 1 _ (by rfl) [(0, .int .i64 (r : Int))] (by kernel_rfl) (.int .i64 0) #[.int .i64 (r : Int)] Tryz.underlying32 (by kernel_rfl) (by decide) (by decide) (by kernel_rfl) ?_) | (at_builtin; refine wpList_append_own _ (by rfl) (.tmp 31) (.tmp 33) 32 (by rfl) w.heap.size 3 i0 (.int .i64 0) 1 8 Tryz.underlying32 hi hz0 hz1 hz2 (by rfl) (by decide) (.slice q acc.length ca) acc.length (nats acc) (by rfl) HO5.out ⟨w7.heap.size, 0, none⟩ 1 1 [.int .i64 (r : Int)] (by rfl) (by rfl) (bk_cellsH NB.out) (fun u hu => by simp at hu; subst hu; rfl) (by unfold maxLen; omega) (by omega) (by have := B5.out.size; exact this) ?_; intro v' w9 hown' hgrow _))
    have HO9 := hidB (show w9.ownsRow w.heap.size 3 1 v' (acc ++ [r]).length (nats (acc ++ [r])) by rw [List.length_append, nats, List.map_append]; exact hown')
    have Y9 := hidB (show Bk w9 w.heap.size 24 #[(.slice (some ⟨g, o, none⟩) h.length c)] from (hgrow.block _ Y5.out.lt (fun e => own_ne_typeH HO5.out (by decide) Y5.out e.symm)).trans Y5.out)
    have B9 := hidB (show Below w.heap.size w w9 from B5.out.grown hgrow (by have := B5.out.size; exact this) (fun j hj => (HO5.out.lt j hj).1))
    have HD9 := hidB (show dwn h n = (acc ++ [r]) ++ dwn h r by rw [HD.out, HLV.out.1, List.append_assoc]; rfl)
    have HL9 := hidB (HL.out.trans HLV.out.2)
    clear hown' hgrow HO5 Y5 B5 NB
    go_wp2_with fail
    go_roundg r
    case measure => exact hrm
    case rel => exact ⟨r, acc ++ [r], rfl, by omega, by simp; omega, rfl, rfl, HO9.out, HD9.out, HL9.out, Y9.out, B9.out⟩

end Go.Proofs.YtnidamkgfgddfaaGreat
