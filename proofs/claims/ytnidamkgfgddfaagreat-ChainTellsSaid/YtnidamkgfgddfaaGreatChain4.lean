/-
  A proxy revoked: chain.Revoke.
-/
import Derived.Test.YtnidamkgfgddfaaGreatChain2
namespace Go.Proofs.YtnidamkgfgddfaaGreat
open Go.RowKit

theorem results_row2C {P : Program} {fn : Func} {p u : Tmp} {ty : TypeId} (h : fn.results = #[.cell p ty, .tmp u]) (tmps : Array Value) (w : World) (g : Nat) (t : TypeId) (cs : Array Value) (fr : Nat × Nat) (d : TypeDesc)
    (hp : tmps.getD p undef = .pointer (some ⟨g, 0, none⟩)) (hg : w.heap[g]? = some (.cells cs t fr))
    (hu : P.underlying ty = some d) (hd : (match d with | .struct _ | .array _ _ => true | _ => false) = true) (hi : (P.info? ty).map (·.size) = some cs.size) :
    (results fn tmps).run P w = .ok (.tuple #[.agg cs, tmps.getD u undef]) w := by
  have hp' : tmps[p]?.getD undef = .pointer (some ⟨g, 0, none⟩) := by simpa using hp
  simp [results, h, hp', asAddr, run_loadVar_row w g t ty cs fr d hg hu hd hi]
theorem cut_mid {α : Type} (T A R vs : List α) (k : Nat) (hk : k + vs.length ≤ A.length) : (T ++ (A ++ R)).take (T.length + k) ++ (vs ++ (T ++ (A ++ R)).drop (T.length + k + vs.length)) = T ++ ((A.take k ++ (vs ++ A.drop (k + vs.length))) ++ R) := by
  rw [List.take_append, List.take_of_length_le (by omega), Nat.add_sub_cancel_left, List.take_append_of_le_length (by omega), List.drop_append, List.drop_of_length_le (by omega), List.nil_append, show T.length + k + vs.length - T.length = k + vs.length by omega, List.drop_append_of_le_length (by omega)]
  simp [List.append_assoc]
/-- Some cells of one row of rows turned. -/
theorem flat_sub {α : Type} {f : α → List Value} {n : Nat} (hf : ∀ a, (f a).length = n) (l : List α) (i : Nat) (b : α) (hi : i < l.length) (k : Nat) (vs : List Value) (hk : k + vs.length ≤ n) (hb : f b = (f (l[i]'hi)).take k ++ (vs ++ (f (l[i]'hi)).drop (k + vs.length))) :
    (l.flatMap f).take (i * n + k) ++ (vs ++ (l.flatMap f).drop (i * n + k + vs.length)) = (l.set i b).flatMap f := by
  have h1 := flat_set hf l i b hi
  have h2 := flat_set hf l i (l[i]'hi) hi
  rw [List.set_getElem_self, hf] at h2
  rw [hf] at h1
  have hT : ((l.flatMap f).take (i * n)).length = i * n := by
    rw [List.length_take, flat_len hf]
    have : i * n ≤ l.length * n := Nat.mul_le_mul_right n (by omega)
    omega
  generalize (l.flatMap f).take (i * n) = T at *
  generalize (l.flatMap f).drop (i * n + n) = R at *
  rw [← h1, ← h2, ← hT, cut_mid T (f (l[i]'hi)) R vs k (by rw [hf]; exact hk), hb]
theorem rangeMid {w : World} {g : Nat} {t : TypeId} {h : HI} (hb : Bk w g t (flatH h).toArray) {n : Nat} (hn : n < h.length) (k m : Nat) {cs : List Value} (e : ((h[n]'hn).1.cs.toList.drop k).take m = cs) : w.rangeAt g (n * 18 + k) cs := by
  have h1 : w.rangeAt g (n * 18) (h[n]'hn).1.cs.toList := Bk.mid hb (n * 18) _ (flat_drop objF_len h n hn)
  rw [← e]
  exact range_field h1 k m
def nullI : VI := ⟨1, 0, ⟨#[]⟩, 0⟩
def rvkE (e : OJ × List PI) : OJ × List PI := ({ e.1 with tg := nullI, hd := nullI }, e.2)
/-- A heap with one proxy revoked. -/
def revH (h : HI) (n : Nat) : HI := match h[n]? with | some e => h.set n (rvkE e) | none => h
theorem revH_at {h : HI} {n : Nat} (hn : n < h.length) : revH h n = h.set n (rvkE (h[n]'hn)) := by unfold revH; rw [List.getElem?_eq_getElem hn]
theorem bareE_rvk {e e' : OJ × List PI} (h : bareE e = bareE e') : bareE (rvkE e) = bareE (rvkE e') := by
  obtain ⟨h1, h2⟩ := bareE_two h
  unfold rvkE bareE
  rw [h1, h2]
theorem bareH_rev {h h' : HI} (e : bareH h' = bareH h) {n : Nat} (hn : n < h.length) (hn' : n < h'.length) : bareH (h'.set n (rvkE (h'[n]'hn'))) = bareH (revH h n) := by
  rw [revH_at hn]
  unfold bareH
  rw [List.map_set, List.map_set, show h'.map bareE = h.map bareE from e, bareE_rvk (bareH_at e hn' hn)]
def RevQ (h : HI) (n : Int) (w : World) (e : Ending) (w' : World) : Prop := Below w.heap.size w w' ∧
  ((askE h [n] ≠ 0 ∧ e = .returned (.tuple #[.agg #[.slice none 0 0], .int .i64 (askE h [n])])) ∨
   (askE h [n] = 0 ∧ (objAt h n.toNat).kd ≠ 6 ∧ e = .returned (.tuple #[.agg #[.slice none 0 0], .int .i64 2])) ∨
   (askE h [n] = 0 ∧ (objAt h n.toNat).kd = 6 ∧ ∃ h2 v2, e = .returned (.tuple #[.agg #[v2], .int .i64 0]) ∧ bareH h2 = bareH (revH h n.toNat) ∧ FreshH w.heap.size h2 v2 w'))

set_option maxHeartbeats 8000000 in
set_option maxRecDepth 100000 in
theorem revoke_heap (h : HI) (hok : HOk h) (hk : HKeys h) (hv : Value) (n : Int) (w : World) (hr : RdH h hv w) : Calls Tryz.prog 8 #[.agg #[hv], .int .i64 n] w (RevQ h n w) := by
  have HRD := hidB (fun W (hb : Below w.heap.size w W) => hr.on hb)
  have HOK := hidB hok
  have HKY := hidB hk
  obtain ⟨⟨pa, c, rfl, h1, h2, _⟩, _⟩ := hr
  unfold maxLen at h2
  have hlm : h.length ≤ 9223372036854775807 := by omega
  clear hok hk h1 h2
  have Y := hidB (show Bk ((w.alloc (.cells (#[(.slice pa h.length c)]) 24)).alloc (.cells (#[.slice none 0 0]) 24)) (w.heap.size) 24 (#[(.slice pa h.length c)]) from (Bk.new w _ _).alloc _)
  have R := hidB (show Bk ((w.alloc (.cells (#[(.slice pa h.length c)]) 24)).alloc (.cells (#[.slice none 0 0]) 24)) (w.heap.size + 1) 24 (#[.slice none 0 0]) from Bk.new2 w _ _ _)
  have B := hidB (show Below w.heap.size w ((w.alloc (.cells (#[(.slice pa h.length c)]) 24)).alloc (.cells (#[.slice none 0 0]) 24)) from (box_one w _).alloc (by simp) _)
  go_enter Tryz.func8, Tryz.ntmps8
  go_upto_region 1 with fail
  generalize hW : ((w.alloc (.cells (#[(.slice pa h.length c)]) 24)).alloc (.cells (#[.slice none 0 0]) 24)) = w1 at *
  clear hW
  have NB := hidB (show Bk (w1.alloc (.cells #[.int .i64 n] 3)) w1.heap.size 3 (intsC [n]) from Bk.new w1 _ _)
  have BA := hidB (show Below w.heap.size w (w1.alloc (.cells #[.int .i64 n] 3)) from B.out.alloc B.out.size _)
  have RA := hidB (R.out.alloc (.cells #[.int .i64 n] 3))
  have YA := hidB (show Bk (w1.alloc (.cells #[.int .i64 n] 3)) w.heap.size 24 #[(.slice pa h.length c)] from Y.out.alloc _)
  go_wp2_with (first | ((with_reducible refine ldId 24 (.tmp 2) ?_); refine wpList_load_row (by rfl) 24 (.tmp 2) (by rfl) (w.heap.size) (by rfl) 24 (#[(.slice pa h.length c)]) (0, 0) _ (by exact Y.out) Tryz.underlying24 (by rfl) (by kernel_rfl) ?_) | ((with_reducible refine wpId ?_); refine wpList_mkSliceH (by rfl) 32 3 1 1 _ (by rfl) [(0, .int .i64 n)] (by kernel_rfl) (.int .i64 0) #[.int .i64 n] Tryz.underlying32 (by kernel_rfl) (by decide) (by decide) (by kernel_rfl) ?_))
  refine (asked_chain h HOK.out HKY.out (.slice pa h.length c) [n] (by simp) _ (HRD.out _ BA.out) _ NB.out).mono ?_; rintro e w3 ⟨rfl, hb⟩
  replace Y := hidB (YA.out.on hb)
  replace R := hidB (RA.out.on hb)
  replace B := hidB (BA.out.trans (hb.mono BA.out.size))
  clear hb NB BA YA RA
  obtain ⟨ck, hck⟩ : ∃ ck, askE h [n] = ck := ⟨_, rfl⟩
  have HCK := hidB hck
  rw [hck]
  clear hck
  by_cases h0 : ck = 0
  rotate_left
  · have h0b : (ck == 0) = false := by rw [beq_eq_false_iff_ne]; exact h0
    have h0n : (ck != 0) = true := by rw [bne, h0b]; rfl
    have HN := hidB h0
    clear h0
    have r0 : w3.cell? ⟨w.heap.size + 1, 0, none⟩ = some (.slice none 0 0) := R.out.cell 0
    have f0 : w3.frozen? ⟨w.heap.size + 1, 0, none⟩ = false := R.out.free 0
    go_wp2_with fail
    exact bodyPost_ret (v := .tuple #[.agg (#[.slice none 0 0]), .int .i64 ck]) (results_row2C Tryz.results8 _ _ (w.heap.size + 1) 24 (#[.slice none 0 0]) (0, 0) _ rfl (R.out.set 0 _) Tryz.underlying24 rfl (by kernel_rfl)) rfl (⟨B.out.setCell (by show w.heap.size ≤ w.heap.size + 1; omega) _, Or.inl ⟨by rw [HCK.out]; exact HN.out, by rw [HCK.out]⟩⟩)
  subst h0
  have HC := hidB (chkH_ok (askE_ok HCK.out).1)
  obtain ⟨_, hn0, hn1⟩ := askE_ok HCK.out
  obtain ⟨n, rfl⟩ : ∃ k : Nat, n = (k : Int) := ⟨n.toNat, by omega⟩
  have hn : n < h.length := by omega
  clear hn0 hn1
  have hi0 : (0 : Int) ≤ (n : Int) := by omega
  have hi1 : (n : Int) < (h.length : Int) := by omega
  have HRW := HRD.out _ B.out
  obtain ⟨g, o, rfl, hgl, hrow⟩ := rd_rowH HRW hn
  have HPO := hidB (HRW.props _ (List.getElem_mem hn)).one
  have HGL := hidB hgl
  have HROW := hidB hrow
  clear hrow hgl HRW
  have HOE := hidB (objAt_lt hn)
  rw [← HOE.out] at HPO HROW
  replace HOE := hidB (rfl : objAt h n = objAt h n)
  obtain ⟨e0, he⟩ : ∃ q, objAt h n = q := ⟨_, rfl⟩
  replace HOE := hidB he
  rw [he] at HPO HROW
  try rw [he]
  clear he
  have y0 : w3.cell? ⟨w.heap.size, 0, none⟩ = some (.slice (some ⟨g, o, none⟩) h.length c) := Y.out.cell 0
  have k0 : w3.cell? ⟨g, o + n * 18, none⟩ = some (.int .u8 e0.kd) := HROW.out 0 _ rfl
  by_cases h6 : e0.kd = 6
  rotate_left
  · have h6b : (e0.kd == 6) = false := by rw [beq_eq_false_iff_ne]; exact h6
    have h6n : (e0.kd != 6) = true := by rw [bne, h6b]; rfl
    have H6 := hidB h6
    clear h6
    have r0 : w3.cell? ⟨w.heap.size + 1, 0, none⟩ = some (.slice none 0 0) := R.out.cell 0
    have f0 : w3.frozen? ⟨w.heap.size + 1, 0, none⟩ = false := R.out.free 0
    go_wp2_with fail
    exact bodyPost_ret (v := .tuple #[.agg (#[.slice none 0 0]), .int .i64 2]) (results_row2C Tryz.results8 _ _ (w.heap.size + 1) 24 (#[.slice none 0 0]) (0, 0) _ rfl (R.out.set 0 _) Tryz.underlying24 rfl (by kernel_rfl)) rfl (⟨B.out.setCell (by show w.heap.size ≤ w.heap.size + 1; omega) _, Or.inr (Or.inl ⟨HCK.out, by rw [Int.toNat_natCast, HOE.out]; exact H6.out, rfl⟩)⟩)
  have h6b : (e0.kd == 6) = true := by rw [h6]; rfl
  have h6n : (e0.kd != 6) = false := by rw [bne, h6b]; rfl
  have H6 := hidB h6
  clear h6
  have TWN := hidB (fun W hr => twinH_any h (.slice (some ⟨g, o, none⟩) h.length c) W hr (fun e he => Nat.le_trans (allO_len HC.out.2.1 e he) (by decide)) (by have := HC.out.1; omega))
  go_upto_region 6 with fail
  clear y0 k0 h6b h6n
  go_wp2_with (first | ((with_reducible refine ldId 24 (.tmp 2) ?_); refine wpList_load_row (by rfl) 24 (.tmp 2) (by rfl) (w.heap.size) (by rfl) 24 (#[(.slice (some ⟨g, o, none⟩) h.length c)]) (0, 0) _ (by exact Y.out) Tryz.underlying24 (by rfl) (by kernel_rfl) ?_))
  refine (TWN.out _ (HRD.out _ B.out)).mono ?_; rintro e w4 ⟨h', gT, rfl, htw, hb⟩
  have TW := hidB htw
  replace R := hidB (R.out.on hb)
  have HB3 := hidB B.out.size
  replace B := hidB (B.out.trans (hb.mono B.out.size))
  clear htw TWN Y
  skip
  clear hb
  have GT := hidB (show Bk (w4.alloc (.cells #[(.slice (some ⟨gT, 0, none⟩) h.length h.length)] 24)) w4.heap.size 24 #[(.slice (some ⟨gT, 0, none⟩) h.length h.length)] from Bk.new w4 _ _)
  have R5 := hidB (show Bk (w4.alloc (.cells #[(.slice (some ⟨gT, 0, none⟩) h.length h.length)] 24)) (w.heap.size + 1) 24 #[.slice none 0 0] from R.out.alloc _)
  have B5 := hidB (show Below w.heap.size w (w4.alloc (.cells #[(.slice (some ⟨gT, 0, none⟩) h.length h.length)] 24)) from B.out.alloc B.out.size _)
  have TW5 := hidB (show TwinH w3.heap.size h.length h h' gT (w4.alloc (.cells #[(.slice (some ⟨gT, 0, none⟩) h.length h.length)] 24)) from TW.out.on (box_one w4 _))
  have hgt1 := hidB R.out.lt
  clear R B TW
  have hT : n < h'.length := by rw [bareH_length TW5.out.bare]; exact hn
  have HBE := hidB (bareH_at TW5.out.bare hT hn)
  go_upto_region 7 with (first | ((with_reducible refine wpId ?_); refine wpList_store_new (by rfl) 24 (.tmp 7) (.tmp 26) (by rfl) #[(.slice (some ⟨gT, 0, none⟩) h.length h.length)] 24 _ (by rfl) (by rfl) (by kernel_rfl) (by rfl) (by rfl) ?_))
  generalize (w4.alloc (.cells #[(.slice (some ⟨gT, 0, none⟩) h.length h.length)] 24)) = w5 at *
  generalize w4.heap.size = gt at *
  have t0 : w5.cell? ⟨gt, 0, none⟩ = some (.slice (some ⟨gT, 0, none⟩) h.length h.length) := GT.out.cell 0
  have HPS := hidB TW5.out.all
  have BT := hidB TW5.out.blk
  have HLEN := hidB (flatH_len h')
  have HT18 := hidB (show n * 18 + 18 ≤ (flatH h').toArray.size by rw [List.size_toArray, flatH_len]; omega)
  have far6 := setCells_heap w5 gT (n * 18 + 7) nullI.cells
  have hTt : gt ≠ gT := GT.out.neT BT.out (by decide)
  have hTr : w.heap.size + 1 ≠ gT := R5.out.neT BT.out (by decide)
  have hBT : w.heap.size ≤ gT := Nat.le_trans HB3.out TW5.out.low
  have BT6 := hidB (show Bk (w5.setCells gT (n * 18 + 7) nullI.cells) gT 46 (flatH (h'.set n (({ (h'[n]'hT).1 with tg := nullI } : OJ), (h'[n]'hT).2))).toArray from Bk.setCells2 BT.out nullI.cells (n * 18 + 7) (by have := HT18.out; show n * 18 + 7 + 4 ≤ _; omega) (flat_sub objF_len h' n (({ (h'[n]'hT).1 with tg := nullI } : OJ), (h'[n]'hT).2) hT 7 nullI.cells (by decide) rfl))
  have GT6 := hidB (show Bk (w5.setCells gT (n * 18 + 7) nullI.cells) gt 24 #[(.slice (some ⟨gT, 0, none⟩) h.length h.length)] from (far6.2 _ hTt).trans GT.out)
  have R6 := hidB (show Bk (w5.setCells gT (n * 18 + 7) nullI.cells) (w.heap.size + 1) 24 #[.slice none 0 0] from (far6.2 _ hTr).trans R5.out)
  have B6 := hidB (show Below w.heap.size w (w5.setCells gT (n * 18 + 7) nullI.cells) from below_setCells hBT _ _ B5.out)
  have PS6 := hidB (fun e (he : e ∈ h') => (HPS.out e he).far (w1 := (w5.setCells gT (n * 18 + 7) nullI.cells)) BT.out (by decide) (Nat.zero_le _) (Nat.le_of_eq far6.1.symm) far6.2)
  skip
  go_upto_region 9 with (first | ((with_reducible refine wpId ?_); refine wpList_build_to (by rfl) 43 _ (by rfl) (nullI.cells.toArray) (by kernel_rfl) ?_) | ((with_reducible refine stId 43 (.tmp 34) (.tmp 32) ?_); refine wpList_store_mid (by rfl) 43 (.tmp 34) (.tmp 32) (by rfl) gT (n * 18 + 7) nullI.cells.toArray (by rfl) (by rfl) (by exact Bk.there BT.out (n * 18 + 7) 4 (by have := HT18.out; omega)) (by kernel_rfl) (by exact vi_oneC nullI) ?_))
  clear far6 t0 B5 R5 GT HPS
  generalize (w5.setCells gT (n * 18 + 7) nullI.cells) = w6 at *
  have far7 := setCells_heap w6 gT (n * 18 + 11) nullI.cells
  have hT2 : n < (h'.set n (({ (h'[n]'hT).1 with tg := nullI } : OJ), (h'[n]'hT).2)).length := by rw [List.length_set]; exact hT
  have HMID := hidB (show w6.rangeAt gT (n * 18 + 7) nullI.cells from rangeMid BT6.out hT2 7 4 (by rw [List.getElem_set_self]; rfl))
  have BT7 := hidB (show Bk (w6.setCells gT (n * 18 + 11) nullI.cells) gT 46 (flatH (h'.set n (rvkE (h'[n]'hT)))).toArray from by
    have h7 := Bk.setCells2 (ds := (flatH ((h'.set n (({ (h'[n]'hT).1 with tg := nullI } : OJ), (h'[n]'hT).2)).set n (rvkE (h'[n]'hT)))).toArray) BT6.out nullI.cells (n * 18 + 11) (by have := HT18.out; rw [List.size_toArray, flatH_len] at this ⊢; rw [List.length_set]; show n * 18 + 11 + 4 ≤ _; omega) (flat_sub objF_len _ n (rvkE (h'[n]'hT)) hT2 11 nullI.cells (by decide) (by rw [List.getElem_set_self]; rfl))
    rw [List.set_set] at h7
    exact h7)
  have GT7 := hidB (show Bk (w6.setCells gT (n * 18 + 11) nullI.cells) gt 24 #[(.slice (some ⟨gT, 0, none⟩) h.length h.length)] from (far7.2 _ hTt).trans GT6.out)
  have R7 := hidB (show Bk (w6.setCells gT (n * 18 + 11) nullI.cells) (w.heap.size + 1) 24 #[.slice none 0 0] from (far7.2 _ hTr).trans R6.out)
  have B7 := hidB (show Below w.heap.size w (w6.setCells gT (n * 18 + 11) nullI.cells) from below_setCells hBT _ _ B6.out)
  have PS7 := hidB (fun e (he : e ∈ h') => (PS6.out e he).far (w1 := (w6.setCells gT (n * 18 + 11) nullI.cells)) BT6.out (by decide) (Nat.zero_le _) (Nat.le_of_eq far7.1.symm) far7.2)
  go_upto_region 10 with (first | ((with_reducible refine ldId 43 (.tmp 38) ?_); refine wpList_load_mid (by rfl) 43 (.tmp 38) (by rfl) gT (n * 18 + 7) (by rfl) nullI.cells _ (by exact HMID.out) Tryz.underlying43 (by rfl) (by kernel_rfl) ?_) | ((with_reducible refine stId 43 (.tmp 41) (.tmp 39) ?_); refine wpList_store_mid (by rfl) 43 (.tmp 41) (.tmp 39) (by rfl) gT (n * 18 + 11) nullI.cells.toArray (by rfl) (by rfl) (by exact Bk.there BT6.out (n * 18 + 11) 4 (by have := HT18.out; rw [List.size_toArray, flatH_len] at this ⊢; rw [List.length_set]; omega)) (by kernel_rfl) (by exact vi_oneC nullI) ?_))
  clear far7 B6 R6 GT6 PS6 BT6 HMID
  generalize (w6.setCells gT (n * 18 + 11) nullI.cells) = w7 at *
  have HBR := hidB (bareH_rev TW5.out.bare hn hT)
  have HL2 := hidB (show (h'.set n (rvkE (h'[n]'hT))).length = h.length by rw [List.length_set, bareH_length TW5.out.bare])
  have PS8 := hidB (fun e (he : e ∈ h'.set n (rvkE (h'[n]'hT))) => (show RdY 0 e.2 e.1.props w7 from (List.mem_or_eq_of_mem_set he).elim (fun h1 => PS7.out e h1) (fun h1 => by subst h1; exact PS7.out (h'[n]'hT) (List.getElem_mem hT))))
  clear PS7 BT HLEN HBE
  generalize (h'.set n (rvkE (h'[n]'hT))) = h2 at *
  have OWN := hidB (show w7.ownsRow w.heap.size 46 18 (.slice (some ⟨gT, 0, none⟩) h.length h.length) h2.length (flatH h2) from ⟨flatH_len h2, Or.inr ⟨gT, h.length, _, by rw [HL2.out], hBT, BT7.out, by rw [HL2.out]; exact Nat.le_refl _, by have := HC.out.1; unfold maxLen; omega, by rw [List.size_toArray, flatH_len, HL2.out], by rw [List.take_of_length_le (by show (flatH h2).length ≤ _; rw [flatH_len]; exact Nat.le_refl _)]⟩⟩)
  have r0 : w7.cell? ⟨w.heap.size + 1, 0, none⟩ = some (.slice none 0 0) := R7.out.cell 0
  have f0 : w7.frozen? ⟨w.heap.size + 1, 0, none⟩ = false := R7.out.free 0
  go_wp2_with (first | ((with_reducible refine ldId 24 (.tmp 7) ?_); refine wpList_load_row (by rfl) 24 (.tmp 7) (by rfl) (gt) (by rfl) 24 (#[(.slice (some ⟨gT, 0, none⟩) h.length h.length)]) (0, 0) _ (by exact GT7.out) Tryz.underlying24 (by rfl) (by kernel_rfl) ?_))
  have FR := hidB (show FreshH w.heap.size h2 (.slice (some ⟨gT, 0, none⟩) h.length h.length) (w7.setCell ⟨w.heap.size + 1, 0, none⟩ (.slice (some ⟨gT, 0, none⟩) h.length h.length)) from ⟨OWN.out.kept (set_grownH w7 _ _) (Or.inr (own_ne_typeH OWN.out (by decide) R7.out)), fun e he => (PS8.out e he).far R7.out (by decide) (Nat.zero_le _) (Nat.le_of_eq (by simp [World.setCell])) (fun b hb => Below.heap_setCell w7 _ _ b hb)⟩)
  exact bodyPost_ret (v := .tuple #[.agg (#[(.slice (some ⟨gT, 0, none⟩) h.length h.length)]), .int .i64 0]) (results_row2C Tryz.results8 _ _ (w.heap.size + 1) 24 (#[(.slice (some ⟨gT, 0, none⟩) h.length h.length)]) (0, 0) _ rfl (R7.out.set 0 _) Tryz.underlying24 rfl (by kernel_rfl)) rfl (⟨B7.out.setCell (by show w.heap.size ≤ w.heap.size + 1; omega) _, Or.inr (Or.inr ⟨HCK.out, by rw [Int.toNat_natCast, HOE.out]; exact H6.out, h2, _, rfl, by rw [Int.toNat_natCast]; exact HBR.out, FR.out⟩)⟩)

end Go.Proofs.YtnidamkgfgddfaaGreat
