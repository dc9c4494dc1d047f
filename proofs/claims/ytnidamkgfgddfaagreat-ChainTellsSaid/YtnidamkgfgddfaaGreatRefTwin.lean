/-
  The reference's twins.
-/
import Derived.Test.YtnidamkgfgddfaaGreatRefHeap
import Derived.Test.YtnidamkgfgddfaaGreatChainF
namespace Go.Proofs.YtnidamkgfgddfaaGreat
open Go.RowKit

section
variable {w w1 : World} {base : Nat} {tv : Value} {n : Nat} {xs : List Value}
theorem own_low (ho : w.ownsRow base 46 18 tv n xs) : ∀ k, tv.ownBlock = some k → base ≤ k := by
  intro k hk
  rcases ho.2 with ⟨rfl, _⟩ | ⟨g, cap, cur, rfl, hb, _⟩
  · simp [Value.ownBlock] at hk
  · simp [Value.ownBlock] at hk; omega
theorem Bk.grownV {b : Nat} {t : TypeId} {cs : Array Value} (h : Bk w b t cs) (ht : 46 ≠ t) (ho : w.ownsRow base 46 18 tv n xs) (hg : w.grownBy w1 tv.ownBlock) : Bk w1 b t cs :=
  (hg.block b h.lt (fun e => own_ne_typeH ho ht h e.symm)).trans h
theorem RdY.grownV {l : List PI} {v : Value} (h : RdY 0 l v w) (ho : w.ownsRow base 46 18 tv n xs) (hg : w.grownBy w1 tv.ownBlock) : RdY 0 l v w1 := by
  rcases ho.2 with ⟨rfl, _⟩ | ⟨g, cap, cur, rfl, _, hgb, _⟩
  · exact h.on ((Below.refl w.heap.size w).grown hg (Nat.le_refl _) (fun k hk => by simp [Value.ownBlock] at hk))
  · exact h.grown (g := g) hgb (by decide) (Nat.zero_le _) (by simpa [Value.ownBlock] using hg)
theorem below_grownV {b : Nat} {a : World} (h : Below b a w) (hb : b ≤ w.heap.size) (hl : b ≤ base) (ho : w.ownsRow base 46 18 tv n xs) (hg : w.grownBy w1 tv.ownBlock) : Below b a w1 :=
  h.grown hg hb (fun k hk => Nat.le_trans hl (own_low ho k hk))
end
theorem FreshH.nil (B : Nat) (w : World) : FreshH B [] (.slice none 0 0) w := ⟨World.ownsRow_nil _ _ _ _, fun e he => by cases he⟩

theorem own_lowP {w : World} {base : Nat} {tv : Value} {n : Nat} {xs : List Value} (ho : w.ownsRow base 70 18 tv n xs) : ∀ k, tv.ownBlock = some k → base ≤ k := by
  intro k hk
  rcases ho.2 with ⟨rfl, _⟩ | ⟨g, cap, cur, rfl, hb, _⟩
  · simp [Value.ownBlock] at hk
  · simp [Value.ownBlock] at hk; omega
set_option maxHeartbeats 8000000 in
set_option maxRecDepth 100000 in
theorem robj_any (x : OJ) (l : List PI) (w : World) (h : RdP l x.props w) (hl : l.length ≤ 4096) : Calls Tryz.prog 20 #[x.a] w fun e w' => ∃ pv, e = .returned ({ x with props := pv } : OJ).a ∧ w'.ownsRow w.heap.size 70 18 pv l.length (flatP l) ∧ Below w.heap.size w w' := by
  have HR := hidB (fun W (hb : Below w.heap.size w W) => h.on hb)
  have HP := hidB h
  have HL := hidB hl
  obtain ⟨i0, hi, hz0, hz1, hz2⟩ := info_parts info_propH
  obtain ⟨pa, c, hpp, h1, h2, h3⟩ := h
  have HC := hidB h3
  have HPP := hidB hpp
  clear h3 hl hpp
  have X := hidB (show Bk ((w.alloc (.cells (x.cs) 46)).alloc (.cells (#[.int .u8 0, .int .u8 0, .float .f64 0, .string ⟨#[]⟩, .int .i64 0, .bool false, .slice none 0 0, .int .u8 0, .float .f64 0, .string ⟨#[]⟩, .int .i64 0, .int .u8 0, .float .f64 0, .string ⟨#[]⟩, .int .i64 0, .string ⟨#[]⟩, .bool false, .bool false]) 46)) (w.heap.size) 46 (x.cs) from (Bk.new w _ _).alloc _)
  have R := hidB (show Bk ((w.alloc (.cells (x.cs) 46)).alloc (.cells (#[.int .u8 0, .int .u8 0, .float .f64 0, .string ⟨#[]⟩, .int .i64 0, .bool false, .slice none 0 0, .int .u8 0, .float .f64 0, .string ⟨#[]⟩, .int .i64 0, .int .u8 0, .float .f64 0, .string ⟨#[]⟩, .int .i64 0, .string ⟨#[]⟩, .bool false, .bool false]) 46)) (w.heap.size + 1) 46 (#[.int .u8 0, .int .u8 0, .float .f64 0, .string ⟨#[]⟩, .int .i64 0, .bool false, .slice none 0 0, .int .u8 0, .float .f64 0, .string ⟨#[]⟩, .int .i64 0, .int .u8 0, .float .f64 0, .string ⟨#[]⟩, .int .i64 0, .string ⟨#[]⟩, .bool false, .bool false]) from Bk.new2 w _ _ _)
  have B := hidB (show Below w.heap.size w ((w.alloc (.cells (x.cs) 46)).alloc (.cells (#[.int .u8 0, .int .u8 0, .float .f64 0, .string ⟨#[]⟩, .int .i64 0, .bool false, .slice none 0 0, .int .u8 0, .float .f64 0, .string ⟨#[]⟩, .int .i64 0, .int .u8 0, .float .f64 0, .string ⟨#[]⟩, .int .i64 0, .string ⟨#[]⟩, .bool false, .bool false]) 46)) from (box_one w _).alloc (by simp) _)
  go_enter Tryz.func20, Tryz.ntmps20
  go_upto_region 1 with fail
  generalize hW : ((w.alloc (.cells (x.cs) 46)).alloc (.cells (#[.int .u8 0, .int .u8 0, .float .f64 0, .string ⟨#[]⟩, .int .i64 0, .bool false, .slice none 0 0, .int .u8 0, .float .f64 0, .string ⟨#[]⟩, .int .i64 0, .int .u8 0, .float .f64 0, .string ⟨#[]⟩, .int .i64 0, .string ⟨#[]⟩, .bool false, .bool false]) 46)) = w1 at *
  clear hW
  have x6 : w1.cell? ⟨w.heap.size, 6, none⟩ = some (.slice pa l.length c) := (X.out.cell 6).trans (congrArg some HPP.out)
  go_cut [3] from 4 to 4 (fun s3 wx => s3 = .slice none 0 0 ∧ w1 = wx)
  case first =>
    go_wp2_with fail
    go_meet
    case rel => exact ⟨rfl, rfl⟩
  case rest =>
  obtain ⟨hs3, rfl⟩ := hcut
  have HS3 := hidB hs3
  clear hs3
  go_upto_region 2 with fail
  go_cut [3] from 4 to 7 (fun s3 wx => wx.ownsRow w1.heap.size 70 18 s3 l.length (flatP l) ∧ Below w1.heap.size w1 wx)
  case first =>
    cases pa with
    | none =>
      have h0 : l = [] := by
        cases l with
        | nil => rfl
        | cons a r => obtain ⟨g, o, e, _⟩ := HC.out (by simp); cases e
      subst h0
      clear HC
      obtain rfl := HS3.out
      go_wp2_with fail
      go_meet
      case rel => exact ⟨World.ownsRow_nil _ _ _ _, Below.refl _ _⟩
    | some ad =>
      have HC1 : Hid (0 < l.length → ∃ g o, (some ad) = some ⟨g, o, none⟩ ∧ ∀ i (hi : i < l.length), w1.rangeAt g (o + i * 18) l[i].cs.toList) := hidB (fun h0 => by obtain ⟨g, o, e, hg, hx⟩ := HC.out h0; exact ⟨g, o, e, fun i hi => rangeOn B.out hg (hx i hi)⟩)
      go_wp2_with (at_builtin; refine wpList_append_own _ rfl _ _ 44 rfl w1.heap.size 70 i0 zeroPropH 18 160 Tryz.underlying44 hi hz0 hz1 hz2 rfl (by decide) _ 0 [] rfl (HS3.out.symm ▸ World.ownsRow_nil _ _ _ _) ad l.length c (flatP l) rfl ?qc1 ?qc2 ?qc3 ?qc4 ?qc5 ?qc6 ?_)
      case qc1 => exact flat_len PI.flat_len l
      case qc2 =>
        intro j u hj
        obtain ⟨i, hil, hm, rfl, hu⟩ := flat_find PI.flat_len (by decide) hj
        obtain ⟨g, o, e, hx⟩ := HC1.out (by omega)
        cases e
        have := hx (j / 18) hil (j % 18) u hu
        rw [Addr.add_mid]
        have e : o + j / 18 * 18 + j % 18 = o + j := by omega
        rw [e] at this
        exact this
      case qc3 => exact flatP_one l
      case qc4 => unfold maxLen; have := HL.out; omega
      case qc5 => have := HL.out; omega
      intro v' w2 hown hgrow hnil
      have HO := hidB hown
      have HG := hidB hgrow
      clear hown hgrow hnil
      go_wp2_with fail
      go_meet
      case rel => exact ⟨by simpa using HO.out, (Below.refl w1.heap.size w1).grown HG.out (Nat.le_refl _) (fun k hk => by rw [HS3.out] at hk; simp [Value.ownBlock] at hk)⟩
  case rest =>
  obtain ⟨hown, hb⟩ := hcut
  obtain ⟨q, c2, rfl⟩ := own_sliceH hown
  have HO := hidB (own_baseH hown (show w.heap.size + 1 + 1 ≤ w1.heap.size from R.out.lt))
  replace X := hidB (X.out.on hb)
  replace R := hidB (R.out.on hb)
  replace B := hidB (B.out.trans (hb.mono B.out.size))
  clear hb hown x6 HR HC hi hz0 hz1 hz2
  skip
  have y6 : wc.cell? ⟨w.heap.size, 6, none⟩ = some x.props := X.out.cell 6
  have f6 : wc.frozen? ⟨w.heap.size, 6, none⟩ = false := X.out.free 6
  have X3 := hidB (show Bk (wc.setCell ⟨w.heap.size, 6, none⟩ (.slice q l.length c2)) w.heap.size 46 ({ x with props := .slice q l.length c2 } : OJ).cs from X.out.set 6 _)
  have R3 := hidB (show Bk (wc.setCell ⟨w.heap.size, 6, none⟩ (.slice q l.length c2)) (w.heap.size + 1) 46 #[.int .u8 0, .int .u8 0, .float .f64 0, .string ⟨#[]⟩, .int .i64 0, .bool false, .slice none 0 0, .int .u8 0, .float .f64 0, .string ⟨#[]⟩, .int .i64 0, .int .u8 0, .float .f64 0, .string ⟨#[]⟩, .int .i64 0, .string ⟨#[]⟩, .bool false, .bool false] from R.out.far (by show w.heap.size + 1 ≠ w.heap.size; omega) _)
  have B3 := hidB (show Below w.heap.size w (wc.setCell ⟨w.heap.size, 6, none⟩ (.slice q l.length c2)) from B.out.setCell (p := ⟨w.heap.size, 6, none⟩) (Nat.le_refl _) _)
  have HO3 := hidB (show (wc.setCell ⟨w.heap.size, 6, none⟩ (.slice q l.length c2)).ownsRow (w.heap.size + 1 + 1) 70 18 (.slice q l.length c2) l.length (flatP l) from own_keepH HO.out (by simp [World.setCell]) (fun g hg => Below.heap_setCell wc _ _ g (by show g ≠ w.heap.size; omega)) rfl rfl rfl)
  clear X R B HO
  go_upto_region 4 with fail
  generalize hW : (wc.setCell ⟨w.heap.size, 6, none⟩ (.slice q l.length c2)) = w3 at *
  clear hW y6 f6
  go_wp2_with (first | ((with_reducible refine ldId 46 (.tmp 1) ?_); refine wpList_load_row (by rfl) 46 (.tmp 1) (by rfl) (w.heap.size) (by rfl) 46 (({ x with props := .slice q l.length c2 } : OJ).cs) (0, 0) _ (by exact X3.out) Tryz.underlying46 (by rfl) (by kernel_rfl) ?_) | ((with_reducible refine stId 46 (.tmp 2) (.tmp 10) ?_); refine wpList_store_row (by rfl) 46 (.tmp 2) (.tmp 10) (by rfl) (w.heap.size + 1) (({ x with props := .slice q l.length c2 } : OJ).cs) (by rfl) (by rfl) 46 (#[.int .u8 0, .int .u8 0, .float .f64 0, .string ⟨#[]⟩, .int .i64 0, .bool false, .slice none 0 0, .int .u8 0, .float .f64 0, .string ⟨#[]⟩, .int .i64 0, .int .u8 0, .float .f64 0, .string ⟨#[]⟩, .int .i64 0, .string ⟨#[]⟩, .bool false, .bool false]) (by exact R3.out) (by kernel_rfl) (by rfl) (by exact OJ.one _ (own_oneH HO3.out)) ?_))
  exact bodyPost_ret (v := .agg (({ x with props := .slice q l.length c2 } : OJ).cs)) (results_cell_row Tryz.results20 _ _ (w.heap.size + 1) 46 (({ x with props := .slice q l.length c2 } : OJ).cs) (0, 0) _ rfl (R3.out.setRow _) Tryz.underlying46 rfl (by kernel_rfl)) rfl (⟨_, rfl, own_baseH (own_keepH HO3.out (by simp [World.setRow]) (fun g hg => setRow_other w3 _ g _ (by omega)) rfl rfl rfl) (by omega), below_setRow B3.out (Nat.le_succ _) _⟩)

/-- What a twin is. -/
def RTwQ (h : HI) (w : World) (e : Ending) (w' : World) : Prop := ∃ tv, e = .returned (.agg #[tv]) ∧ FrB w.heap.size h tv w' ∧ Below w.heap.size w w'
def RTwS (w : World) (hv : Value) (W : World) : Prop := Below w.heap.size w W ∧ Bk W w.heap.size 24 #[hv] ∧ Bk W (w.heap.size + 1) 24 #[.slice none 0 0]
theorem RTwS.on {w : World} {hv : Value} {W W1 : World} (s : RTwS w hv W) (hb : Below W.heap.size W W1) : RTwS w hv W1 := ⟨s.1.trans (hb.mono s.1.size), s.2.1.on hb, s.2.2.on hb⟩
/-- So many objects are there. -/
def RTwG (h : HI) (w : World) (i : Nat) (W : World) : Prop := ∃ (tv : Value) (h' : HI), Bk W (w.heap.size + 1 + 1) 24 #[tv] ∧ FreshH w.heap.size h' tv W ∧ bareH h' = bareH (h.take i) ∧ h'.length = i
set_option maxHeartbeats 8000000 in
set_option maxRecDepth 100000 in
theorem rtwin_any (h : HI) (hv : Value) (w : World) (hr : RdH h hv w) (hl : ∀ e ∈ h, e.2.length ≤ 4096) (hm : h.length ≤ 9000) : Calls Tryz.prog 5 #[.agg #[hv]] w (RTwQ h w) := by
  have HPR := hidB hr.props
  obtain ⟨⟨pa, c, rfl, h1, h2, h3⟩, _⟩ := hr
  unfold maxLen at h2
  have hlm : h.length ≤ 9223372036854775807 := by omega
  have HC := hidB h3
  have HL := hidB hl
  have HM := hidB hm
  clear h3 hl hm h1
  obtain ⟨i0, hi, hz0, hz1, hz2⟩ := info_parts info_objH
  have Y := hidB (show Bk (((w.alloc (.cells (#[(.slice pa h.length c)]) 24)).alloc (.cells (#[.slice none 0 0]) 24)).alloc (.cells (#[.slice none 0 0]) 24)) (w.heap.size) 24 (#[(.slice pa h.length c)]) from ((Bk.new w _ _).alloc _).alloc _)
  have R := hidB (show Bk (((w.alloc (.cells (#[(.slice pa h.length c)]) 24)).alloc (.cells (#[.slice none 0 0]) 24)).alloc (.cells (#[.slice none 0 0]) 24)) (w.heap.size + 1) 24 (#[.slice none 0 0]) from (Bk.new2 w _ _ _).alloc _)
  have GT := hidB (show Bk (((w.alloc (.cells (#[(.slice pa h.length c)]) 24)).alloc (.cells (#[.slice none 0 0]) 24)).alloc (.cells (#[.slice none 0 0]) 24)) (w.heap.size + 1 + 1) 24 (#[.slice none 0 0]) from Bk.new3 w _ _ _ _)
  have B := hidB (show Below w.heap.size w (((w.alloc (.cells (#[(.slice pa h.length c)]) 24)).alloc (.cells (#[.slice none 0 0]) 24)).alloc (.cells (#[.slice none 0 0]) 24)) from ((box_one w _).alloc (by simp) _).alloc (by simp <;> omega) _)
  go_enter Tryz.func5, Tryz.ntmps5
  go_upto_region 2 with fail
  have S := hidB (show RTwS w (.slice pa h.length c) (((w.alloc (.cells (#[(.slice pa h.length c)]) 24)).alloc (.cells (#[.slice none 0 0]) 24)).alloc (.cells (#[.slice none 0 0]) 24)) from ⟨B.out, Y.out, R.out⟩)
  clear Y R B
  generalize hW : (((w.alloc (.cells (#[(.slice pa h.length c)]) 24)).alloc (.cells (#[.slice none 0 0]) 24)).alloc (.cells (#[.slice none 0 0]) 24)) = w1 at *
  clear hW
  go_wp2_with fail
  go_loopw [4] (fun s4 wr => ∃ i : Nat, i ≤ h.length ∧ s4 = .int .i64 i ∧ RTwS w (.slice pa h.length c) wr ∧ RTwG h w i wr) (fun i _ => h.length - (intOf i).toNat)
  case atStart => exact ⟨0, Nat.zero_le _, rfl, S.out, ⟨_, [], GT.out, FreshH.nil _ _, rfl, rfl⟩⟩
  case round =>
    clear S GT
    obtain ⟨i, hii, rfl, hs, tv, h', hg, hf, hbr, hln⟩ := hrel
    obtain ⟨qt, ct, rfl⟩ := own_sliceH hf.own
    have S := hidB hs
    have GT := hidB hg
    have FR := hidB hf
    have HBR := hidB hbr
    have HLN := hidB hln
    clear hs hg hf hbr hln
    have hx2 : (0 : Int) ≤ (i : Int) := by omega
    have y0 : wr.cell? ⟨w.heap.size, 0, none⟩ = some (.slice pa h.length c) := S.out.2.1.cell 0
    by_cases hlt : i < h.length
    rotate_left
    · obtain rfl : i = h.length := by omega
      have hx4 : ¬ ((h.length : Int) < (h.length : Int)) := by omega
      rw [List.take_length] at HBR
      have r0 : wr.cell? ⟨w.heap.size + 1, 0, none⟩ = some (.slice none 0 0) := S.out.2.2.cell 0
      have f0 : wr.frozen? ⟨w.heap.size + 1, 0, none⟩ = false := S.out.2.2.free 0
      go_wp2_with (first | ((with_reducible refine ldId 24 (.tmp 3) ?_); refine wpList_load_row (by rfl) 24 (.tmp 3) (by rfl) (w.heap.size + 1 + 1) (by rfl) 24 (#[(.slice qt h'.length ct)]) (0, 0) _ (by exact GT.out) Tryz.underlying24 (by rfl) (by kernel_rfl) ?_))
      have FR9 := hidB (show FreshH w.heap.size h' (.slice qt h'.length ct) (wr.setCell ⟨w.heap.size + 1, 0, none⟩ (.slice qt h'.length ct)) from ⟨FR.out.own.kept (set_grownH wr _ _) (Or.inr (own_ne_typeH FR.out.own (by decide) S.out.2.2)), fun e he => (FR.out.props e he).far S.out.2.2 (by decide) (Nat.zero_le _) (Nat.le_of_eq (by simp [World.setCell])) (fun b hb => Below.heap_setCell wr _ _ b hb)⟩)
      exact bodyPost_ret (v := .agg (#[(.slice qt h'.length ct)])) (results_cell_row Tryz.results5 _ _ (w.heap.size + 1) 24 (#[(.slice qt h'.length ct)]) (0, 0) _ rfl (S.out.2.2.set 0 _) Tryz.underlying24 rfl (by kernel_rfl)) rfl (⟨_, rfl, ⟨h', HBR.out, FR9.out⟩, S.out.1.setCell (by show w.heap.size ≤ w.heap.size + 1; omega) _⟩)
    have hx1 : (i : Int) < (h.length : Int) := by omega
    obtain ⟨g, o, rfl, hgl, hrow⟩ := HC.out (by omega)
    have HROW := hidB (fun W (hb : Below w.heap.size w W) => rangeOn hb hgl (hrow i hlt))
    have HPX := hidB (fun W (hb : Below w.heap.size w W) => (HPR.out _ (List.getElem_mem hlt)).on hb)
    have HLX := hidB (HL.out _ (List.getElem_mem hlt))
    have HTK := hidB (show bareH (h.take (i + 1)) = bareH (h.take i) ++ [bareE (h[i]'hlt)] by rw [List.take_succ_eq_append_getElem hlt, bareH_append]; rfl)
    clear hgl hrow
    generalize (h[i]'hlt) = e0 at *
    obtain ⟨x, l⟩ := e0
    have HTW := HTK
    clear HTK
    go_upto_region 5 with fail
    clear y0
    refine wp_region_noPanic ?_
    refine wp_region_held_drew (S := fun W => RTwS w (.slice (some ⟨g, o, none⟩) h.length c) W ∧ ∃ u, Bk W (w.heap.size + 1 + 1) 24 #[u]) (by kernel_rfl) ?_ (fun hHeld => ?_)
    · exact ⟨S.out.on (Below.refl _ _).drew, _, GT.out.drew⟩
    have HS := hidB (show RTwS w (.slice (some ⟨g, o, none⟩) h.length c) wr.drew from S.out.on (Below.refl _ _).drew)
    have HG := hidB (show Bk wr.drew (w.heap.size + 1 + 1) 24 #[(.slice qt h'.length ct)] from GT.out)
    have HF := hidB (show FreshH w.heap.size h' (.slice qt h'.length ct) wr.drew from FR.out.on (Below.refl _ _).drew)
    clear S GT FR
    generalize hWd : wr.drew = wd at *
    clear hWd
    first | (refine wpAnyH_take (i := 0) (v := undef) (by simp only [List.getElem?_toArray, List.getElem?_cons_zero]; exact rfl) (by kernel_rfl) (by kernel_rfl) (by kernel_rfl) (fun _ _ _ h => h) (Or.inr ⟨?_, rfl⟩) (by assumption) ?_; (rfl); try simp only [Act.put, List.setIfInBounds_toArray, List.set_cons_zero, List.set_cons_succ]) | (refine wpAnyH_take (i := 0) (v := ?_) (by simp only [List.getElem?_toArray, List.getElem?_cons_zero]; exact rfl) (by kernel_rfl) (by kernel_rfl) (by kernel_rfl) (fun _ _ _ h => h) (Or.inl ⟨?_, ?_⟩) (by assumption) ?_; rotate_left; (rfl); (focus (intro w hSw; (try dsimp only at hSw); go_simp; try with_reducible rfl)); try simp only [Act.put, List.setIfInBounds_toArray, List.set_cons_zero, List.set_cons_succ])
    first | (refine wpAnyH_take (i := 2) (v := undef) (by simp only [List.getElem?_toArray, List.getElem?_cons_succ, List.getElem?_cons_zero]; exact rfl) (by kernel_rfl) (by kernel_rfl) (by kernel_rfl) (fun _ _ _ h => h) (Or.inr ⟨?_, rfl⟩) (by assumption) ?_; (rfl); try simp only [Act.put, List.setIfInBounds_toArray, List.set_cons_zero, List.set_cons_succ]) | (refine wpAnyH_take (i := 2) (v := ?_) (by simp only [List.getElem?_toArray, List.getElem?_cons_succ, List.getElem?_cons_zero]; exact rfl) (by kernel_rfl) (by kernel_rfl) (by kernel_rfl) (fun _ _ _ h => h) (Or.inl ⟨?_, ?_⟩) (by assumption) ?_; rotate_left; (rfl); (focus (intro w hSw; (try dsimp only at hSw); go_simp; try with_reducible rfl)); try simp only [Act.put, List.setIfInBounds_toArray, List.set_cons_zero, List.set_cons_succ])
    first | (refine wpAnyH_take (i := 3) (v := undef) (by simp only [List.getElem?_toArray, List.getElem?_cons_succ, List.getElem?_cons_zero]; exact rfl) (by kernel_rfl) (by kernel_rfl) (by kernel_rfl) (fun _ _ _ h => h) (Or.inr ⟨?_, rfl⟩) (by assumption) ?_; (rfl); try simp only [Act.put, List.setIfInBounds_toArray, List.set_cons_zero, List.set_cons_succ]) | (refine wpAnyH_take (i := 3) (v := ?_) (by simp only [List.getElem?_toArray, List.getElem?_cons_succ, List.getElem?_cons_zero]; exact rfl) (by kernel_rfl) (by kernel_rfl) (by kernel_rfl) (fun _ _ _ h => h) (Or.inl ⟨?_, ?_⟩) (by assumption) ?_; rotate_left; (rfl); (focus (intro W hSw; have hc0 := (show W.cell? ⟨w.heap.size, 0, none⟩ = some (.slice (some ⟨g, o, none⟩) h.length c) from hSw.1.2.1.cell 0); clear hSw; go_simp; try with_reducible rfl)); try simp only [Act.put, List.setIfInBounds_toArray, List.set_cons_zero, List.set_cons_succ])
    first | (refine wpAnyH_take (i := 4) (v := undef) (by simp only [List.getElem?_toArray, List.getElem?_cons_succ, List.getElem?_cons_zero]; exact rfl) (by kernel_rfl) (by kernel_rfl) (by kernel_rfl) (fun _ _ _ h => h) (Or.inr ⟨?_, rfl⟩) (by assumption) ?_; (rfl); try simp only [Act.put, List.setIfInBounds_toArray, List.set_cons_zero, List.set_cons_succ]) | (refine wpAnyH_take (i := 4) (v := ?_) (by simp only [List.getElem?_toArray, List.getElem?_cons_succ, List.getElem?_cons_zero]; exact rfl) (by kernel_rfl) (by kernel_rfl) (by kernel_rfl) (fun _ _ _ h => h) (Or.inl ⟨?_, ?_⟩) (by assumption) ?_; rotate_left; (rfl); (focus (intro w hSw; (try dsimp only at hSw); go_simp; try with_reducible rfl)); try simp only [Act.put, List.setIfInBounds_toArray, List.set_cons_zero, List.set_cons_succ])
    first | (refine wpAnyH_take (i := 5) (v := undef) (by simp only [List.getElem?_toArray, List.getElem?_cons_succ, List.getElem?_cons_zero]; exact rfl) (by kernel_rfl) (by kernel_rfl) (by kernel_rfl) (fun _ _ _ h => h) (Or.inr ⟨?_, rfl⟩) (by assumption) ?_; (rfl); try simp only [Act.put, List.setIfInBounds_toArray, List.set_cons_zero, List.set_cons_succ]) | (refine wpAnyH_take (i := 5) (v := ?_) (by simp only [List.getElem?_toArray, List.getElem?_cons_succ, List.getElem?_cons_zero]; exact rfl) (by kernel_rfl) (by kernel_rfl) (by kernel_rfl) (fun _ _ _ h => h) (Or.inl ⟨?_, ?_⟩) (by assumption) ?_; rotate_left; (rfl); (focus (intro w hSw; (try dsimp only at hSw); go_simp; try with_reducible rfl)); try simp only [Act.put, List.setIfInBounds_toArray, List.set_cons_zero, List.set_cons_succ])
    (refine wpAnyH_take (i := 6) (v := x.a) (by simp only [List.getElem?_toArray, List.getElem?_cons_succ, List.getElem?_cons_zero]; exact rfl) (by kernel_rfl) (by kernel_rfl) (by kernel_rfl) (fun _ _ _ h => h) (yieldsIf_load_mid (by rfl) 46 (.tmp 17) (by rfl) (g) (o + i * 18) (by rfl) (x.cs.toList) _ (fun W hS => HROW.out W hS.1.1) Tryz.underlying46 (by rfl) (by kernel_rfl)) (by assumption) ?_; try simp only [Act.put, List.setIfInBounds_toArray, List.set_cons_zero, List.set_cons_succ])
    refine wpAnyH_ready (rs := [1, 7]) (by kernel_rfl) (by simp) ?_
    refine AllReadyH.cons rfl (fun K hK => ?_) ?_
    · skip
      have y1 : wd.cell? ⟨w.heap.size + 1 + 1, 0, none⟩ = some (.slice qt h'.length ct) := HG.out.cell 0
      go_simp
      clear y1
      refine hK.out _ _ ⟨HS.out, _, HG.out⟩ (fun _ => ?_)
      clear hK K
      try simp only [Act.put, List.setIfInBounds_toArray, List.set_cons_zero, List.set_cons_succ]
      refine wpAnyH_ready (rs := [7]) (by kernel_rfl) (by simp) ?_
      refine AllReadyH.cons rfl (fun K hK => ?_) AllReadyH.nil
      go_simp
      refine (robj_any x l _ (HPX.out _ HS.out.1) HLX.out).mono ?_; rintro e w5 ⟨pv, rfl, hown, hb⟩
      have HO := hidB hown
      have V2 := hidB (own_oneH hown)
      replace HS := hidB (HS.out.on hb)
      replace HG := hidB (HG.out.on hb)
      replace HF := hidB (HF.out.on hb)
      clear hown hb
      refine hK.out _ _ ⟨HS.out, _, HG.out⟩ (fun _ => ?_)
      clear hK K
      try simp only [Act.put, List.setIfInBounds_toArray, List.set_cons_zero, List.set_cons_succ]
      refine wpAnyH_ready (rs := [8]) (by kernel_rfl) (by simp) ?_
      refine AllReadyH.cons rfl (fun K hK => ?_) AllReadyH.nil
      rw [if_pos (by kernel_rfl)]
      refine wp_buildSliceH 22 46 1 18 _ (by rfl) [(0, ({ x with props := pv } : OJ).a)] (by kernel_rfl) (.agg zeroObjH) ({ x with props := pv } : OJ).cs Tryz.underlying22 (by kernel_rfl) (by decide) (by decide) (by kernel_rfl) ?_
      have HNB := hidB (Bk.new w5 46 ({ x with props := pv } : OJ).cs)
      replace HO := hidB (own_onH HO.out (box_one w5 (.cells ({ x with props := pv } : OJ).cs 46)))
      replace HS := hidB (HS.out.on (box_one w5 (.cells ({ x with props := pv } : OJ).cs 46)))
      replace HG := hidB (HG.out.on (box_one w5 (.cells ({ x with props := pv } : OJ).cs 46)))
      replace HF := hidB (HF.out.on (box_one w5 (.cells ({ x with props := pv } : OJ).cs 46)))
      refine hK.out _ _ ⟨HS.out, _, HG.out⟩ (fun _ => ?_)
      clear hK K
      try simp only [Act.put, List.setIfInBounds_toArray, List.set_cons_zero, List.set_cons_succ]
      generalize hWn : (w5.alloc (.cells ({ x with props := pv } : OJ).cs 46)) = w6 at *
      clear hWn
      generalize hGn : w5.heap.size = gN at *
      clear hGn
      refine wpAnyH_ready (rs := [9]) (by kernel_rfl) (by simp) ?_
      refine AllReadyH.cons rfl (fun K hK => ?_) AllReadyH.nil
      rw [if_pos (by kernel_rfl)]
      refine wp_append_own (P := Tryz.prog) _ (.tmp 13) (.tmp 20) 22 (by rfl) w.heap.size 46 i0 (.agg zeroObjH) 18 184 Tryz.underlying22 hi hz0 hz1 hz2 (by rfl) (by decide) (.slice qt h'.length ct) h'.length (flatH h') (by rfl) HF.out.own ⟨gN, 0, none⟩ 1 1 ({ x with props := pv } : OJ).cs.toList (by rfl) (by rfl) (bk_cellsH HNB.out) (fun u hu => (Array.all_eq_true_iff_forall_mem.1 (OJ.one ({ x with props := pv } : OJ) V2.out)) u (Array.mem_toList_iff.1 hu)) (by unfold maxLen; have := HM.out; have := HLN.out; omega) (by have := HM.out; have := HLN.out; omega) (HS.out.1.size) ?_
      intro v' w7 hown' hgrow _
      have HO6 := HF.out.own
      replace HS := hidB (show RTwS w (.slice (some ⟨g, o, none⟩) h.length c) w7 from ⟨below_grownV HS.out.1 HS.out.1.size (Nat.le_refl _) HO6 hgrow, HS.out.2.1.grownV (by decide) HO6 hgrow, HS.out.2.2.grownV (by decide) HO6 hgrow⟩)
      have HPS := hidB (fun e (he : e ∈ h') => (HF.out.props e he).grownV HO6 hgrow)
      have HPV := hidB ((RdY.own HO.out : RdY 0 l pv w6).grownV HO6 hgrow)
      replace HG := hidB (HG.out.grownV (by decide) HO6 hgrow)
      have HO7 := hidB hown'
      have V3 := hidB (own_oneH hown')
      obtain ⟨q3, c3, hv3⟩ := own_sliceH hown'
      subst hv3
      clear hown' hgrow HO6 HO HF HNB V2
      refine hK.out _ _ ⟨HS.out, _, HG.out⟩ (fun _ => ?_)
      clear hK K
      try simp only [Act.put, List.setIfInBounds_toArray, List.set_cons_zero, List.set_cons_succ]
      first | (refine wpAnyH_take (i := 10) (v := undef) (by simp only [List.getElem?_toArray, List.getElem?_cons_succ, List.getElem?_cons_zero]; exact rfl) (by kernel_rfl) (by kernel_rfl) (by kernel_rfl) (fun _ _ _ h => h) (Or.inr ⟨?_, rfl⟩) (by assumption) ?_; (rfl); try simp only [Act.put, List.setIfInBounds_toArray, List.set_cons_zero, List.set_cons_succ]) | (refine wpAnyH_take (i := 10) (v := ?_) (by simp only [List.getElem?_toArray, List.getElem?_cons_succ, List.getElem?_cons_zero]; exact rfl) (by kernel_rfl) (by kernel_rfl) (by kernel_rfl) (fun _ _ _ h => h) (Or.inl ⟨?_, ?_⟩) (by assumption) ?_; rotate_left; (rfl); (focus (intro w hSw; (try dsimp only at hSw); go_simp; try with_reducible rfl)); try simp only [Act.put, List.setIfInBounds_toArray, List.set_cons_zero, List.set_cons_succ])
      refine wpAnyH_ready (rs := [11]) (by kernel_rfl) (by simp) ?_
      refine AllReadyH.cons rfl (fun K hK => ?_) AllReadyH.nil
      have y1 : w7.cell? ⟨w.heap.size + 1 + 1, 0, none⟩ = some (.slice qt h'.length ct) := HG.out.cell 0
      have f1 : w7.frozen? ⟨w.heap.size + 1 + 1, 0, none⟩ = false := HG.out.free 0
      go_simp
      have far7 : ∀ b, b ≠ w.heap.size + 1 + 1 → (w7.setCell ⟨w.heap.size + 1 + 1, 0, none⟩ (.slice q3 (h'.length + 1) c3)).heap[b]? = w7.heap[b]? := fun b hb => Below.heap_setCell w7 _ _ b hb
      replace HS := hidB (show RTwS w (.slice (some ⟨g, o, none⟩) h.length c) (w7.setCell ⟨w.heap.size + 1 + 1, 0, none⟩ (.slice q3 (h'.length + 1) c3)) from ⟨HS.out.1.setCell (by show w.heap.size ≤ w.heap.size + 1 + 1; omega) _, HS.out.2.1.far (by show w.heap.size ≠ w.heap.size + 1 + 1; omega) _, HS.out.2.2.far (by show w.heap.size + 1 ≠ w.heap.size + 1 + 1; omega) _⟩)
      replace HO7 := hidB (HO7.out.kept (set_grownH w7 ⟨w.heap.size + 1 + 1, 0, none⟩ (.slice q3 (h'.length + 1) c3)) (Or.inr (own_ne_typeH HO7.out (by decide) HG.out)))
      replace HPS := hidB (fun e he => (HPS.out e he).far HG.out (by decide) (Nat.zero_le _) (Nat.le_of_eq (by simp [World.setCell])) far7)
      replace HPV := hidB (HPV.out.far HG.out (by decide) (Nat.zero_le _) (Nat.le_of_eq (by simp [World.setCell])) far7)
      replace HG := hidB (show Bk (w7.setCell ⟨w.heap.size + 1 + 1, 0, none⟩ (.slice q3 (h'.length + 1) c3)) (w.heap.size + 1 + 1) 24 #[(.slice q3 (h'.length + 1) c3)] from HG.out.set 0 _)
      clear y1 f1 far7
      refine hK.out _ _ ⟨HS.out, _, HG.out⟩ (fun _ => ?_)
      clear hK K
      try simp only [Act.put, List.setIfInBounds_toArray, List.set_cons_zero, List.set_cons_succ]
      refine wpAnyH_done (by kernel_rfl) ?_ _
      refine NoPanic.normal ?_
      have HFR := hidB (show FreshH w.heap.size (h' ++ [(({ x with props := pv } : OJ), l)]) (.slice q3 (h'.length + 1) c3) _ from ⟨by rw [List.length_append, flatH, List.flatMap_append, List.flatMap_cons, List.flatMap_nil, List.append_nil]; exact HO7.out, fun e he => (List.mem_append.1 he).elim (fun h1 => HPS.out e h1) (fun h1 => (List.mem_singleton.1 h1) ▸ HPV.out)⟩)
      have HB2 := hidB (show bareH (h' ++ [(({ x with props := pv } : OJ), l)]) = bareH (h.take (i + 1)) by rw [bareH_append, HBR.out, HTW.out]; rfl)
      go_wp2_with fail
      go_roundw
      case rel => exact ⟨i + 1, by omega, by go_num, HS.out, (.slice q3 (h'.length + 1) c3), _, HG.out, HFR.out, HB2.out, by rw [List.length_append, HLN.out]; rfl⟩
      case measure => simp [intOf]; omega
    refine AllReadyH.cons rfl (fun K hK => ?_) AllReadyH.nil
    go_simp
    refine (robj_any x l _ (HPX.out _ HS.out.1) HLX.out).mono ?_; rintro e w5 ⟨pv, rfl, hown, hb⟩
    have HO := hidB hown
    have V2 := hidB (own_oneH hown)
    replace HS := hidB (HS.out.on hb)
    replace HG := hidB (HG.out.on hb)
    replace HF := hidB (HF.out.on hb)
    clear hown hb
    refine hK.out _ _ ⟨HS.out, _, HG.out⟩ (fun _ => ?_)
    clear hK K
    try simp only [Act.put, List.setIfInBounds_toArray, List.set_cons_zero, List.set_cons_succ]
    refine wpAnyH_ready (rs := [1, 8]) (by kernel_rfl) (by simp) ?_
    refine AllReadyH.cons rfl (fun K hK => ?_) ?_
    · skip
      have y1 : w5.cell? ⟨w.heap.size + 1 + 1, 0, none⟩ = some (.slice qt h'.length ct) := HG.out.cell 0
      go_simp
      clear y1
      refine hK.out _ _ ⟨HS.out, _, HG.out⟩ (fun _ => ?_)
      clear hK K
      try simp only [Act.put, List.setIfInBounds_toArray, List.set_cons_zero, List.set_cons_succ]
      refine wpAnyH_ready (rs := [8]) (by kernel_rfl) (by simp) ?_
      refine AllReadyH.cons rfl (fun K hK => ?_) AllReadyH.nil
      rw [if_pos (by kernel_rfl)]
      refine wp_buildSliceH 22 46 1 18 _ (by rfl) [(0, ({ x with props := pv } : OJ).a)] (by kernel_rfl) (.agg zeroObjH) ({ x with props := pv } : OJ).cs Tryz.underlying22 (by kernel_rfl) (by decide) (by decide) (by kernel_rfl) ?_
      have HNB := hidB (Bk.new w5 46 ({ x with props := pv } : OJ).cs)
      replace HO := hidB (own_onH HO.out (box_one w5 (.cells ({ x with props := pv } : OJ).cs 46)))
      replace HS := hidB (HS.out.on (box_one w5 (.cells ({ x with props := pv } : OJ).cs 46)))
      replace HG := hidB (HG.out.on (box_one w5 (.cells ({ x with props := pv } : OJ).cs 46)))
      replace HF := hidB (HF.out.on (box_one w5 (.cells ({ x with props := pv } : OJ).cs 46)))
      refine hK.out _ _ ⟨HS.out, _, HG.out⟩ (fun _ => ?_)
      clear hK K
      try simp only [Act.put, List.setIfInBounds_toArray, List.set_cons_zero, List.set_cons_succ]
      generalize hWn : (w5.alloc (.cells ({ x with props := pv } : OJ).cs 46)) = w6 at *
      clear hWn
      generalize hGn : w5.heap.size = gN at *
      clear hGn
      refine wpAnyH_ready (rs := [9]) (by kernel_rfl) (by simp) ?_
      refine AllReadyH.cons rfl (fun K hK => ?_) AllReadyH.nil
      rw [if_pos (by kernel_rfl)]
      refine wp_append_own (P := Tryz.prog) _ (.tmp 13) (.tmp 20) 22 (by rfl) w.heap.size 46 i0 (.agg zeroObjH) 18 184 Tryz.underlying22 hi hz0 hz1 hz2 (by rfl) (by decide) (.slice qt h'.length ct) h'.length (flatH h') (by rfl) HF.out.own ⟨gN, 0, none⟩ 1 1 ({ x with props := pv } : OJ).cs.toList (by rfl) (by rfl) (bk_cellsH HNB.out) (fun u hu => (Array.all_eq_true_iff_forall_mem.1 (OJ.one ({ x with props := pv } : OJ) V2.out)) u (Array.mem_toList_iff.1 hu)) (by unfold maxLen; have := HM.out; have := HLN.out; omega) (by have := HM.out; have := HLN.out; omega) (HS.out.1.size) ?_
      intro v' w7 hown' hgrow _
      have HO6 := HF.out.own
      replace HS := hidB (show RTwS w (.slice (some ⟨g, o, none⟩) h.length c) w7 from ⟨below_grownV HS.out.1 HS.out.1.size (Nat.le_refl _) HO6 hgrow, HS.out.2.1.grownV (by decide) HO6 hgrow, HS.out.2.2.grownV (by decide) HO6 hgrow⟩)
      have HPS := hidB (fun e (he : e ∈ h') => (HF.out.props e he).grownV HO6 hgrow)
      have HPV := hidB ((RdY.own HO.out : RdY 0 l pv w6).grownV HO6 hgrow)
      replace HG := hidB (HG.out.grownV (by decide) HO6 hgrow)
      have HO7 := hidB hown'
      have V3 := hidB (own_oneH hown')
      obtain ⟨q3, c3, hv3⟩ := own_sliceH hown'
      subst hv3
      clear hown' hgrow HO6 HO HF HNB V2
      refine hK.out _ _ ⟨HS.out, _, HG.out⟩ (fun _ => ?_)
      clear hK K
      try simp only [Act.put, List.setIfInBounds_toArray, List.set_cons_zero, List.set_cons_succ]
      first | (refine wpAnyH_take (i := 10) (v := undef) (by simp only [List.getElem?_toArray, List.getElem?_cons_succ, List.getElem?_cons_zero]; exact rfl) (by kernel_rfl) (by kernel_rfl) (by kernel_rfl) (fun _ _ _ h => h) (Or.inr ⟨?_, rfl⟩) (by assumption) ?_; (rfl); try simp only [Act.put, List.setIfInBounds_toArray, List.set_cons_zero, List.set_cons_succ]) | (refine wpAnyH_take (i := 10) (v := ?_) (by simp only [List.getElem?_toArray, List.getElem?_cons_succ, List.getElem?_cons_zero]; exact rfl) (by kernel_rfl) (by kernel_rfl) (by kernel_rfl) (fun _ _ _ h => h) (Or.inl ⟨?_, ?_⟩) (by assumption) ?_; rotate_left; (rfl); (focus (intro w hSw; (try dsimp only at hSw); go_simp; try with_reducible rfl)); try simp only [Act.put, List.setIfInBounds_toArray, List.set_cons_zero, List.set_cons_succ])
      refine wpAnyH_ready (rs := [11]) (by kernel_rfl) (by simp) ?_
      refine AllReadyH.cons rfl (fun K hK => ?_) AllReadyH.nil
      have y1 : w7.cell? ⟨w.heap.size + 1 + 1, 0, none⟩ = some (.slice qt h'.length ct) := HG.out.cell 0
      have f1 : w7.frozen? ⟨w.heap.size + 1 + 1, 0, none⟩ = false := HG.out.free 0
      go_simp
      have far7 : ∀ b, b ≠ w.heap.size + 1 + 1 → (w7.setCell ⟨w.heap.size + 1 + 1, 0, none⟩ (.slice q3 (h'.length + 1) c3)).heap[b]? = w7.heap[b]? := fun b hb => Below.heap_setCell w7 _ _ b hb
      replace HS := hidB (show RTwS w (.slice (some ⟨g, o, none⟩) h.length c) (w7.setCell ⟨w.heap.size + 1 + 1, 0, none⟩ (.slice q3 (h'.length + 1) c3)) from ⟨HS.out.1.setCell (by show w.heap.size ≤ w.heap.size + 1 + 1; omega) _, HS.out.2.1.far (by show w.heap.size ≠ w.heap.size + 1 + 1; omega) _, HS.out.2.2.far (by show w.heap.size + 1 ≠ w.heap.size + 1 + 1; omega) _⟩)
      replace HO7 := hidB (HO7.out.kept (set_grownH w7 ⟨w.heap.size + 1 + 1, 0, none⟩ (.slice q3 (h'.length + 1) c3)) (Or.inr (own_ne_typeH HO7.out (by decide) HG.out)))
      replace HPS := hidB (fun e he => (HPS.out e he).far HG.out (by decide) (Nat.zero_le _) (Nat.le_of_eq (by simp [World.setCell])) far7)
      replace HPV := hidB (HPV.out.far HG.out (by decide) (Nat.zero_le _) (Nat.le_of_eq (by simp [World.setCell])) far7)
      replace HG := hidB (show Bk (w7.setCell ⟨w.heap.size + 1 + 1, 0, none⟩ (.slice q3 (h'.length + 1) c3)) (w.heap.size + 1 + 1) 24 #[(.slice q3 (h'.length + 1) c3)] from HG.out.set 0 _)
      clear y1 f1 far7
      refine hK.out _ _ ⟨HS.out, _, HG.out⟩ (fun _ => ?_)
      clear hK K
      try simp only [Act.put, List.setIfInBounds_toArray, List.set_cons_zero, List.set_cons_succ]
      refine wpAnyH_done (by kernel_rfl) ?_ _
      refine NoPanic.normal ?_
      have HFR := hidB (show FreshH w.heap.size (h' ++ [(({ x with props := pv } : OJ), l)]) (.slice q3 (h'.length + 1) c3) _ from ⟨by rw [List.length_append, flatH, List.flatMap_append, List.flatMap_cons, List.flatMap_nil, List.append_nil]; exact HO7.out, fun e he => (List.mem_append.1 he).elim (fun h1 => HPS.out e h1) (fun h1 => (List.mem_singleton.1 h1) ▸ HPV.out)⟩)
      have HB2 := hidB (show bareH (h' ++ [(({ x with props := pv } : OJ), l)]) = bareH (h.take (i + 1)) by rw [bareH_append, HBR.out, HTW.out]; rfl)
      go_wp2_with fail
      go_roundw
      case rel => exact ⟨i + 1, by omega, by go_num, HS.out, (.slice q3 (h'.length + 1) c3), _, HG.out, HFR.out, HB2.out, by rw [List.length_append, HLN.out]; rfl⟩
      case measure => simp [intOf]; omega
    refine AllReadyH.cons rfl (fun K hK => ?_) AllReadyH.nil
    rw [if_pos (by kernel_rfl)]
    refine wp_buildSliceH 22 46 1 18 _ (by rfl) [(0, ({ x with props := pv } : OJ).a)] (by kernel_rfl) (.agg zeroObjH) ({ x with props := pv } : OJ).cs Tryz.underlying22 (by kernel_rfl) (by decide) (by decide) (by kernel_rfl) ?_
    have HNB := hidB (Bk.new w5 46 ({ x with props := pv } : OJ).cs)
    replace HO := hidB (own_onH HO.out (box_one w5 (.cells ({ x with props := pv } : OJ).cs 46)))
    replace HS := hidB (HS.out.on (box_one w5 (.cells ({ x with props := pv } : OJ).cs 46)))
    replace HG := hidB (HG.out.on (box_one w5 (.cells ({ x with props := pv } : OJ).cs 46)))
    replace HF := hidB (HF.out.on (box_one w5 (.cells ({ x with props := pv } : OJ).cs 46)))
    refine hK.out _ _ ⟨HS.out, _, HG.out⟩ (fun _ => ?_)
    clear hK K
    try simp only [Act.put, List.setIfInBounds_toArray, List.set_cons_zero, List.set_cons_succ]
    generalize hWn : (w5.alloc (.cells ({ x with props := pv } : OJ).cs 46)) = w6 at *
    clear hWn
    generalize hGn : w5.heap.size = gN at *
    clear hGn
    refine wpAnyH_ready (rs := [1]) (by kernel_rfl) (by simp) ?_
    refine AllReadyH.cons rfl (fun K hK => ?_) AllReadyH.nil
    have y1 : w6.cell? ⟨w.heap.size + 1 + 1, 0, none⟩ = some (.slice qt h'.length ct) := HG.out.cell 0
    go_simp
    clear y1
    refine hK.out _ _ ⟨HS.out, _, HG.out⟩ (fun _ => ?_)
    clear hK K
    try simp only [Act.put, List.setIfInBounds_toArray, List.set_cons_zero, List.set_cons_succ]
    refine wpAnyH_ready (rs := [9]) (by kernel_rfl) (by simp) ?_
    refine AllReadyH.cons rfl (fun K hK => ?_) AllReadyH.nil
    rw [if_pos (by kernel_rfl)]
    refine wp_append_own (P := Tryz.prog) _ (.tmp 13) (.tmp 20) 22 (by rfl) w.heap.size 46 i0 (.agg zeroObjH) 18 184 Tryz.underlying22 hi hz0 hz1 hz2 (by rfl) (by decide) (.slice qt h'.length ct) h'.length (flatH h') (by rfl) HF.out.own ⟨gN, 0, none⟩ 1 1 ({ x with props := pv } : OJ).cs.toList (by rfl) (by rfl) (bk_cellsH HNB.out) (fun u hu => (Array.all_eq_true_iff_forall_mem.1 (OJ.one ({ x with props := pv } : OJ) V2.out)) u (Array.mem_toList_iff.1 hu)) (by unfold maxLen; have := HM.out; have := HLN.out; omega) (by have := HM.out; have := HLN.out; omega) (HS.out.1.size) ?_
    intro v' w7 hown' hgrow _
    have HO6 := HF.out.own
    replace HS := hidB (show RTwS w (.slice (some ⟨g, o, none⟩) h.length c) w7 from ⟨below_grownV HS.out.1 HS.out.1.size (Nat.le_refl _) HO6 hgrow, HS.out.2.1.grownV (by decide) HO6 hgrow, HS.out.2.2.grownV (by decide) HO6 hgrow⟩)
    have HPS := hidB (fun e (he : e ∈ h') => (HF.out.props e he).grownV HO6 hgrow)
    have HPV := hidB ((RdY.own HO.out : RdY 0 l pv w6).grownV HO6 hgrow)
    replace HG := hidB (HG.out.grownV (by decide) HO6 hgrow)
    have HO7 := hidB hown'
    have V3 := hidB (own_oneH hown')
    obtain ⟨q3, c3, hv3⟩ := own_sliceH hown'
    subst hv3
    clear hown' hgrow HO6 HO HF HNB V2
    refine hK.out _ _ ⟨HS.out, _, HG.out⟩ (fun _ => ?_)
    clear hK K
    try simp only [Act.put, List.setIfInBounds_toArray, List.set_cons_zero, List.set_cons_succ]
    first | (refine wpAnyH_take (i := 10) (v := undef) (by simp only [List.getElem?_toArray, List.getElem?_cons_succ, List.getElem?_cons_zero]; exact rfl) (by kernel_rfl) (by kernel_rfl) (by kernel_rfl) (fun _ _ _ h => h) (Or.inr ⟨?_, rfl⟩) (by assumption) ?_; (rfl); try simp only [Act.put, List.setIfInBounds_toArray, List.set_cons_zero, List.set_cons_succ]) | (refine wpAnyH_take (i := 10) (v := ?_) (by simp only [List.getElem?_toArray, List.getElem?_cons_succ, List.getElem?_cons_zero]; exact rfl) (by kernel_rfl) (by kernel_rfl) (by kernel_rfl) (fun _ _ _ h => h) (Or.inl ⟨?_, ?_⟩) (by assumption) ?_; rotate_left; (rfl); (focus (intro w hSw; (try dsimp only at hSw); go_simp; try with_reducible rfl)); try simp only [Act.put, List.setIfInBounds_toArray, List.set_cons_zero, List.set_cons_succ])
    refine wpAnyH_ready (rs := [11]) (by kernel_rfl) (by simp) ?_
    refine AllReadyH.cons rfl (fun K hK => ?_) AllReadyH.nil
    have y1 : w7.cell? ⟨w.heap.size + 1 + 1, 0, none⟩ = some (.slice qt h'.length ct) := HG.out.cell 0
    have f1 : w7.frozen? ⟨w.heap.size + 1 + 1, 0, none⟩ = false := HG.out.free 0
    go_simp
    have far7 : ∀ b, b ≠ w.heap.size + 1 + 1 → (w7.setCell ⟨w.heap.size + 1 + 1, 0, none⟩ (.slice q3 (h'.length + 1) c3)).heap[b]? = w7.heap[b]? := fun b hb => Below.heap_setCell w7 _ _ b hb
    replace HS := hidB (show RTwS w (.slice (some ⟨g, o, none⟩) h.length c) (w7.setCell ⟨w.heap.size + 1 + 1, 0, none⟩ (.slice q3 (h'.length + 1) c3)) from ⟨HS.out.1.setCell (by show w.heap.size ≤ w.heap.size + 1 + 1; omega) _, HS.out.2.1.far (by show w.heap.size ≠ w.heap.size + 1 + 1; omega) _, HS.out.2.2.far (by show w.heap.size + 1 ≠ w.heap.size + 1 + 1; omega) _⟩)
    replace HO7 := hidB (HO7.out.kept (set_grownH w7 ⟨w.heap.size + 1 + 1, 0, none⟩ (.slice q3 (h'.length + 1) c3)) (Or.inr (own_ne_typeH HO7.out (by decide) HG.out)))
    replace HPS := hidB (fun e he => (HPS.out e he).far HG.out (by decide) (Nat.zero_le _) (Nat.le_of_eq (by simp [World.setCell])) far7)
    replace HPV := hidB (HPV.out.far HG.out (by decide) (Nat.zero_le _) (Nat.le_of_eq (by simp [World.setCell])) far7)
    replace HG := hidB (show Bk (w7.setCell ⟨w.heap.size + 1 + 1, 0, none⟩ (.slice q3 (h'.length + 1) c3)) (w.heap.size + 1 + 1) 24 #[(.slice q3 (h'.length + 1) c3)] from HG.out.set 0 _)
    clear y1 f1 far7
    refine hK.out _ _ ⟨HS.out, _, HG.out⟩ (fun _ => ?_)
    clear hK K
    try simp only [Act.put, List.setIfInBounds_toArray, List.set_cons_zero, List.set_cons_succ]
    refine wpAnyH_done (by kernel_rfl) ?_ _
    refine NoPanic.normal ?_
    have HFR := hidB (show FreshH w.heap.size (h' ++ [(({ x with props := pv } : OJ), l)]) (.slice q3 (h'.length + 1) c3) _ from ⟨by rw [List.length_append, flatH, List.flatMap_append, List.flatMap_cons, List.flatMap_nil, List.append_nil]; exact HO7.out, fun e he => (List.mem_append.1 he).elim (fun h1 => HPS.out e h1) (fun h1 => (List.mem_singleton.1 h1) ▸ HPV.out)⟩)
    have HB2 := hidB (show bareH (h' ++ [(({ x with props := pv } : OJ), l)]) = bareH (h.take (i + 1)) by rw [bareH_append, HBR.out, HTW.out]; rfl)
    go_wp2_with fail
    go_roundw
    case rel => exact ⟨i + 1, by omega, by go_num, HS.out, (.slice q3 (h'.length + 1) c3), _, HG.out, HFR.out, HB2.out, by rw [List.length_append, HLN.out]; rfl⟩
    case measure => simp [intOf]; omega

end Go.Proofs.YtnidamkgfgddfaaGreat
