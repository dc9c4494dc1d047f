/-
  Lies: the walk of PostLies.
-/
import Derived.Test.YtlpldhcoplbopaaPostPlain
namespace Go.Proofs.Ytlpldhcoplbopaa
open Go.RowKit

theorem put_none_K {K : Act → World → Prop} {a : Act} {o : Option Tmp} {v : Value} {w : World} (h : o = none) (k : K a w) : K (a.put o v) w := by
  subst h; exact k
/-- An outcome of post.Check. -/
def PO (a : AI) (x : OI) (f : FI) (lk ks : List KI) (ds : List DI) (O : OI) : Prop := ∃ kv, (∃ q c, kv = .slice q lk.length c) ∧ O = chkO a x f lk ks ds kv
theorem PO.one {a : AI} {x : OI} {f : FI} {lk ks : List KI} {ds : List DI} {O : OI} (h : PO a x f lk ks ds O) : O.keys.oneCell' = true := by
  obtain ⟨kv, ⟨q, c, rfl⟩, rfl⟩ := h
  unfold chkO
  split
  · unfold outO
    split
    · rfl
    · split
      · rfl
      · split <;> rfl
  · rfl
theorem PO.cells {a : AI} {x : OI} {f : FI} {lk ks : List KI} {ds : List DI} {O : OI} (h : PO a x f lk ks ds O) : O.cs.all (·.oneCell') = true := OI.one O h.one
theorem po_any (a : AI) (x : OI) (f : FI) (lk ks : List KI) (ds : List DI) (hnil : NilOr x.keys) (w : World) (h : AskOk a x lk w) (hf : FactsOk f ks ds w) : Calls Try.prog 13 #[a.a, x.a, f.a] w fun e w' => ∃ O, PO a x f lk ks ds O ∧ e = .returned (.tuple #[O.a, .bool (chkB a x f lk ks ds), .int .i64 (chkE a x f lk ks ds)]) ∧ Below w.heap.size w w' :=
  (check_any a x f lk ks ds hnil w h hf).mono fun _ _ ⟨kv, h1, h2, h3⟩ => ⟨_, ⟨kv, h1, rfl⟩, h2, h3⟩
theorem nil_slice {v : Value} (h : NilOr v) : ∃ p n c, v = .slice p n c := by
  rcases h with rfl | ⟨a, n, c, rfl⟩ <;> exact ⟨_, _, _, rfl⟩
theorem rdD_slice {l : List DI} {v : Value} {w : World} (h : RdD l v w) : ∃ p n c, v = .slice p n c := by
  obtain ⟨p, c, rfl, _⟩ := h; exact ⟨_, _, _, rfl⟩

set_option maxHeartbeats 8000000 in
set_option maxRecDepth 100000 in
theorem law_lies (q : QI) (lk ks : List KI) (ds : List DI) (w : World) (hq : AskedOk q lk ks ds w) : Calls Try.prog 4 #[q.v] w fun e w' => e = .returned (.bool true) ∧ Below w.heap.size w w' := by
  have LA := hidB (fun W (hb : Below w.heap.size w W) => long_any q lk ks ds W (hq.ask.xk.on hb) (hq.facts.rk.on hb) (hq.facts.rd.on hb))
  have AL := hidB (fun W => alive_any W)
  have FA := hidB (fun W => facts_any q (nil_slice hq.nilf) (rdD_slice hq.facts.rd) W)
  have CA := hidB (fun W (hb : Below w.heap.size w W) => po_any q.a q.x q.f lk ks ds hq.nil W (hq.ask.on hb) (hq.facts.on hb))
  have HQ := hidB hq
  clear hq
  have Q1 := hidB (show Bk (w.alloc (.cells q.cs 41)) w.heap.size 41 q.cs from Bk.new w _ _)
  have B1 := hidB (show Below w.heap.size w (w.alloc (.cells q.cs 41)) from box_one w _)
  go_enter Try.func4, Try.ntmps4
  go_upto_region 1 with fail
  generalize (w.alloc (.cells q.cs 41)) = w1 at *
  go_wp2_with fail
  refine (AL.out _).mono ?_; rintro e w2 ⟨rfl, hb⟩
  have Q2 := hidB (Q1.out.on hb)
  have B2 := hidB (B1.out.trans (hb.mono B1.out.size))
  clear hb Q1 B1
  clear AL
  go_wp2_with (first | ((with_reducible refine ldId 41 (.tmp 1) ?_); refine wpList_load_row (by rfl) 41 (.tmp 1) (by rfl) w.heap.size (by rfl) 41 _ (0, 0) _ (by exact Q2.out) Try.underlying41 (by rfl) (by kernel_rfl) ?_))
  refine (LA.out _ B2.out).mono ?_; rintro e w3 ⟨⟨b, rfl⟩, hb⟩
  have Q3 := hidB (Q2.out.on hb)
  have B3 := hidB (B2.out.trans (hb.mono B2.out.size))
  clear hb Q2 B2
  clear LA
  cases b
  · skip
    go_upto_region 4 with fail
    obtain ⟨B, hB⟩ : ∃ B, B = chkB q.a q.x q.f lk ks ds := ⟨_, rfl⟩
    obtain ⟨E, hE⟩ : ∃ E, E = chkE q.a q.x q.f lk ks ds := ⟨_, rfl⟩
    rw [← hB, ← hE] at CA
    have HB := hidB hB
    have HE := hidB hE
    clear hB hE
    go_cut [4, 5, 6] from 4 to 179 (fun s4 s5 s6 wx => ∃ g O, PO q.a q.x q.f lk ks ds O ∧ s4 = .pointer (some ⟨g, 0, none⟩) ∧ s5 = .bool B ∧ s6 = .int .i64 E ∧ Bk wx g 38 O.cs ∧ w3.heap.size ≤ g ∧ Below w3.heap.size w3 wx)
    case first =>
      refine wp_region_noPanic ?_
      refine wp_region_held_drew (S := fun W => Below w3.heap.size w3 W) (by kernel_rfl) ?_ (fun hHeld => ?_)
      · exact (Below.refl _ _).drew
      generalize hWd : w3.drew = wd at *
      clear hWd
      first | (refine wpAnyH_take (i := 0) (v := undef) (by simp only [List.getElem?_toArray, List.getElem?_cons_zero]; exact rfl) (by kernel_rfl) (by kernel_rfl) (by kernel_rfl) (fun _ _ _ h => h) (Or.inr ⟨?_, rfl⟩) (by assumption) ?_; (rfl); try simp only [Act.put, List.setIfInBounds_toArray, List.set_cons_zero, List.set_cons_succ]) | (refine wpAnyH_take (i := 0) (v := ?_) (by simp only [List.getElem?_toArray, List.getElem?_cons_zero]; exact rfl) (by kernel_rfl) (by kernel_rfl) (by kernel_rfl) (fun _ _ _ h => h) (Or.inl ⟨?_, ?_⟩) (by assumption) ?_; rotate_left; (rfl); (focus (intro w hSw; (try dsimp only at hSw); go_simp; try with_reducible rfl)); try simp only [Act.put, List.setIfInBounds_toArray, List.set_cons_zero, List.set_cons_succ])
      (refine wpAnyH_take (i := 1) (v := q.a.a) (by simp only [List.getElem?_toArray, List.getElem?_cons_succ, List.getElem?_cons_zero]; exact rfl) (by kernel_rfl) (by kernel_rfl) (by kernel_rfl) (fun _ _ _ h => h) (yieldsIf_load_mid (by rfl) 35 (.tmp 19) (by rfl) (w.heap.size) (0) (by rfl) (q.a.cs.toList) _ (fun W hS => Bk.mid (Q3.out.on hS) 0 _ rfl) Try.underlying35 (by rfl) (by kernel_rfl)) (by assumption) ?_; try simp only [Act.put, List.setIfInBounds_toArray, List.set_cons_zero, List.set_cons_succ])
      first | (refine wpAnyH_take (i := 2) (v := undef) (by simp only [List.getElem?_toArray, List.getElem?_cons_succ, List.getElem?_cons_zero]; exact rfl) (by kernel_rfl) (by kernel_rfl) (by kernel_rfl) (fun _ _ _ h => h) (Or.inr ⟨?_, rfl⟩) (by assumption) ?_; (rfl); try simp only [Act.put, List.setIfInBounds_toArray, List.set_cons_zero, List.set_cons_succ]) | (refine wpAnyH_take (i := 2) (v := ?_) (by simp only [List.getElem?_toArray, List.getElem?_cons_succ, List.getElem?_cons_zero]; exact rfl) (by kernel_rfl) (by kernel_rfl) (by kernel_rfl) (fun _ _ _ h => h) (Or.inl ⟨?_, ?_⟩) (by assumption) ?_; rotate_left; (rfl); (focus (intro w hSw; (try dsimp only at hSw); go_simp; try with_reducible rfl)); try simp only [Act.put, List.setIfInBounds_toArray, List.set_cons_zero, List.set_cons_succ])
      (refine wpAnyH_take (i := 3) (v := q.x.a) (by simp only [List.getElem?_toArray, List.getElem?_cons_succ, List.getElem?_cons_zero]; exact rfl) (by kernel_rfl) (by kernel_rfl) (by kernel_rfl) (fun _ _ _ h => h) (yieldsIf_load_mid (by rfl) 38 (.tmp 21) (by rfl) (w.heap.size) (29) (by rfl) (q.x.cs.toList) _ (fun W hS => Bk.mid (Q3.out.on hS) 29 _ rfl) Try.underlying38 (by rfl) (by kernel_rfl)) (by assumption) ?_; try simp only [Act.put, List.setIfInBounds_toArray, List.set_cons_zero, List.set_cons_succ])
      (refine wpAnyH_take (i := 4) (v := q.v) (by simp only [List.getElem?_toArray, List.getElem?_cons_succ, List.getElem?_cons_zero]; exact rfl) (by kernel_rfl) (by kernel_rfl) (by kernel_rfl) (fun _ _ _ h => h) (yieldsIf_load_mid (by rfl) 41 (.tmp 1) (by rfl) (w.heap.size) (0) (by rfl) (q.cs.toList) _ (fun W hS => Bk.mid (Q3.out.on hS) 0 _ rfl) Try.underlying41 (by rfl) (by kernel_rfl)) (by assumption) ?_; try simp only [Act.put, List.setIfInBounds_toArray, List.set_cons_zero, List.set_cons_succ])
      refine wpAnyH_ready (rs := [5, 11]) (by kernel_rfl) (by simp) ?_
      refine AllReadyH.cons rfl (fun K hK => ?_) ?_
      · skip
        go_simp
        refine (FA.out _).mono ?_; rintro e v1 ⟨rfl, hb⟩
        replace hHeld := hHeld.trans (hb.mono hHeld.size)
        clear hb
        refine hK.out _ _ hHeld (fun _ => ?_)
        clear hK K
        try simp only [Act.put, List.setIfInBounds_toArray, List.set_cons_zero, List.set_cons_succ]
        refine wpAnyH_ready (rs := [6, 11]) (by kernel_rfl) (by simp) ?_
        refine AllReadyH.cons rfl (fun K hK => ?_) ?_
        · skip
          go_simp
          refine (CA.out _ (B3.out.trans (hHeld.mono B3.out.size))).mono ?_; rintro e v2 ⟨O, hO, rfl, hb⟩
          have HO := hidB hO
          clear hO
          replace hHeld := hHeld.trans (hb.mono hHeld.size)
          clear hb
          refine hK.out _ _ hHeld (fun _ => ?_)
          clear hK K
          try simp only [Act.put, List.setIfInBounds_toArray, List.set_cons_zero, List.set_cons_succ]
          first | (refine wpAnyH_take (i := 7) (v := undef) (by simp only [List.getElem?_toArray, List.getElem?_cons_succ, List.getElem?_cons_zero]; exact rfl) (by kernel_rfl) (by kernel_rfl) (by kernel_rfl) (fun _ _ _ h => h) (Or.inr ⟨?_, rfl⟩) (by assumption) ?_; (rfl); try simp only [Act.put, List.setIfInBounds_toArray, List.set_cons_zero, List.set_cons_succ]) | (refine wpAnyH_take (i := 7) (v := ?_) (by simp only [List.getElem?_toArray, List.getElem?_cons_succ, List.getElem?_cons_zero]; exact rfl) (by kernel_rfl) (by kernel_rfl) (by kernel_rfl) (fun _ _ _ h => h) (Or.inl ⟨?_, ?_⟩) (by assumption) ?_; rotate_left; (rfl); (focus (intro w hSw; (try dsimp only at hSw); go_simp; try with_reducible rfl)); try simp only [Act.put, List.setIfInBounds_toArray, List.set_cons_zero, List.set_cons_succ])
          first | (refine wpAnyH_take (i := 8) (v := undef) (by simp only [List.getElem?_toArray, List.getElem?_cons_succ, List.getElem?_cons_zero]; exact rfl) (by kernel_rfl) (by kernel_rfl) (by kernel_rfl) (fun _ _ _ h => h) (Or.inr ⟨?_, rfl⟩) (by assumption) ?_; (rfl); try simp only [Act.put, List.setIfInBounds_toArray, List.set_cons_zero, List.set_cons_succ]) | (refine wpAnyH_take (i := 8) (v := O.a) (by simp only [List.getElem?_toArray, List.getElem?_cons_succ, List.getElem?_cons_zero]; exact rfl) (by kernel_rfl) (by kernel_rfl) (by kernel_rfl) (fun _ _ _ h => h) (Or.inl ⟨?_, ?_⟩) (by assumption) ?_; (rfl); (focus (intro W hSw; clear hSw; first | rfl | kernel_rfl)); try simp only [Act.put, List.setIfInBounds_toArray, List.set_cons_zero, List.set_cons_succ])
          first | (refine wpAnyH_take (i := 9) (v := undef) (by simp only [List.getElem?_toArray, List.getElem?_cons_succ, List.getElem?_cons_zero]; exact rfl) (by kernel_rfl) (by kernel_rfl) (by kernel_rfl) (fun _ _ _ h => h) (Or.inr ⟨?_, rfl⟩) (by assumption) ?_; (rfl); try simp only [Act.put, List.setIfInBounds_toArray, List.set_cons_zero, List.set_cons_succ]) | (refine wpAnyH_take (i := 9) (v := .bool B) (by simp only [List.getElem?_toArray, List.getElem?_cons_succ, List.getElem?_cons_zero]; exact rfl) (by kernel_rfl) (by kernel_rfl) (by kernel_rfl) (fun _ _ _ h => h) (Or.inl ⟨?_, ?_⟩) (by assumption) ?_; (rfl); (focus (intro W hSw; clear hSw; first | rfl | kernel_rfl)); try simp only [Act.put, List.setIfInBounds_toArray, List.set_cons_zero, List.set_cons_succ])
          first | (refine wpAnyH_take (i := 10) (v := undef) (by simp only [List.getElem?_toArray, List.getElem?_cons_succ, List.getElem?_cons_zero]; exact rfl) (by kernel_rfl) (by kernel_rfl) (by kernel_rfl) (fun _ _ _ h => h) (Or.inr ⟨?_, rfl⟩) (by assumption) ?_; (rfl); try simp only [Act.put, List.setIfInBounds_toArray, List.set_cons_zero, List.set_cons_succ]) | (refine wpAnyH_take (i := 10) (v := .int .i64 E) (by simp only [List.getElem?_toArray, List.getElem?_cons_succ, List.getElem?_cons_zero]; exact rfl) (by kernel_rfl) (by kernel_rfl) (by kernel_rfl) (fun _ _ _ h => h) (Or.inl ⟨?_, ?_⟩) (by assumption) ?_; (rfl); (focus (intro W hSw; clear hSw; first | rfl | kernel_rfl)); try simp only [Act.put, List.setIfInBounds_toArray, List.set_cons_zero, List.set_cons_succ])
          refine wpAnyH_ready (rs := [11]) (by kernel_rfl) (by simp) ?_
          refine AllReadyH.cons rfl (fun K hK => ?_) AllReadyH.nil
          go_simp
          have R := hidB (Bk.new v2 38 #[.int .u8 0, .int .u8 0, .float .f64 0, .string ⟨#[]⟩, .int .i64 0, .bool false, .bool false, .int .u8 0, .int .u8 0, .float .f64 0, .string ⟨#[]⟩, .int .i64 0, .int .u8 0, .float .f64 0, .string ⟨#[]⟩, .int .i64 0, .int .u8 0, .float .f64 0, .string ⟨#[]⟩, .int .i64 0, .bool false, .bool false, .bool false, .slice none 0 0, .int .u8 0, .string ⟨#[]⟩])
          have hgB := hHeld.size
          replace hHeld := hHeld.alloc hHeld.size (.cells #[.int .u8 0, .int .u8 0, .float .f64 0, .string ⟨#[]⟩, .int .i64 0, .bool false, .bool false, .int .u8 0, .int .u8 0, .float .f64 0, .string ⟨#[]⟩, .int .i64 0, .int .u8 0, .float .f64 0, .string ⟨#[]⟩, .int .i64 0, .int .u8 0, .float .f64 0, .string ⟨#[]⟩, .int .i64 0, .bool false, .bool false, .bool false, .slice none 0 0, .int .u8 0, .string ⟨#[]⟩] 38)
          refine hK.out _ _ hHeld (fun _ => ?_)
          clear hK K
          try simp only [Act.put, List.setIfInBounds_toArray, List.set_cons_zero, List.set_cons_succ]
          generalize hWn : (v2.alloc (.cells #[.int .u8 0, .int .u8 0, .float .f64 0, .string ⟨#[]⟩, .int .i64 0, .bool false, .bool false, .int .u8 0, .int .u8 0, .float .f64 0, .string ⟨#[]⟩, .int .i64 0, .int .u8 0, .float .f64 0, .string ⟨#[]⟩, .int .i64 0, .int .u8 0, .float .f64 0, .string ⟨#[]⟩, .int .i64 0, .bool false, .bool false, .bool false, .slice none 0 0, .int .u8 0, .string ⟨#[]⟩] 38)) = v3 at *
          clear hWn
          generalize hGn : v2.heap.size = gR at *
          clear hGn
          refine wpAnyH_ready (rs := [12]) (by kernel_rfl) (by simp) ?_
          refine AllReadyH.cons rfl (fun K hK => ?_) AllReadyH.nil
          rw [if_pos (by kernel_rfl)]
          refine wp_store_row 38 (.tmp 4) (.tmp 26) (by rfl) gR O.cs (by rfl) (by rfl) 38 #[.int .u8 0, .int .u8 0, .float .f64 0, .string ⟨#[]⟩, .int .i64 0, .bool false, .bool false, .int .u8 0, .int .u8 0, .float .f64 0, .string ⟨#[]⟩, .int .i64 0, .int .u8 0, .float .f64 0, .string ⟨#[]⟩, .int .i64 0, .int .u8 0, .float .f64 0, .string ⟨#[]⟩, .int .i64 0, .bool false, .bool false, .bool false, .slice none 0 0, .int .u8 0, .string ⟨#[]⟩] (by exact R.out) (by kernel_rfl) (by rfl) (by exact HO.out.cells) ?_
          replace R := hidB (R.out.setRow O.cs)
          replace hHeld := below_setRow hHeld hgB O.cs
          refine put_none_K (by first | rfl | kernel_rfl) ?_
          refine hK.out _ _ hHeld (fun _ => ?_)
          clear hK K
          generalize hWn : v3.setRow gR O.cs = v4 at *
          clear hWn
          first | (refine wpAnyH_take (i := 13) (v := undef) (by simp only [List.getElem?_toArray, List.getElem?_cons_succ, List.getElem?_cons_zero]; exact rfl) (by kernel_rfl) (by kernel_rfl) (by kernel_rfl) (fun _ _ _ h => h) (Or.inr ⟨?_, rfl⟩) (by assumption) ?_; (rfl); try simp only [Act.put, List.setIfInBounds_toArray, List.set_cons_zero, List.set_cons_succ]) | (refine wpAnyH_take (i := 13) (v := ?_) (by simp only [List.getElem?_toArray, List.getElem?_cons_succ, List.getElem?_cons_zero]; exact rfl) (by kernel_rfl) (by kernel_rfl) (by kernel_rfl) (fun _ _ _ h => h) (Or.inl ⟨?_, ?_⟩) (by assumption) ?_; rotate_left; (rfl); (focus (intro w hSw; (try dsimp only at hSw); go_simp; try with_reducible rfl)); try simp only [Act.put, List.setIfInBounds_toArray, List.set_cons_zero, List.set_cons_succ])
          first | (refine wpAnyH_take (i := 14) (v := undef) (by simp only [List.getElem?_toArray, List.getElem?_cons_succ, List.getElem?_cons_zero]; exact rfl) (by kernel_rfl) (by kernel_rfl) (by kernel_rfl) (fun _ _ _ h => h) (Or.inr ⟨?_, rfl⟩) (by assumption) ?_; (rfl); try simp only [Act.put, List.setIfInBounds_toArray, List.set_cons_zero, List.set_cons_succ]) | (refine wpAnyH_take (i := 14) (v := ?_) (by simp only [List.getElem?_toArray, List.getElem?_cons_succ, List.getElem?_cons_zero]; exact rfl) (by kernel_rfl) (by kernel_rfl) (by kernel_rfl) (fun _ _ _ h => h) (Or.inl ⟨?_, ?_⟩) (by assumption) ?_; rotate_left; (rfl); (focus (intro w hSw; (try dsimp only at hSw); go_simp; try with_reducible rfl)); try simp only [Act.put, List.setIfInBounds_toArray, List.set_cons_zero, List.set_cons_succ])
          refine wpAnyH_done (by kernel_rfl) ?_ _
          refine NoPanic.normal ?_
          go_wp2_with fail
          go_meet
          case rel => exact ⟨gR, O, HO.out, rfl, rfl, rfl, R.out, hgB, hHeld⟩
        refine AllReadyH.cons rfl (fun K hK => ?_) AllReadyH.nil
        go_simp
        have R := hidB (Bk.new v1 38 #[.int .u8 0, .int .u8 0, .float .f64 0, .string ⟨#[]⟩, .int .i64 0, .bool false, .bool false, .int .u8 0, .int .u8 0, .float .f64 0, .string ⟨#[]⟩, .int .i64 0, .int .u8 0, .float .f64 0, .string ⟨#[]⟩, .int .i64 0, .int .u8 0, .float .f64 0, .string ⟨#[]⟩, .int .i64 0, .bool false, .bool false, .bool false, .slice none 0 0, .int .u8 0, .string ⟨#[]⟩])
        have hgB := hHeld.size
        replace hHeld := hHeld.alloc hHeld.size (.cells #[.int .u8 0, .int .u8 0, .float .f64 0, .string ⟨#[]⟩, .int .i64 0, .bool false, .bool false, .int .u8 0, .int .u8 0, .float .f64 0, .string ⟨#[]⟩, .int .i64 0, .int .u8 0, .float .f64 0, .string ⟨#[]⟩, .int .i64 0, .int .u8 0, .float .f64 0, .string ⟨#[]⟩, .int .i64 0, .bool false, .bool false, .bool false, .slice none 0 0, .int .u8 0, .string ⟨#[]⟩] 38)
        refine hK.out _ _ hHeld (fun _ => ?_)
        clear hK K
        try simp only [Act.put, List.setIfInBounds_toArray, List.set_cons_zero, List.set_cons_succ]
        generalize hWn : (v1.alloc (.cells #[.int .u8 0, .int .u8 0, .float .f64 0, .string ⟨#[]⟩, .int .i64 0, .bool false, .bool false, .int .u8 0, .int .u8 0, .float .f64 0, .string ⟨#[]⟩, .int .i64 0, .int .u8 0, .float .f64 0, .string ⟨#[]⟩, .int .i64 0, .int .u8 0, .float .f64 0, .string ⟨#[]⟩, .int .i64 0, .bool false, .bool false, .bool false, .slice none 0 0, .int .u8 0, .string ⟨#[]⟩] 38)) = v2 at *
        clear hWn
        generalize hGn : v1.heap.size = gR at *
        clear hGn
        refine wpAnyH_ready (rs := [6]) (by kernel_rfl) (by simp) ?_
        refine AllReadyH.cons rfl (fun K hK => ?_) AllReadyH.nil
        go_simp
        refine (CA.out _ (B3.out.trans (hHeld.mono B3.out.size))).mono ?_; rintro e v3 ⟨O, hO, rfl, hb⟩
        have HO := hidB hO
        clear hO
        replace R := hidB (R.out.on hb)
        replace hHeld := hHeld.trans (hb.mono hHeld.size)
        clear hb
        refine hK.out _ _ hHeld (fun _ => ?_)
        clear hK K
        try simp only [Act.put, List.setIfInBounds_toArray, List.set_cons_zero, List.set_cons_succ]
        first | (refine wpAnyH_take (i := 7) (v := undef) (by simp only [List.getElem?_toArray, List.getElem?_cons_succ, List.getElem?_cons_zero]; exact rfl) (by kernel_rfl) (by kernel_rfl) (by kernel_rfl) (fun _ _ _ h => h) (Or.inr ⟨?_, rfl⟩) (by assumption) ?_; (rfl); try simp only [Act.put, List.setIfInBounds_toArray, List.set_cons_zero, List.set_cons_succ]) | (refine wpAnyH_take (i := 7) (v := ?_) (by simp only [List.getElem?_toArray, List.getElem?_cons_succ, List.getElem?_cons_zero]; exact rfl) (by kernel_rfl) (by kernel_rfl) (by kernel_rfl) (fun _ _ _ h => h) (Or.inl ⟨?_, ?_⟩) (by assumption) ?_; rotate_left; (rfl); (focus (intro w hSw; (try dsimp only at hSw); go_simp; try with_reducible rfl)); try simp only [Act.put, List.setIfInBounds_toArray, List.set_cons_zero, List.set_cons_succ])
        first | (refine wpAnyH_take (i := 8) (v := undef) (by simp only [List.getElem?_toArray, List.getElem?_cons_succ, List.getElem?_cons_zero]; exact rfl) (by kernel_rfl) (by kernel_rfl) (by kernel_rfl) (fun _ _ _ h => h) (Or.inr ⟨?_, rfl⟩) (by assumption) ?_; (rfl); try simp only [Act.put, List.setIfInBounds_toArray, List.set_cons_zero, List.set_cons_succ]) | (refine wpAnyH_take (i := 8) (v := O.a) (by simp only [List.getElem?_toArray, List.getElem?_cons_succ, List.getElem?_cons_zero]; exact rfl) (by kernel_rfl) (by kernel_rfl) (by kernel_rfl) (fun _ _ _ h => h) (Or.inl ⟨?_, ?_⟩) (by assumption) ?_; (rfl); (focus (intro W hSw; clear hSw; first | rfl | kernel_rfl)); try simp only [Act.put, List.setIfInBounds_toArray, List.set_cons_zero, List.set_cons_succ])
        first | (refine wpAnyH_take (i := 9) (v := undef) (by simp only [List.getElem?_toArray, List.getElem?_cons_succ, List.getElem?_cons_zero]; exact rfl) (by kernel_rfl) (by kernel_rfl) (by kernel_rfl) (fun _ _ _ h => h) (Or.inr ⟨?_, rfl⟩) (by assumption) ?_; (rfl); try simp only [Act.put, List.setIfInBounds_toArray, List.set_cons_zero, List.set_cons_succ]) | (refine wpAnyH_take (i := 9) (v := .bool B) (by simp only [List.getElem?_toArray, List.getElem?_cons_succ, List.getElem?_cons_zero]; exact rfl) (by kernel_rfl) (by kernel_rfl) (by kernel_rfl) (fun _ _ _ h => h) (Or.inl ⟨?_, ?_⟩) (by assumption) ?_; (rfl); (focus (intro W hSw; clear hSw; first | rfl | kernel_rfl)); try simp only [Act.put, List.setIfInBounds_toArray, List.set_cons_zero, List.set_cons_succ])
        first | (refine wpAnyH_take (i := 10) (v := undef) (by simp only [List.getElem?_toArray, List.getElem?_cons_succ, List.getElem?_cons_zero]; exact rfl) (by kernel_rfl) (by kernel_rfl) (by kernel_rfl) (fun _ _ _ h => h) (Or.inr ⟨?_, rfl⟩) (by assumption) ?_; (rfl); try simp only [Act.put, List.setIfInBounds_toArray, List.set_cons_zero, List.set_cons_succ]) | (refine wpAnyH_take (i := 10) (v := .int .i64 E) (by simp only [List.getElem?_toArray, List.getElem?_cons_succ, List.getElem?_cons_zero]; exact rfl) (by kernel_rfl) (by kernel_rfl) (by kernel_rfl) (fun _ _ _ h => h) (Or.inl ⟨?_, ?_⟩) (by assumption) ?_; (rfl); (focus (intro W hSw; clear hSw; first | rfl | kernel_rfl)); try simp only [Act.put, List.setIfInBounds_toArray, List.set_cons_zero, List.set_cons_succ])
        refine wpAnyH_ready (rs := [12]) (by kernel_rfl) (by simp) ?_
        refine AllReadyH.cons rfl (fun K hK => ?_) AllReadyH.nil
        rw [if_pos (by kernel_rfl)]
        refine wp_store_row 38 (.tmp 4) (.tmp 26) (by rfl) gR O.cs (by rfl) (by rfl) 38 #[.int .u8 0, .int .u8 0, .float .f64 0, .string ⟨#[]⟩, .int .i64 0, .bool false, .bool false, .int .u8 0, .int .u8 0, .float .f64 0, .string ⟨#[]⟩, .int .i64 0, .int .u8 0, .float .f64 0, .string ⟨#[]⟩, .int .i64 0, .int .u8 0, .float .f64 0, .string ⟨#[]⟩, .int .i64 0, .bool false, .bool false, .bool false, .slice none 0 0, .int .u8 0, .string ⟨#[]⟩] (by exact R.out) (by kernel_rfl) (by rfl) (by exact HO.out.cells) ?_
        replace R := hidB (R.out.setRow O.cs)
        replace hHeld := below_setRow hHeld hgB O.cs
        refine put_none_K (by first | rfl | kernel_rfl) ?_
        refine hK.out _ _ hHeld (fun _ => ?_)
        clear hK K
        generalize hWn : v3.setRow gR O.cs = v4 at *
        clear hWn
        first | (refine wpAnyH_take (i := 13) (v := undef) (by simp only [List.getElem?_toArray, List.getElem?_cons_succ, List.getElem?_cons_zero]; exact rfl) (by kernel_rfl) (by kernel_rfl) (by kernel_rfl) (fun _ _ _ h => h) (Or.inr ⟨?_, rfl⟩) (by assumption) ?_; (rfl); try simp only [Act.put, List.setIfInBounds_toArray, List.set_cons_zero, List.set_cons_succ]) | (refine wpAnyH_take (i := 13) (v := ?_) (by simp only [List.getElem?_toArray, List.getElem?_cons_succ, List.getElem?_cons_zero]; exact rfl) (by kernel_rfl) (by kernel_rfl) (by kernel_rfl) (fun _ _ _ h => h) (Or.inl ⟨?_, ?_⟩) (by assumption) ?_; rotate_left; (rfl); (focus (intro w hSw; (try dsimp only at hSw); go_simp; try with_reducible rfl)); try simp only [Act.put, List.setIfInBounds_toArray, List.set_cons_zero, List.set_cons_succ])
        first | (refine wpAnyH_take (i := 14) (v := undef) (by simp only [List.getElem?_toArray, List.getElem?_cons_succ, List.getElem?_cons_zero]; exact rfl) (by kernel_rfl) (by kernel_rfl) (by kernel_rfl) (fun _ _ _ h => h) (Or.inr ⟨?_, rfl⟩) (by assumption) ?_; (rfl); try simp only [Act.put, List.setIfInBounds_toArray, List.set_cons_zero, List.set_cons_succ]) | (refine wpAnyH_take (i := 14) (v := ?_) (by simp only [List.getElem?_toArray, List.getElem?_cons_succ, List.getElem?_cons_zero]; exact rfl) (by kernel_rfl) (by kernel_rfl) (by kernel_rfl) (fun _ _ _ h => h) (Or.inl ⟨?_, ?_⟩) (by assumption) ?_; rotate_left; (rfl); (focus (intro w hSw; (try dsimp only at hSw); go_simp; try with_reducible rfl)); try simp only [Act.put, List.setIfInBounds_toArray, List.set_cons_zero, List.set_cons_succ])
        refine wpAnyH_done (by kernel_rfl) ?_ _
        refine NoPanic.normal ?_
        go_wp2_with fail
        go_meet
        case rel => exact ⟨gR, O, HO.out, rfl, rfl, rfl, R.out, hgB, hHeld⟩
      refine AllReadyH.cons rfl (fun K hK => ?_) AllReadyH.nil
      go_simp
      have R := hidB (Bk.new wd 38 #[.int .u8 0, .int .u8 0, .float .f64 0, .string ⟨#[]⟩, .int .i64 0, .bool false, .bool false, .int .u8 0, .int .u8 0, .float .f64 0, .string ⟨#[]⟩, .int .i64 0, .int .u8 0, .float .f64 0, .string ⟨#[]⟩, .int .i64 0, .int .u8 0, .float .f64 0, .string ⟨#[]⟩, .int .i64 0, .bool false, .bool false, .bool false, .slice none 0 0, .int .u8 0, .string ⟨#[]⟩])
      have hgB := hHeld.size
      replace hHeld := hHeld.alloc hHeld.size (.cells #[.int .u8 0, .int .u8 0, .float .f64 0, .string ⟨#[]⟩, .int .i64 0, .bool false, .bool false, .int .u8 0, .int .u8 0, .float .f64 0, .string ⟨#[]⟩, .int .i64 0, .int .u8 0, .float .f64 0, .string ⟨#[]⟩, .int .i64 0, .int .u8 0, .float .f64 0, .string ⟨#[]⟩, .int .i64 0, .bool false, .bool false, .bool false, .slice none 0 0, .int .u8 0, .string ⟨#[]⟩] 38)
      refine hK.out _ _ hHeld (fun _ => ?_)
      clear hK K
      try simp only [Act.put, List.setIfInBounds_toArray, List.set_cons_zero, List.set_cons_succ]
      generalize hWn : (wd.alloc (.cells #[.int .u8 0, .int .u8 0, .float .f64 0, .string ⟨#[]⟩, .int .i64 0, .bool false, .bool false, .int .u8 0, .int .u8 0, .float .f64 0, .string ⟨#[]⟩, .int .i64 0, .int .u8 0, .float .f64 0, .string ⟨#[]⟩, .int .i64 0, .int .u8 0, .float .f64 0, .string ⟨#[]⟩, .int .i64 0, .bool false, .bool false, .bool false, .slice none 0 0, .int .u8 0, .string ⟨#[]⟩] 38)) = v1 at *
      clear hWn
      generalize hGn : wd.heap.size = gR at *
      clear hGn
      refine wpAnyH_ready (rs := [5]) (by kernel_rfl) (by simp) ?_
      refine AllReadyH.cons rfl (fun K hK => ?_) AllReadyH.nil
      go_simp
      refine (FA.out _).mono ?_; rintro e v2 ⟨rfl, hb⟩
      replace R := hidB (R.out.on hb)
      replace hHeld := hHeld.trans (hb.mono hHeld.size)
      clear hb
      refine hK.out _ _ hHeld (fun _ => ?_)
      clear hK K
      try simp only [Act.put, List.setIfInBounds_toArray, List.set_cons_zero, List.set_cons_succ]
      refine wpAnyH_ready (rs := [6]) (by kernel_rfl) (by simp) ?_
      refine AllReadyH.cons rfl (fun K hK => ?_) AllReadyH.nil
      go_simp
      refine (CA.out _ (B3.out.trans (hHeld.mono B3.out.size))).mono ?_; rintro e v3 ⟨O, hO, rfl, hb⟩
      have HO := hidB hO
      clear hO
      replace R := hidB (R.out.on hb)
      replace hHeld := hHeld.trans (hb.mono hHeld.size)
      clear hb
      refine hK.out _ _ hHeld (fun _ => ?_)
      clear hK K
      try simp only [Act.put, List.setIfInBounds_toArray, List.set_cons_zero, List.set_cons_succ]
      first | (refine wpAnyH_take (i := 7) (v := undef) (by simp only [List.getElem?_toArray, List.getElem?_cons_succ, List.getElem?_cons_zero]; exact rfl) (by kernel_rfl) (by kernel_rfl) (by kernel_rfl) (fun _ _ _ h => h) (Or.inr ⟨?_, rfl⟩) (by assumption) ?_; (rfl); try simp only [Act.put, List.setIfInBounds_toArray, List.set_cons_zero, List.set_cons_succ]) | (refine wpAnyH_take (i := 7) (v := ?_) (by simp only [List.getElem?_toArray, List.getElem?_cons_succ, List.getElem?_cons_zero]; exact rfl) (by kernel_rfl) (by kernel_rfl) (by kernel_rfl) (fun _ _ _ h => h) (Or.inl ⟨?_, ?_⟩) (by assumption) ?_; rotate_left; (rfl); (focus (intro w hSw; (try dsimp only at hSw); go_simp; try with_reducible rfl)); try simp only [Act.put, List.setIfInBounds_toArray, List.set_cons_zero, List.set_cons_succ])
      first | (refine wpAnyH_take (i := 8) (v := undef) (by simp only [List.getElem?_toArray, List.getElem?_cons_succ, List.getElem?_cons_zero]; exact rfl) (by kernel_rfl) (by kernel_rfl) (by kernel_rfl) (fun _ _ _ h => h) (Or.inr ⟨?_, rfl⟩) (by assumption) ?_; (rfl); try simp only [Act.put, List.setIfInBounds_toArray, List.set_cons_zero, List.set_cons_succ]) | (refine wpAnyH_take (i := 8) (v := O.a) (by simp only [List.getElem?_toArray, List.getElem?_cons_succ, List.getElem?_cons_zero]; exact rfl) (by kernel_rfl) (by kernel_rfl) (by kernel_rfl) (fun _ _ _ h => h) (Or.inl ⟨?_, ?_⟩) (by assumption) ?_; (rfl); (focus (intro W hSw; clear hSw; first | rfl | kernel_rfl)); try simp only [Act.put, List.setIfInBounds_toArray, List.set_cons_zero, List.set_cons_succ])
      first | (refine wpAnyH_take (i := 9) (v := undef) (by simp only [List.getElem?_toArray, List.getElem?_cons_succ, List.getElem?_cons_zero]; exact rfl) (by kernel_rfl) (by kernel_rfl) (by kernel_rfl) (fun _ _ _ h => h) (Or.inr ⟨?_, rfl⟩) (by assumption) ?_; (rfl); try simp only [Act.put, List.setIfInBounds_toArray, List.set_cons_zero, List.set_cons_succ]) | (refine wpAnyH_take (i := 9) (v := .bool B) (by simp only [List.getElem?_toArray, List.getElem?_cons_succ, List.getElem?_cons_zero]; exact rfl) (by kernel_rfl) (by kernel_rfl) (by kernel_rfl) (fun _ _ _ h => h) (Or.inl ⟨?_, ?_⟩) (by assumption) ?_; (rfl); (focus (intro W hSw; clear hSw; first | rfl | kernel_rfl)); try simp only [Act.put, List.setIfInBounds_toArray, List.set_cons_zero, List.set_cons_succ])
      first | (refine wpAnyH_take (i := 10) (v := undef) (by simp only [List.getElem?_toArray, List.getElem?_cons_succ, List.getElem?_cons_zero]; exact rfl) (by kernel_rfl) (by kernel_rfl) (by kernel_rfl) (fun _ _ _ h => h) (Or.inr ⟨?_, rfl⟩) (by assumption) ?_; (rfl); try simp only [Act.put, List.setIfInBounds_toArray, List.set_cons_zero, List.set_cons_succ]) | (refine wpAnyH_take (i := 10) (v := .int .i64 E) (by simp only [List.getElem?_toArray, List.getElem?_cons_succ, List.getElem?_cons_zero]; exact rfl) (by kernel_rfl) (by kernel_rfl) (by kernel_rfl) (fun _ _ _ h => h) (Or.inl ⟨?_, ?_⟩) (by assumption) ?_; (rfl); (focus (intro W hSw; clear hSw; first | rfl | kernel_rfl)); try simp only [Act.put, List.setIfInBounds_toArray, List.set_cons_zero, List.set_cons_succ])
      refine wpAnyH_ready (rs := [12]) (by kernel_rfl) (by simp) ?_
      refine AllReadyH.cons rfl (fun K hK => ?_) AllReadyH.nil
      rw [if_pos (by kernel_rfl)]
      refine wp_store_row 38 (.tmp 4) (.tmp 26) (by rfl) gR O.cs (by rfl) (by rfl) 38 #[.int .u8 0, .int .u8 0, .float .f64 0, .string ⟨#[]⟩, .int .i64 0, .bool false, .bool false, .int .u8 0, .int .u8 0, .float .f64 0, .string ⟨#[]⟩, .int .i64 0, .int .u8 0, .float .f64 0, .string ⟨#[]⟩, .int .i64 0, .int .u8 0, .float .f64 0, .string ⟨#[]⟩, .int .i64 0, .bool false, .bool false, .bool false, .slice none 0 0, .int .u8 0, .string ⟨#[]⟩] (by exact R.out) (by kernel_rfl) (by rfl) (by exact HO.out.cells) ?_
      replace R := hidB (R.out.setRow O.cs)
      replace hHeld := below_setRow hHeld hgB O.cs
      refine put_none_K (by first | rfl | kernel_rfl) ?_
      refine hK.out _ _ hHeld (fun _ => ?_)
      clear hK K
      generalize hWn : v3.setRow gR O.cs = v4 at *
      clear hWn
      first | (refine wpAnyH_take (i := 13) (v := undef) (by simp only [List.getElem?_toArray, List.getElem?_cons_succ, List.getElem?_cons_zero]; exact rfl) (by kernel_rfl) (by kernel_rfl) (by kernel_rfl) (fun _ _ _ h => h) (Or.inr ⟨?_, rfl⟩) (by assumption) ?_; (rfl); try simp only [Act.put, List.setIfInBounds_toArray, List.set_cons_zero, List.set_cons_succ]) | (refine wpAnyH_take (i := 13) (v := ?_) (by simp only [List.getElem?_toArray, List.getElem?_cons_succ, List.getElem?_cons_zero]; exact rfl) (by kernel_rfl) (by kernel_rfl) (by kernel_rfl) (fun _ _ _ h => h) (Or.inl ⟨?_, ?_⟩) (by assumption) ?_; rotate_left; (rfl); (focus (intro w hSw; (try dsimp only at hSw); go_simp; try with_reducible rfl)); try simp only [Act.put, List.setIfInBounds_toArray, List.set_cons_zero, List.set_cons_succ])
      first | (refine wpAnyH_take (i := 14) (v := undef) (by simp only [List.getElem?_toArray, List.getElem?_cons_succ, List.getElem?_cons_zero]; exact rfl) (by kernel_rfl) (by kernel_rfl) (by kernel_rfl) (fun _ _ _ h => h) (Or.inr ⟨?_, rfl⟩) (by assumption) ?_; (rfl); try simp only [Act.put, List.setIfInBounds_toArray, List.set_cons_zero, List.set_cons_succ]) | (refine wpAnyH_take (i := 14) (v := ?_) (by simp only [List.getElem?_toArray, List.getElem?_cons_succ, List.getElem?_cons_zero]; exact rfl) (by kernel_rfl) (by kernel_rfl) (by kernel_rfl) (fun _ _ _ h => h) (Or.inl ⟨?_, ?_⟩) (by assumption) ?_; rotate_left; (rfl); (focus (intro w hSw; (try dsimp only at hSw); go_simp; try with_reducible rfl)); try simp only [Act.put, List.setIfInBounds_toArray, List.set_cons_zero, List.set_cons_succ])
      refine wpAnyH_done (by kernel_rfl) ?_ _
      refine NoPanic.normal ?_
      go_wp2_with fail
      go_meet
      case rel => exact ⟨gR, O, HO.out, rfl, rfl, rfl, R.out, hgB, hHeld⟩
    case rest =>
    obtain ⟨g, O, hO, rfl, rfl, rfl, hR, hg, hb⟩ := hcut
    have HO := hidB hO
    have R := hidB hR
    have Q4 := hidB (Q3.out.on hb)
    have B4 := hidB (B3.out.trans (hb.mono B3.out.size))
    clear hO hR hb hg Q3 B3 CA FA
    cases B
    · obtain ⟨kv, _, hkv⟩ := HO.out
      unfold chkO at hkv
      rw [← HB.out] at hkv
      have hkv : O = OI.zero := hkv
      subst hkv
      have z0 : wc.cell? ⟨g, 0, none⟩ = some (.int .u8 0) := R.out.cell 0
      generalize hne : (E != 0) = ne at *
      cases ne
      all_goals
        go_wp2_with fail
        go_ret
        exact ⟨rfl, B4.out⟩
    · obtain ⟨hE0, hW⟩ := chk_well HB.out.symm
      have hA : askedE q.a q.x lk = 0 := (chk_parts hE0).1
      have hK : knownE q.a.m q.f ks ds = 0 := (chk_parts hE0).2
      have hm := asked_m hA
      rw [hE0] at HE
      obtain rfl : E = 0 := HE.out
      have HW := hidB hW
      have HA := hidB hA
      have HK := hidB hK
      have HM0 := hidB hm
      clear hE0 hW hA hK hm
      have DA := hidB (fun W => isData_any q.f.d W)
      go_upto_region 7 with fail
      go_cut [7] from 7 to 179 (fun s7 wx => s7 = .bool (fixedB q.f) ∧ wc = wx)
      case first =>
        have z60 : wc.cell? ⟨w.heap.size, 60, none⟩ = some (.bool q.f.fo) := Q4.out.cell 60
        have z76 : wc.cell? ⟨w.heap.size, 76, none⟩ = some (.bool q.f.d.cf) := Q4.out.cell 76
        generalize h1 : q.f.fo = l1 at *
        generalize h2 : q.f.d.cf = l2 at *
        have H1 := hidB h1
        have H2 := hidB h2
        clear h1 h2
        cases l1
        · go_wp2_with fail
          go_meet
          case rel => exact ⟨congrArg Value.bool (by unfold fixedB; rw [H1.out]; rfl), rfl⟩
        · cases l2
          all_goals
            go_wp2_with fail
            go_meet
            case rel => exact ⟨congrArg Value.bool (by unfold fixedB; rw [H1.out, H2.out]; rfl), rfl⟩
      case rest =>
      obtain ⟨rfl, rfl⟩ := hcut
      go_upto_region 8 with fail
      go_cut [8] from 8 to 179 (fun s8 wx => s8 = .bool (stillB q.f) ∧ Bk wx g 38 O.cs ∧ Bk wx w.heap.size 41 q.cs ∧ Below w.heap.size w wx)
      case first =>
        generalize hfx : fixedB q.f = fx at *
        have HFX := hidB hfx
        clear hfx
        cases fx
        · go_wp2_with fail
          go_meet
          case rel => exact ⟨congrArg Value.bool (by unfold stillB; rw [HFX.out]; rfl), R.out, Q4.out, B4.out⟩
        · go_wp2_with (first | ((with_reducible refine ldId 32 (.tmp 52) ?_); refine wpList_wload_mid 32 (.tmp 52) (by rfl) (by rfl) (w.heap.size) 61 (by rfl) (q.f.d.cs.toList) _ (by exact Bk.mid Q4.out 61 _ rfl) Try.underlying32 (by rfl) (by kernel_rfl) ?_))
          refine (DA.out _).mono ?_; rintro e w5 ⟨rfl, hb⟩
          have R5 := hidB (R.out.on hb)
          have Q5 := hidB (Q4.out.on hb)
          have B5 := hidB (B4.out.trans (hb.mono B4.out.size))
          clear hb
          have z74 : w5.cell? ⟨w.heap.size, 74, none⟩ = some (.bool q.f.d.wr) := Q5.out.cell 74
          generalize hdd : (bits .and .u8 q.f.d.has 3 != 0) = dd at *
          generalize hlw : q.f.d.wr = lw at *
          have HDD := hidB hdd
          have HLW := hidB hlw
          clear hdd hlw
          cases dd
          · go_wp2_with fail
            go_meet
            case rel => exact ⟨congrArg Value.bool (by unfold stillB DI.data hasB; rw [HFX.out, HDD.out]; rfl), R5.out, Q5.out, B5.out⟩
          · cases lw
            all_goals
              go_wp2_with fail
              go_meet
              case rel => exact ⟨congrArg Value.bool (by unfold stillB DI.data hasB; rw [HFX.out, HDD.out, HLW.out]; rfl), R5.out, Q5.out, B5.out⟩
      case rest =>
      obtain ⟨rfl, hR, hQ, hb⟩ := hcut
      replace R := hidB hR
      replace Q4 := hidB hQ
      replace B4 := hidB hb
      clear hR hQ hb DA
      obtain ⟨kv, ⟨kp, kc, hkv⟩, hO⟩ := HO.out
      unfold chkO at hO
      rw [← HB.out, if_pos rfl] at hO
      clear HO HB HE
      have hmm : q.a.m = 1 ∨ q.a.m = 2 ∨ q.a.m = 3 ∨ q.a.m = 4 ∨ q.a.m = 5 ∨ q.a.m = 6 ∨ q.a.m = 7 ∨ q.a.m = 8 ∨ q.a.m = 9 ∨ q.a.m = 10 ∨ q.a.m = 11 ∨ q.a.m = 12 ∨ q.a.m = 13 := by have := HM0.out; omega
      clear HM0
      rcases hmm with hm | hm | hm | hm | hm | hm | hm | hm | hm | hm | hm | hm | hm
      · rw [hm] at hO
        have HM := hidB hm
        have z_m : wc.cell? ⟨w.heap.size, 0, none⟩ = some (.int .u8 1) := by rw [← HM.out]; exact Q4.out.cell 0
        clear hm hO HW
        go_wp2_with fail
        go_ret
        exact ⟨rfl, B4.out⟩
      · rw [hm] at hO
        have HM := hidB hm
        have z_m : wc.cell? ⟨w.heap.size, 0, none⟩ = some (.int .u8 2) := by rw [← HM.out]; exact Q4.out.cell 0
        clear hm hO HW
        go_wp2_with fail
        go_ret
        exact ⟨rfl, B4.out⟩
      · rw [hm] at hO
        have HM := hidB hm
        have z_m : wc.cell? ⟨w.heap.size, 0, none⟩ = some (.int .u8 3) := by rw [← HM.out]; exact Q4.out.cell 0
        have L : (q.x.b == q.f.ext) = true := by have h := HW.out; unfold wellB at h; rw [if_neg (show ¬ q.a.m = 1 by omega), if_neg (show ¬ q.a.m = 2 by omega), if_pos hm] at h; exact h
        clear hm HW
        have hO : O = { OI.done with b := q.x.b } := hO
        subst hO
        have y5 : wc.cell? ⟨g, 5, none⟩ = some (.bool q.x.b) := R.out.cell 5
        have z55 : wc.cell? ⟨w.heap.size, 55, none⟩ = some (.bool q.f.ext) := Q4.out.cell 55
        go_wp2_with fail
        go_ret
        exact ⟨ret_bool (by first | exact L | rfl), B4.out⟩
      · rw [hm] at hO
        have HM := hidB hm
        have z_m : wc.cell? ⟨w.heap.size, 0, none⟩ = some (.int .u8 4) := by rw [← HM.out]; exact Q4.out.cell 0
        clear hm hO HW
        go_wp2_with fail
        go_ret
        exact ⟨rfl, B4.out⟩
      · rw [hm] at hO
        have HM := hidB hm
        have z_m : wc.cell? ⟨w.heap.size, 0, none⟩ = some (.int .u8 5) := by rw [← HM.out]; exact Q4.out.cell 0
        cases hfo : q.x.fo
        · have L : (if q.x.fo then told q.x.d.com q.f else !q.f.fo || (q.f.d.cf && q.f.ext)) = true := by have h := HW.out; unfold wellB at h; rw [if_neg (show ¬ q.a.m = 1 by omega), if_neg (show ¬ q.a.m = 2 by omega), if_neg (show ¬ q.a.m = 3 by omega), if_neg (show ¬ q.a.m = 4 by omega), if_pos hm] at h; exact h
          rw [hfo] at L
          have L2 := lies_none L
          clear hm HW L
          have hO : O = { OI.done with fo := false, d := DI.zero } := by rw [hO]; unfold outO; rw [hfo]; rfl
          subst hO
          have y6 : wc.cell? ⟨g, 6, none⟩ = some (.bool false) := R.out.cell 6
          generalize fixedB q.f = fx at *
          cases fx
          · clear L2
            go_wp2_with fail
            go_ret
            exact ⟨rfl, B4.out⟩
          · exact absurd L2 (by decide)
        · have L : (if q.x.fo then told q.x.d.com q.f else !q.f.fo || (q.f.d.cf && q.f.ext)) = true := by have h := HW.out; unfold wellB at h; rw [if_neg (show ¬ q.a.m = 1 by omega), if_neg (show ¬ q.a.m = 2 by omega), if_neg (show ¬ q.a.m = 3 by omega), if_neg (show ¬ q.a.m = 4 by omega), if_pos hm] at h; exact h
          rw [hfo] at L
          have hx : q.x.d.err = 0 := by have h := HA.out; unfold askedE at h; rw [if_neg (show ¬ (q.a.m < 1 ∨ 13 < q.a.m ∨ q.x.kd ≠ 1) by intro hh; rw [if_pos hh] at h; exact absurd h (by decide)), if_neg (show ¬ q.a.m = 2 by omega), if_neg (show ¬ q.a.m = 6 by omega), if_neg (show ¬ q.a.m = 9 by omega), if_neg (show ¬ (q.a.m = 1 ∨ q.a.m = 8 ∨ q.a.m = 12 ∨ q.a.m = 13) by omega), if_pos hm, if_pos hfo] at h; exact h
          have hw : q.f.fo = true → q.f.d.isW = true := by
            intro hf
            have h := HK.out
            rw [hm] at h
            have h : (if q.f.fo && !q.f.d.isW then (90 : Int) else 0) = 0 := h
            cases hi : q.f.d.isW
            · rw [hf, hi] at h; exact absurd h (by decide)
            · rfl
          obtain ⟨L1, L2⟩ := lies_told hx HQ.out.hx HQ.out.hf hw L
          have hck : 0 ≤ q.x.d.com.v.k := (DI.com_ok HQ.out.ask.xd).1
          clear hm HW L hw hx
          have hO : O = { OI.done with fo := true, d := q.x.d.com } := by rw [hO]; unfold outO; rw [hfo]; rfl
          subst hO
          generalize q.x.d.com = c at *
          have SA : Hid (∀ W, Calls Try.prog 16 #[c.v.a, q.f.d.v.a] W fun e w' => e = .returned (.bool (c.v.same q.f.d.v)) ∧ Below W.heap.size W w') := hidB (fun W => same_any c.v.k c.v.x c.v.s c.v.r q.f.d.v.k q.f.d.v.x q.f.d.v.s q.f.d.v.r hck W)
          clear hck
          have y6 : wc.cell? ⟨g, 6, none⟩ = some (.bool true) := R.out.cell 6
          generalize hfx : fixedB q.f = fx at *
          generalize hsl : stillB q.f = sl at *
          cases fx
          · cases sl
            · clear L2
              rcases L1 with hc | hc
              · have HC := hidB hc
                clear hc
                have y7 : wc.cell? ⟨g, 7, none⟩ = some (.int .u8 51) := by rw [← HC.out]; exact R.out.cell 7
                go_wp2_with fail
                go_ret
                exact ⟨rfl, B4.out⟩
              · have HC := hidB hc
                clear hc
                have y7 : wc.cell? ⟨g, 7, none⟩ = some (.int .u8 60) := by rw [← HC.out]; exact R.out.cell 7
                go_wp2_with fail
                go_ret
                exact ⟨rfl, B4.out⟩
            · exfalso
              unfold stillB at hsl
              rw [hfx] at hsl
              exact absurd hsl (by simp)
          · obtain ⟨h1, h2, h3, h4⟩ := L2 rfl
            have HCF := hidB h1
            obtain ⟨ce, hce⟩ : ∃ ce, c.en = ce := ⟨_, rfl⟩
            have HCE := hidB hce
            have HFE := hidB (h3.symm.trans hce)
            clear h1 h3 hce L2
            cases sl
            · clear h4
              rcases L1 with hc | hc
              · have HC := hidB hc
                have HFH := hidB (h2.symm.trans hc)
                clear hc h2
                have y7 : wc.cell? ⟨g, 7, none⟩ = some (.int .u8 51) := by rw [← HC.out]; exact R.out.cell 7
                have y22 : wc.cell? ⟨g, 22, none⟩ = some (.bool false) := by rw [← HCF.out]; exact R.out.cell 22
                have y21 : wc.cell? ⟨g, 21, none⟩ = some (.bool ce) := by rw [← HCE.out]; exact R.out.cell 21
                have z61 : wc.cell? ⟨w.heap.size, 61, none⟩ = some (.int .u8 51) := by rw [← HFH.out]; exact Q4.out.cell 61
                have z75 : wc.cell? ⟨w.heap.size, 75, none⟩ = some (.bool ce) := by rw [← HFE.out]; exact Q4.out.cell 75
                have hee : (ce == ce) = true := by cases ce <;> rfl
                go_wp2_with fail
                go_ret
                exact ⟨rfl, B4.out⟩
              · have HC := hidB hc
                have HFH := hidB (h2.symm.trans hc)
                clear hc h2
                have y7 : wc.cell? ⟨g, 7, none⟩ = some (.int .u8 60) := by rw [← HC.out]; exact R.out.cell 7
                have y22 : wc.cell? ⟨g, 22, none⟩ = some (.bool false) := by rw [← HCF.out]; exact R.out.cell 22
                have y21 : wc.cell? ⟨g, 21, none⟩ = some (.bool ce) := by rw [← HCE.out]; exact R.out.cell 21
                have z61 : wc.cell? ⟨w.heap.size, 61, none⟩ = some (.int .u8 60) := by rw [← HFH.out]; exact Q4.out.cell 61
                have z75 : wc.cell? ⟨w.heap.size, 75, none⟩ = some (.bool ce) := by rw [← HFE.out]; exact Q4.out.cell 75
                have hee : (ce == ce) = true := by cases ce <;> rfl
                go_wp2_with fail
                go_ret
                exact ⟨rfl, B4.out⟩
            · obtain ⟨h5, h6⟩ := h4 rfl
              rw [h5] at SA
              have HWR := hidB h6
              clear h4 h5 h6
              rcases L1 with hc | hc
              · have HC := hidB hc
                have HFH := hidB (h2.symm.trans hc)
                clear hc h2
                go_wp2_with (first | ((with_reducible refine ldId 30 (.tmp 83) ?_); refine wpList_wload_mid 30 (.tmp 83) (by rfl) (by rfl) (g) 8 (by rfl) (c.v.cells) _ (by exact Bk.mid R.out 8 _ rfl) Try.underlying30 (by rfl) (by kernel_rfl) ?_) | ((with_reducible refine ldId 30 (.tmp 86) ?_); refine wpList_wload_mid 30 (.tmp 86) (by rfl) (by rfl) (w.heap.size) 62 (by rfl) (q.f.d.v.cells) _ (by exact Bk.mid Q4.out 62 _ rfl) Try.underlying30 (by rfl) (by kernel_rfl) ?_))
                refine (SA.out _).mono ?_; rintro e w5 ⟨rfl, hb⟩
                have R5 := hidB (R.out.on hb)
                have Q5 := hidB (Q4.out.on hb)
                have B5 := hidB (B4.out.trans (hb.mono B4.out.size))
                clear hb
                have y20 : w5.cell? ⟨g, 20, none⟩ = some (.bool false) := by rw [← HWR.out]; exact R5.out.cell 20
                have y7 : w5.cell? ⟨g, 7, none⟩ = some (.int .u8 51) := by rw [← HC.out]; exact R5.out.cell 7
                have y22 : w5.cell? ⟨g, 22, none⟩ = some (.bool false) := by rw [← HCF.out]; exact R5.out.cell 22
                have y21 : w5.cell? ⟨g, 21, none⟩ = some (.bool ce) := by rw [← HCE.out]; exact R5.out.cell 21
                have z61 : w5.cell? ⟨w.heap.size, 61, none⟩ = some (.int .u8 51) := by rw [← HFH.out]; exact Q5.out.cell 61
                have z75 : w5.cell? ⟨w.heap.size, 75, none⟩ = some (.bool ce) := by rw [← HFE.out]; exact Q5.out.cell 75
                have hee : (ce == ce) = true := by cases ce <;> rfl
                go_wp2_with fail
                go_ret
                exact ⟨rfl, B5.out⟩
              · have HC := hidB hc
                have HFH := hidB (h2.symm.trans hc)
                clear hc h2
                go_wp2_with (first | ((with_reducible refine ldId 30 (.tmp 83) ?_); refine wpList_wload_mid 30 (.tmp 83) (by rfl) (by rfl) (g) 8 (by rfl) (c.v.cells) _ (by exact Bk.mid R.out 8 _ rfl) Try.underlying30 (by rfl) (by kernel_rfl) ?_) | ((with_reducible refine ldId 30 (.tmp 86) ?_); refine wpList_wload_mid 30 (.tmp 86) (by rfl) (by rfl) (w.heap.size) 62 (by rfl) (q.f.d.v.cells) _ (by exact Bk.mid Q4.out 62 _ rfl) Try.underlying30 (by rfl) (by kernel_rfl) ?_))
                refine (SA.out _).mono ?_; rintro e w5 ⟨rfl, hb⟩
                have R5 := hidB (R.out.on hb)
                have Q5 := hidB (Q4.out.on hb)
                have B5 := hidB (B4.out.trans (hb.mono B4.out.size))
                clear hb
                have y20 : w5.cell? ⟨g, 20, none⟩ = some (.bool false) := by rw [← HWR.out]; exact R5.out.cell 20
                have y7 : w5.cell? ⟨g, 7, none⟩ = some (.int .u8 60) := by rw [← HC.out]; exact R5.out.cell 7
                have y22 : w5.cell? ⟨g, 22, none⟩ = some (.bool false) := by rw [← HCF.out]; exact R5.out.cell 22
                have y21 : w5.cell? ⟨g, 21, none⟩ = some (.bool ce) := by rw [← HCE.out]; exact R5.out.cell 21
                have z61 : w5.cell? ⟨w.heap.size, 61, none⟩ = some (.int .u8 60) := by rw [← HFH.out]; exact Q5.out.cell 61
                have z75 : w5.cell? ⟨w.heap.size, 75, none⟩ = some (.bool ce) := by rw [← HFE.out]; exact Q5.out.cell 75
                have hee : (ce == ce) = true := by cases ce <;> rfl
                go_wp2_with fail
                go_ret
                exact ⟨rfl, B5.out⟩
      · rw [hm] at hO
        have HM := hidB hm
        have z_m : wc.cell? ⟨w.heap.size, 0, none⟩ = some (.int .u8 6) := by rw [← HM.out]; exact Q4.out.cell 0
        clear hm hO HW
        go_wp2_with fail
        go_ret
        exact ⟨rfl, B4.out⟩
      · rw [hm] at hO
        have HM := hidB hm
        have z_m : wc.cell? ⟨w.heap.size, 0, none⟩ = some (.int .u8 7) := by rw [← HM.out]; exact Q4.out.cell 0
        have L : (q.x.b || (!q.f.fo || (q.f.d.cf && q.f.ext))) = true := by have h := HW.out; unfold wellB at h; rw [if_neg (show ¬ q.a.m = 1 by omega), if_neg (show ¬ q.a.m = 2 by omega), if_neg (show ¬ q.a.m = 3 by omega), if_neg (show ¬ q.a.m = 4 by omega), if_neg (show ¬ q.a.m = 5 by omega), if_neg (show ¬ q.a.m = 6 by omega), if_pos hm] at h; exact h
        have L2 := lies_found L
        clear hm HW L
        have hO : O = { OI.done with b := q.x.b } := hO
        subst hO
        have y5 : wc.cell? ⟨g, 5, none⟩ = some (.bool q.x.b) := R.out.cell 5
        generalize q.x.b = xb at *
        generalize fixedB q.f = fx at *
        cases xb
        · cases fx
          · skip
            clear L2
            go_wp2_with fail
            go_ret
            exact ⟨rfl, B4.out⟩
          · exact absurd L2 (by decide)
        · skip
          clear L2
          go_wp2_with fail
          go_ret
          exact ⟨rfl, B4.out⟩
      · rw [hm] at hO
        have HM := hidB hm
        have z_m : wc.cell? ⟨w.heap.size, 0, none⟩ = some (.int .u8 8) := by rw [← HM.out]; exact Q4.out.cell 0
        have L : gotB q.x.v q.f false = true := by have h := HW.out; unfold wellB at h; rw [if_neg (show ¬ q.a.m = 1 by omega), if_neg (show ¬ q.a.m = 2 by omega), if_neg (show ¬ q.a.m = 3 by omega), if_neg (show ¬ q.a.m = 4 by omega), if_neg (show ¬ q.a.m = 5 by omega), if_neg (show ¬ q.a.m = 6 by omega), if_neg (show ¬ q.a.m = 7 by omega), if_pos hm] at h; exact h
        have L2 := lies_got L
        clear hm HW L
        have hO : O = { OI.done with v := q.x.v } := hO
        subst hO
        have SA : Hid (∀ W, Calls Try.prog 16 #[q.x.v.a, q.f.d.v.a] W fun e w' => e = .returned (.bool (q.x.v.same q.f.d.v)) ∧ Below W.heap.size W w') := hidB (fun W => same_any q.x.v.k q.x.v.x q.x.v.s q.x.v.r q.f.d.v.k q.f.d.v.x q.f.d.v.s q.f.d.v.r HQ.out.ask.xv W)
        generalize stillB q.f = sl at *
        generalize q.x.v.same q.f.d.v = sm at *
        cases sl
        · clear L2
          go_wp2_with fail
          go_ret
          exact ⟨rfl, B4.out⟩
        · cases sm
          · exact absurd L2 (by decide)
          · clear L2
            go_wp2_with (first | ((with_reducible refine ldId 30 (.tmp 159) ?_); refine wpList_wload_mid 30 (.tmp 159) (by rfl) (by rfl) (g) 1 (by rfl) (q.x.v.cells) _ (by exact Bk.mid R.out 1 _ rfl) Try.underlying30 (by rfl) (by kernel_rfl) ?_) | ((with_reducible refine ldId 30 (.tmp 162) ?_); refine wpList_wload_mid 30 (.tmp 162) (by rfl) (by rfl) (w.heap.size) 62 (by rfl) (q.f.d.v.cells) _ (by exact Bk.mid Q4.out 62 _ rfl) Try.underlying30 (by rfl) (by kernel_rfl) ?_))
            refine (SA.out _).mono ?_; rintro e w5 ⟨rfl, hb⟩
            have B5 := hidB (B4.out.trans (hb.mono B4.out.size))
            clear hb
            go_wp2_with fail
            go_ret
            exact ⟨rfl, B5.out⟩
      · rw [hm] at hO
        have HM := hidB hm
        have z_m : wc.cell? ⟨w.heap.size, 0, none⟩ = some (.int .u8 9) := by rw [← HM.out]; exact Q4.out.cell 0
        clear hm hO HW
        go_wp2_with fail
        go_ret
        exact ⟨rfl, B4.out⟩
      · rw [hm] at hO
        have HM := hidB hm
        have z_m : wc.cell? ⟨w.heap.size, 0, none⟩ = some (.int .u8 10) := by rw [← HM.out]; exact Q4.out.cell 0
        have L : (!q.x.b || (!q.f.fo || (q.f.d.cf && q.f.ext))) = true := by have h := HW.out; unfold wellB at h; rw [if_neg (show ¬ q.a.m = 1 by omega), if_neg (show ¬ q.a.m = 2 by omega), if_neg (show ¬ q.a.m = 3 by omega), if_neg (show ¬ q.a.m = 4 by omega), if_neg (show ¬ q.a.m = 5 by omega), if_neg (show ¬ q.a.m = 6 by omega), if_neg (show ¬ q.a.m = 7 by omega), if_neg (show ¬ q.a.m = 8 by omega), if_neg (show ¬ q.a.m = 9 by omega), if_pos hm] at h; exact h
        have L2 := lies_found L
        clear hm HW L
        have hO : O = { OI.done with b := q.x.b } := hO
        subst hO
        have y5 : wc.cell? ⟨g, 5, none⟩ = some (.bool q.x.b) := R.out.cell 5
        generalize q.x.b = xb at *
        generalize fixedB q.f = fx at *
        cases xb
        · skip
          clear L2
          go_wp2_with fail
          go_ret
          exact ⟨rfl, B4.out⟩
        · cases fx
          · skip
            clear L2
            go_wp2_with fail
            go_ret
            exact ⟨rfl, B4.out⟩
          · exact absurd L2 (by decide)
      · rw [hm] at hO
        have HM := hidB hm
        have z_m : wc.cell? ⟨w.heap.size, 0, none⟩ = some (.int .u8 11) := by rw [← HM.out]; exact Q4.out.cell 0
        have L : listedB lk q.f ks ds = true := by have h := HW.out; unfold wellB at h; rw [if_neg (show ¬ q.a.m = 1 by omega), if_neg (show ¬ q.a.m = 2 by omega), if_neg (show ¬ q.a.m = 3 by omega), if_neg (show ¬ q.a.m = 4 by omega), if_neg (show ¬ q.a.m = 5 by omega), if_neg (show ¬ q.a.m = 6 by omega), if_neg (show ¬ q.a.m = 7 by omega), if_neg (show ¬ q.a.m = 8 by omega), if_neg (show ¬ q.a.m = 9 by omega), if_neg (show ¬ q.a.m = 10 by omega), if_pos hm] at h; exact h
        have L2 := lies_keys L
        clear hm HW L
        have hO : O = { OI.done with keys := kv } := hO
        subst hO hkv
        obtain ⟨p1, c1, ek, _⟩ := HQ.out.facts.rk
        have y23 : wc.cell? ⟨g, 23, none⟩ = some (.slice kp lk.length kc) := R.out.cell 23
        have z77 : wc.cell? ⟨w.heap.size, 77, none⟩ = some (.slice p1 ks.length c1) := by rw [← ek]; exact Q4.out.cell 77
        have z55 : wc.cell? ⟨w.heap.size, 55, none⟩ = some (.bool q.f.ext) := Q4.out.cell 55
        clear ek
        generalize q.f.ext = xe at *
        cases xe
        · have hl : lk.length = ks.length := by simpa using L2
          have hl2 : ((lk.length : Int) == (ks.length : Int)) = true := by rw [beq_iff_eq]; omega
          clear L2
          go_wp2_with fail
          go_ret
          exact ⟨ret_bool (by first | rfl | (simp [*]; done)), B4.out⟩
        · clear L2
          go_wp2_with fail
          go_ret
          exact ⟨rfl, B4.out⟩
      · rw [hm] at hO
        have HM := hidB hm
        have z_m : wc.cell? ⟨w.heap.size, 0, none⟩ = some (.int .u8 12) := by rw [← HM.out]; exact Q4.out.cell 0
        clear hm hO HW
        go_wp2_with fail
        go_ret
        exact ⟨rfl, B4.out⟩
      · rw [hm] at hO
        have HM := hidB hm
        have z_m : wc.cell? ⟨w.heap.size, 0, none⟩ = some (.int .u8 13) := by rw [← HM.out]; exact Q4.out.cell 0
        clear hm hO HW
        go_wp2_with fail
        go_ret
        exact ⟨rfl, B4.out⟩
  · go_wp2_with fail
    go_ret
    exact ⟨rfl, B3.out⟩
  
end Go.Proofs.Ytlpldhcoplbopaa
