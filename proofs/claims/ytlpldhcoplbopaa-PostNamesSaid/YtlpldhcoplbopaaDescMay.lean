/-
  Descriptors: what may become of a property that is there: the walks of desc.may, desc.asked, desc.Compatible.
-/
import Derived.Test.YtlpldhcoplbopaaDescCom
import Derived.BigGuardPart
namespace Go.Proofs.Ytlpldhcoplbopaa
open Go.RowKit

def VI.same (a b : VI) : Bool := sameV a.k a.x a.s a.r b.k b.x b.s b.r
/-- May a property that is there become so? -/
def DI.may (d n : DI) : Bool :=
  if n.cf then true else if d.cf then false else if hasB d.has 16 && (d.en != n.en) then false
  else if bits .and .u8 d.has 15 == 0 then true
  else if d.data != n.data then false
  else if d.data then n.wr || (!d.wr && (!hasB d.has 1 || d.v.same n.v))
  else (!hasB d.has 4 || d.g.same n.g) && (!hasB d.has 8 || d.t.same n.t)
theorem eq_of_bne {n : Int} {b : Bool} (h : (n != 0) = b) : (n == 0) = !b := by subst h; cases hn : (n == 0) <;> simp [bne, hn]

set_option maxHeartbeats 8000000 in
set_option maxRecDepth 100000 in
theorem descMay_any (d n : DI) (hd : d.ok) (w : World) : Calls Try.prog 52 #[d.a, n.a] w fun e w' => e = .returned (.bool (d.may n)) ∧ Below w.heap.size w w' := by
  have PA := hidB (fun W => isPlain_any d W)
  have DA := hidB (fun W => isData_any d W)
  have NA := hidB (fun W => isData_any n W)
  have Sv : Hid (∀ W, Calls Try.prog 16 #[d.v.a, n.v.a] W fun e w' => e = .returned (.bool (d.v.same n.v)) ∧ Below W.heap.size W w') := hidB (fun W => same_any d.v.k d.v.x d.v.s d.v.r n.v.k n.v.x n.v.s n.v.r hd.1 W)
  have Sg : Hid (∀ W, Calls Try.prog 16 #[d.g.a, n.g.a] W fun e w' => e = .returned (.bool (d.g.same n.g)) ∧ Below W.heap.size W w') := hidB (fun W => same_any d.g.k d.g.x d.g.s d.g.r n.g.k n.g.x n.g.s n.g.r hd.2.1 W)
  have St : Hid (∀ W, Calls Try.prog 16 #[d.t.a, n.t.a] W fun e w' => e = .returned (.bool (d.t.same n.t)) ∧ Below W.heap.size W w') := hidB (fun W => same_any d.t.k d.t.x d.t.s d.t.r n.t.k n.t.x n.t.s n.t.r hd.2.2 W)
  have U := hidB (show Bk ((w.alloc (.cells d.cs 32)).alloc (.cells n.cs 32)) (w.heap.size) 32 d.cs from (Bk.new w _ _).alloc _)
  have N := hidB (show Bk ((w.alloc (.cells d.cs 32)).alloc (.cells n.cs 32)) (w.heap.size + 1) 32 n.cs from Bk.new2 w _ _ _)
  have Bt := hidB (show Below w.heap.size w ((w.alloc (.cells d.cs 32)).alloc (.cells n.cs 32)) from (box_one w _).alloc (by simp) _)
  obtain ⟨x0, x1, x2, x3, x4, x5, x6, x7, x8, x9, x10, x11, x12, x13, x14, x15, _⟩ := Bk.facts16 U.out
  obtain ⟨y0, y1, y2, y3, y4, y5, y6, y7, y8, y9, y10, y11, y12, y13, y14, y15, _⟩ := Bk.facts16 N.out
  unfold DI.may DI.data hasB
  clear hd
  generalize b16 : (bits .and .u8 d.has 16 != 0) = h16 at *
  generalize b15 : (bits .and .u8 d.has 15 == 0) = h15 at *
  generalize bd : (bits .and .u8 d.has 3 != 0) = dd at *
  generalize bn : (bits .and .u8 n.has 3 != 0) = nd at *
  generalize b1 : (bits .and .u8 d.has 1 != 0) = h1 at *
  have c1 := eq_of_bne b1
  generalize b4 : (bits .and .u8 d.has 4 != 0) = h4 at *
  have c4 := eq_of_bne b4
  generalize b8 : (bits .and .u8 d.has 8 != 0) = h8 at *
  have c8 := eq_of_bne b8
  generalize d.v.same n.v = sv at *
  generalize d.g.same n.g = sg at *
  generalize d.t.same n.t = st at *
  have FC : Hid (n.cf = n.cf) := hidB rfl
  generalize hz1 : d.cf = dc at *
  generalize hz2 : n.cf = nc at *
  generalize hz3 : d.wr = dw at *
  generalize hz4 : n.wr = nw at *
  generalize hz5 : d.en = de at *
  generalize hz6 : n.en = ne at *
  have HZ3 := hidB hz3
  have HZ4 := hidB hz4
  clear hz1 hz2 hz3 hz4 hz5 hz6 FC bd bn
  obtain ⟨q, hq⟩ : ∃ q, q = (h16 && (de != ne)) := ⟨_, rfl⟩
  rw [← hq]
  have HQ := hidB hq
  clear hq
  cases nc
  · cases dc
    · skip
      go_enter Try.func52, Try.ntmps52
      go_upto_region 1 with fail
      generalize ((w.alloc (.cells d.cs 32)).alloc (.cells n.cs 32)) = w1 at *
      clear x1 x2 x3 x4 x5 x6 x7 x8 x9 x10 x11 x12 y1 y2 y3 y4 y5 y6 y7 y8 y9 y10 y11 y12
      go_upto_region 5 with fail
      go_cut [10] from 5 to 77 (fun s10 wx => s10 = .bool q ∧ w1 = wx)
      case first =>
        go_wp2_with fail
        all_goals
          go_meet
          case rel => exact ⟨congrArg Value.bool (by rw [HQ.out]; first | (simp [*]; done) | (cases de <;> cases ne <;> simp_all)), rfl⟩
      case rest =>
      obtain ⟨rfl, rfl⟩ := hcut
      clear HQ b16
      cases q
      · skip
        go_wp2_with (first | ((with_reducible refine ldId 32 (.tmp 2) ?_); refine wpList_load_row (by rfl) 32 (.tmp 2) (by rfl) w.heap.size (by rfl) 32 _ (0, 0) _ (by exact U.out) Try.underlying32 (by rfl) (by exact size_desc) ?_))
        refine (PA.out _).mono ?_; rintro e w2 ⟨rfl, hb⟩
        replace U := hidB (U.out.on hb)
        replace N := hidB (N.out.on hb)
        replace Bt := hidB (Bt.out.trans (hb.mono Bt.out.size))
        clear hb
        skip
        cases h15
        · skip
          skip
          go_wp2_with fail
          refine wp_region_noPanic ?_
          refine wp_region_held_drew (S := (fun W => Bk W (w.heap.size) 32 d.cs ∧ Bk W (w.heap.size + 1) 32 n.cs ∧ Below w.heap.size w W)) (by kernel_rfl) ?_ (fun hHeld => ?_)
          · first | exact ⟨hHeld.1.on hb, hHeld.2.1.on hb, hHeld.2.2.trans (hb.mono hHeld.2.2.size)⟩ | exact ⟨U.out.drew, N.out.drew, Bt.out.drew⟩
          (refine wpAnyH_take (i := 0) (v := d.a) (by simp only [List.getElem?_toArray, List.getElem?_cons_zero]; exact rfl) (by kernel_rfl) (by kernel_rfl) (by kernel_rfl) (fun _ _ _ h => h) (yieldsIf_load_mid (by rfl) 32 (.tmp 2) (by rfl) (w.heap.size) (0) (by rfl) (d.cs.toList) _ (fun w hS => Bk.mid hS.1 0 _ rfl) Try.underlying32 (by rfl) (by kernel_rfl)) (by assumption) ?_; try simp only [Act.put, List.setIfInBounds_toArray, List.set_cons_zero, List.set_cons_succ])
          (refine wpAnyH_take (i := 2) (v := n.a) (by simp only [List.getElem?_toArray, List.getElem?_cons_succ, List.getElem?_cons_zero]; exact rfl) (by kernel_rfl) (by kernel_rfl) (by kernel_rfl) (fun _ _ _ h => h) (yieldsIf_load_mid (by rfl) 32 (.tmp 3) (by rfl) (w.heap.size + 1) (0) (by rfl) (n.cs.toList) _ (fun w hS => Bk.mid hS.2.1 0 _ rfl) Try.underlying32 (by rfl) (by kernel_rfl)) (by assumption) ?_; try simp only [Act.put, List.setIfInBounds_toArray, List.set_cons_zero, List.set_cons_succ])
          (refine wpAnyH_ready (rs := [1]) (by kernel_rfl) (by simp) ?_; refine AllReadyH.cons rfl (fun K hK => ?_) AllReadyH.nil; go_simp; (refine (DA.out _).mono ?_; rintro e wn ⟨rfl, hb⟩); (refine hK.out _ _ ?_ (fun hHeld => ?_); (first | exact ⟨hHeld.1.on hb, hHeld.2.1.on hb, hHeld.2.2.trans (hb.mono hHeld.2.2.size)⟩ | exact ⟨U.out.drew, N.out.drew, Bt.out.drew⟩)); clear hK K; try simp only [Act.put, List.setIfInBounds_toArray, List.set_cons_zero, List.set_cons_succ])
          (refine wpAnyH_ready (rs := [3]) (by kernel_rfl) (by simp) ?_; refine AllReadyH.cons rfl (fun K hK => ?_) AllReadyH.nil; go_simp; (refine (NA.out _).mono ?_; rintro e wn ⟨rfl, hb⟩); (refine hK.out _ _ ?_ (fun hHeld => ?_); (first | exact ⟨hHeld.1.on hb, hHeld.2.1.on hb, hHeld.2.2.trans (hb.mono hHeld.2.2.size)⟩ | exact ⟨U.out.drew, N.out.drew, Bt.out.drew⟩)); clear hK K; try simp only [Act.put, List.setIfInBounds_toArray, List.set_cons_zero, List.set_cons_succ])
          first | (refine wpAnyH_take (i := 4) (v := undef) (by simp only [List.getElem?_toArray, List.getElem?_cons_succ, List.getElem?_cons_zero]; exact rfl) (by kernel_rfl) (by kernel_rfl) (by kernel_rfl) (fun _ _ _ h => h) (Or.inr ⟨?_, rfl⟩) (by assumption) ?_; (rfl); try simp only [Act.put, List.setIfInBounds_toArray, List.set_cons_zero, List.set_cons_succ]) | (refine wpAnyH_take (i := 4) (v := ?_) (by simp only [List.getElem?_toArray, List.getElem?_cons_succ, List.getElem?_cons_zero]; exact rfl) (by kernel_rfl) (by kernel_rfl) (by kernel_rfl) (fun _ _ _ h => h) (Or.inl ⟨?_, ?_⟩) (by assumption) ?_; rotate_left; (rfl); (focus (intro w hSw; (try dsimp only at hSw); go_simp; try with_reducible rfl)); try simp only [Act.put, List.setIfInBounds_toArray, List.set_cons_zero, List.set_cons_succ])
          first | (refine wpAnyH_take (i := 5) (v := undef) (by simp only [List.getElem?_toArray, List.getElem?_cons_succ, List.getElem?_cons_zero]; exact rfl) (by kernel_rfl) (by kernel_rfl) (by kernel_rfl) (fun _ _ _ h => h) (Or.inr ⟨?_, rfl⟩) (by assumption) ?_; (rfl); try simp only [Act.put, List.setIfInBounds_toArray, List.set_cons_zero, List.set_cons_succ]) | (refine wpAnyH_take (i := 5) (v := ?_) (by simp only [List.getElem?_toArray, List.getElem?_cons_succ, List.getElem?_cons_zero]; exact rfl) (by kernel_rfl) (by kernel_rfl) (by kernel_rfl) (fun _ _ _ h => h) (Or.inl ⟨?_, ?_⟩) (by assumption) ?_; rotate_left; (rfl); (focus (intro w hSw; (try dsimp only at hSw); go_simp; try with_reducible rfl)); try simp only [Act.put, List.setIfInBounds_toArray, List.set_cons_zero, List.set_cons_succ])
          refine wpAnyH_done (by kernel_rfl) ?_ _
          refine NoPanic.normal ?_
          clear U N Bt
          obtain ⟨hU, hN, hB⟩ := hHeld
          have U := hidB hU
          have N := hidB hN
          have Bt := hidB hB
          clear hU hN hB
          cases dd
          · cases nd
            · skip
              go_upto_region 11 with fail
              go_wp2_with (first | ((with_reducible refine ldId 32 (.tmp 2) ?_); refine wpList_load_row (by rfl) 32 (.tmp 2) (by rfl) w.heap.size (by rfl) 32 _ (0, 0) _ (by exact U.out) Try.underlying32 (by rfl) (by exact size_desc) ?_))
              refine (DA.out _).mono ?_; rintro e wm ⟨rfl, hb⟩
              replace U := hidB (U.out.on hb)
              replace N := hidB (N.out.on hb)
              replace Bt := hidB (Bt.out.trans (hb.mono Bt.out.size))
              clear hb
              obtain ⟨x0, x1, x2, x3, x4, x5, x6, x7, x8, x9, x10, x11, x12, x13, x14, x15, _⟩ := Bk.facts16 U.out
              obtain ⟨y0, y1, y2, y3, y4, y5, y6, y7, y8, y9, y10, y11, y12, y13, y14, y15, _⟩ := Bk.facts16 N.out
              clear x1 x2 x3 x4 x5 x6 x7 x8 x9 x10 x11 x12 x14 x15 y0 y1 y2 y3 y4 y5 y6 y7 y8 y9 y10 y11 y12 y14 y15
              cases h4
              · cases h8
                · go_wp2_with fail
                  all_goals
                    go_ret
                    exact ⟨ret_bool (by first | rfl | (simp [*]; done)), Bt.out⟩
                · go_wp2_with (first | ((with_reducible refine ldId 30 (.tmp 59) ?_); refine wpList_load_mid (by rfl) 30 (.tmp 59) (by rfl) (w.heap.size) 5 (by rfl) (d.g).cells _ (by exact Bk.mid U.out 5 _ rfl) Try.underlying30 (by rfl) (by kernel_rfl) ?_) | ((with_reducible refine ldId 30 (.tmp 59) ?_); refine wpList_wload_mid 30 (.tmp 59) (by rfl) (by rfl) (w.heap.size) 5 (by rfl) (d.g).cells _ (by exact Bk.mid U.out 5 _ rfl) Try.underlying30 (by rfl) (by kernel_rfl) ?_) | ((with_reducible refine ldId 30 (.tmp 61) ?_); refine wpList_load_mid (by rfl) 30 (.tmp 61) (by rfl) (w.heap.size + 1) 5 (by rfl) (n.g).cells _ (by exact Bk.mid N.out 5 _ rfl) Try.underlying30 (by rfl) (by kernel_rfl) ?_) | ((with_reducible refine ldId 30 (.tmp 61) ?_); refine wpList_wload_mid 30 (.tmp 61) (by rfl) (by rfl) (w.heap.size + 1) 5 (by rfl) (n.g).cells _ (by exact Bk.mid N.out 5 _ rfl) Try.underlying30 (by rfl) (by kernel_rfl) ?_) | ((with_reducible refine ldId 30 (.tmp 71) ?_); refine wpList_wload_mid 30 (.tmp 71) (by rfl) (by rfl) (w.heap.size) 9 (by rfl) (d.t).cells _ (by exact Bk.mid U.out 9 _ rfl) Try.underlying30 (by rfl) (by kernel_rfl) ?_) | ((with_reducible refine ldId 30 (.tmp 73) ?_); refine wpList_wload_mid 30 (.tmp 73) (by rfl) (by rfl) (w.heap.size + 1) 9 (by rfl) (n.t).cells _ (by exact Bk.mid N.out 9 _ rfl) Try.underlying30 (by rfl) (by kernel_rfl) ?_) | (go_at_call 16; refine (St.out _).mono ?_; rintro e wn ⟨rfl, hb⟩; replace U := hidB (U.out.on hb); replace N := hidB (N.out.on hb); replace Bt := hidB (Bt.out.trans (hb.mono Bt.out.size)); clear hb; obtain ⟨x0, _⟩ := Bk.facts16 U.out))
                  all_goals
                    go_ret
                    exact ⟨ret_bool (by first | rfl | (simp [*]; done)), Bt.out⟩
              · cases h8
                · go_wp2_with (first | ((with_reducible refine ldId 30 (.tmp 59) ?_); refine wpList_load_mid (by rfl) 30 (.tmp 59) (by rfl) (w.heap.size) 5 (by rfl) (d.g).cells _ (by exact Bk.mid U.out 5 _ rfl) Try.underlying30 (by rfl) (by kernel_rfl) ?_) | ((with_reducible refine ldId 30 (.tmp 59) ?_); refine wpList_wload_mid 30 (.tmp 59) (by rfl) (by rfl) (w.heap.size) 5 (by rfl) (d.g).cells _ (by exact Bk.mid U.out 5 _ rfl) Try.underlying30 (by rfl) (by kernel_rfl) ?_) | ((with_reducible refine ldId 30 (.tmp 61) ?_); refine wpList_load_mid (by rfl) 30 (.tmp 61) (by rfl) (w.heap.size + 1) 5 (by rfl) (n.g).cells _ (by exact Bk.mid N.out 5 _ rfl) Try.underlying30 (by rfl) (by kernel_rfl) ?_) | ((with_reducible refine ldId 30 (.tmp 61) ?_); refine wpList_wload_mid 30 (.tmp 61) (by rfl) (by rfl) (w.heap.size + 1) 5 (by rfl) (n.g).cells _ (by exact Bk.mid N.out 5 _ rfl) Try.underlying30 (by rfl) (by kernel_rfl) ?_) | ((with_reducible refine ldId 30 (.tmp 71) ?_); refine wpList_wload_mid 30 (.tmp 71) (by rfl) (by rfl) (w.heap.size) 9 (by rfl) (d.t).cells _ (by exact Bk.mid U.out 9 _ rfl) Try.underlying30 (by rfl) (by kernel_rfl) ?_) | ((with_reducible refine ldId 30 (.tmp 73) ?_); refine wpList_wload_mid 30 (.tmp 73) (by rfl) (by rfl) (w.heap.size + 1) 9 (by rfl) (n.t).cells _ (by exact Bk.mid N.out 9 _ rfl) Try.underlying30 (by rfl) (by kernel_rfl) ?_) | (go_at_call 16; refine (Sg.out _).mono ?_; rintro e wn ⟨rfl, hb⟩; replace U := hidB (U.out.on hb); replace N := hidB (N.out.on hb); replace Bt := hidB (Bt.out.trans (hb.mono Bt.out.size)); clear hb; obtain ⟨x0, _⟩ := Bk.facts16 U.out))
                  all_goals
                    go_ret
                    exact ⟨ret_bool (by first | rfl | (simp [*]; done)), Bt.out⟩
                · cases sg
                  · go_wp2_with (first | ((with_reducible refine ldId 30 (.tmp 59) ?_); refine wpList_load_mid (by rfl) 30 (.tmp 59) (by rfl) (w.heap.size) 5 (by rfl) (d.g).cells _ (by exact Bk.mid U.out 5 _ rfl) Try.underlying30 (by rfl) (by kernel_rfl) ?_) | ((with_reducible refine ldId 30 (.tmp 59) ?_); refine wpList_wload_mid 30 (.tmp 59) (by rfl) (by rfl) (w.heap.size) 5 (by rfl) (d.g).cells _ (by exact Bk.mid U.out 5 _ rfl) Try.underlying30 (by rfl) (by kernel_rfl) ?_) | ((with_reducible refine ldId 30 (.tmp 61) ?_); refine wpList_load_mid (by rfl) 30 (.tmp 61) (by rfl) (w.heap.size + 1) 5 (by rfl) (n.g).cells _ (by exact Bk.mid N.out 5 _ rfl) Try.underlying30 (by rfl) (by kernel_rfl) ?_) | ((with_reducible refine ldId 30 (.tmp 61) ?_); refine wpList_wload_mid 30 (.tmp 61) (by rfl) (by rfl) (w.heap.size + 1) 5 (by rfl) (n.g).cells _ (by exact Bk.mid N.out 5 _ rfl) Try.underlying30 (by rfl) (by kernel_rfl) ?_) | ((with_reducible refine ldId 30 (.tmp 71) ?_); refine wpList_wload_mid 30 (.tmp 71) (by rfl) (by rfl) (w.heap.size) 9 (by rfl) (d.t).cells _ (by exact Bk.mid U.out 9 _ rfl) Try.underlying30 (by rfl) (by kernel_rfl) ?_) | ((with_reducible refine ldId 30 (.tmp 73) ?_); refine wpList_wload_mid 30 (.tmp 73) (by rfl) (by rfl) (w.heap.size + 1) 9 (by rfl) (n.t).cells _ (by exact Bk.mid N.out 9 _ rfl) Try.underlying30 (by rfl) (by kernel_rfl) ?_) | (go_at_call 16; refine (Sg.out _).mono ?_; rintro e wn ⟨rfl, hb⟩; replace U := hidB (U.out.on hb); replace N := hidB (N.out.on hb); replace Bt := hidB (Bt.out.trans (hb.mono Bt.out.size)); clear hb; obtain ⟨x0, _⟩ := Bk.facts16 U.out))
                    all_goals
                      go_ret
                      exact ⟨ret_bool (by first | rfl | (simp [*]; done)), Bt.out⟩
                  · skip
                    have tok : Hid True := hidB trivial
                    go_wp2_with (first | ((with_reducible refine ldId 30 (.tmp 59) ?_); refine wpList_load_mid (by rfl) 30 (.tmp 59) (by rfl) (w.heap.size) 5 (by rfl) (d.g).cells _ (by exact Bk.mid U.out 5 _ rfl) Try.underlying30 (by rfl) (by kernel_rfl) ?_) | ((with_reducible refine ldId 30 (.tmp 59) ?_); refine wpList_wload_mid 30 (.tmp 59) (by rfl) (by rfl) (w.heap.size) 5 (by rfl) (d.g).cells _ (by exact Bk.mid U.out 5 _ rfl) Try.underlying30 (by rfl) (by kernel_rfl) ?_) | ((with_reducible refine ldId 30 (.tmp 61) ?_); refine wpList_load_mid (by rfl) 30 (.tmp 61) (by rfl) (w.heap.size + 1) 5 (by rfl) (n.g).cells _ (by exact Bk.mid N.out 5 _ rfl) Try.underlying30 (by rfl) (by kernel_rfl) ?_) | ((with_reducible refine ldId 30 (.tmp 61) ?_); refine wpList_wload_mid 30 (.tmp 61) (by rfl) (by rfl) (w.heap.size + 1) 5 (by rfl) (n.g).cells _ (by exact Bk.mid N.out 5 _ rfl) Try.underlying30 (by rfl) (by kernel_rfl) ?_) | ((with_reducible refine ldId 30 (.tmp 71) ?_); refine wpList_wload_mid 30 (.tmp 71) (by rfl) (by rfl) (w.heap.size) 9 (by rfl) (d.t).cells _ (by exact Bk.mid U.out 9 _ rfl) Try.underlying30 (by rfl) (by kernel_rfl) ?_) | ((with_reducible refine ldId 30 (.tmp 73) ?_); refine wpList_wload_mid 30 (.tmp 73) (by rfl) (by rfl) (w.heap.size + 1) 9 (by rfl) (n.t).cells _ (by exact Bk.mid N.out 9 _ rfl) Try.underlying30 (by rfl) (by kernel_rfl) ?_) | (have _t := tok; clear tok; go_at_call 16; refine (Sg.out _).mono ?_; rintro e wn ⟨rfl, hb⟩; replace U := hidB (U.out.on hb); replace N := hidB (N.out.on hb); replace Bt := hidB (Bt.out.trans (hb.mono Bt.out.size)); clear hb; obtain ⟨x0, _⟩ := Bk.facts16 U.out) | (go_at_call 16; refine (St.out _).mono ?_; rintro e wn ⟨rfl, hb⟩; replace U := hidB (U.out.on hb); replace N := hidB (N.out.on hb); replace Bt := hidB (Bt.out.trans (hb.mono Bt.out.size)); clear hb; obtain ⟨x0, _⟩ := Bk.facts16 U.out))
                    all_goals
                      go_ret
                      exact ⟨ret_bool (by first | rfl | (simp [*]; done)), Bt.out⟩
            · go_wp2_with fail
              go_ret
              exact ⟨rfl, Bt.out⟩
          · cases nd
            · go_wp2_with fail
              go_ret
              exact ⟨rfl, Bt.out⟩
            · skip
              go_upto_region 11 with fail
              go_wp2_with (first | ((with_reducible refine ldId 32 (.tmp 2) ?_); refine wpList_load_row (by rfl) 32 (.tmp 2) (by rfl) w.heap.size (by rfl) 32 _ (0, 0) _ (by exact U.out) Try.underlying32 (by rfl) (by exact size_desc) ?_))
              refine (DA.out _).mono ?_; rintro e wm ⟨rfl, hb⟩
              replace U := hidB (U.out.on hb)
              replace N := hidB (N.out.on hb)
              replace Bt := hidB (Bt.out.trans (hb.mono Bt.out.size))
              clear hb
              obtain ⟨x0, x1, x2, x3, x4, x5, x6, x7, x8, x9, x10, x11, x12, x13, x14, x15, _⟩ := Bk.facts16 U.out
              obtain ⟨y0, y1, y2, y3, y4, y5, y6, y7, y8, y9, y10, y11, y12, y13, y14, y15, _⟩ := Bk.facts16 N.out
              clear x1 x2 x3 x4 x5 x6 x7 x8 x9 x10 x11 x12 x14 x15 y0 y1 y2 y3 y4 y5 y6 y7 y8 y9 y10 y11 y12 y14 y15
              rw [HZ3.out] at x13
              rw [HZ4.out] at y13
              clear HZ3 HZ4
              cases nw
              · cases dw
                · cases h1
                  · go_wp2_with fail
                    all_goals
                      go_ret
                      exact ⟨ret_bool (by first | rfl | (simp [*]; done)), Bt.out⟩
                  · go_wp2_with (first | ((with_reducible refine ldId 30 (.tmp 46) ?_); refine wpList_wload_mid 30 (.tmp 46) (by rfl) (by rfl) (w.heap.size) 1 (by rfl) (d.v).cells _ (by exact Bk.mid U.out 1 _ rfl) Try.underlying30 (by rfl) (by kernel_rfl) ?_) | ((with_reducible refine ldId 30 (.tmp 48) ?_); refine wpList_wload_mid 30 (.tmp 48) (by rfl) (by rfl) (w.heap.size + 1) 1 (by rfl) (n.v).cells _ (by exact Bk.mid N.out 1 _ rfl) Try.underlying30 (by rfl) (by kernel_rfl) ?_) | (go_at_call 16; refine (Sv.out _).mono ?_; rintro e wn ⟨rfl, hb⟩; replace U := hidB (U.out.on hb); replace N := hidB (N.out.on hb); replace Bt := hidB (Bt.out.trans (hb.mono Bt.out.size)); clear hb; obtain ⟨x0, _⟩ := Bk.facts16 U.out))
                    all_goals
                      go_ret
                      exact ⟨ret_bool (by first | rfl | (simp [*]; done)), Bt.out⟩
                · go_wp2_with fail
                  all_goals
                    go_ret
                    exact ⟨ret_bool (by first | rfl | (simp [*]; done)), Bt.out⟩
              · go_wp2_with fail
                all_goals
                  go_ret
                  exact ⟨ret_bool (by first | rfl | (simp [*]; done)), Bt.out⟩
        · go_wp2_with fail
          go_ret
          exact ⟨rfl, Bt.out⟩
      · go_wp2_with fail
        go_ret
        exact ⟨rfl, Bt.out⟩
    · skip
      go_enter Try.func52, Try.ntmps52
      go_upto_region 1 with fail
      generalize ((w.alloc (.cells d.cs 32)).alloc (.cells n.cs 32)) = w1 at *
      go_wp2_with fail
      go_ret
      exact ⟨rfl, Bt.out⟩
  · skip
    go_enter Try.func52, Try.ntmps52
    go_upto_region 1 with fail
    generalize ((w.alloc (.cells d.cs 32)).alloc (.cells n.cs 32)) = w1 at *
    go_wp2_with fail
    go_ret
    exact ⟨rfl, Bt.out⟩

end Go.Proofs.Ytlpldhcoplbopaa
