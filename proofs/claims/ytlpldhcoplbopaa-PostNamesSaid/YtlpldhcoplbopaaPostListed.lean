/-
  May keys be told? The walk of post.listed.
-/
import Derived.Test.YtlpldhcoplbopaaPostKnown
namespace Go.Proofs.Ytlpldhcoplbopaa
open Go.RowKit

/-- Must a key be told, and is it? -/
def ToldK (l : List KI) (ext : Bool) (p : KI × DI) : Bool := !((p.2.has != 0 && !p.2.cf) || !ext) || l.any (KI.eq p.1)
def listedB (l : List KI) (x : FI) (ks : List KI) (ds : List DI) : Bool := decide (Apart l) && ((ks.zip ds).all (ToldK l x.ext) && (x.ext || (l.length == ks.length)))

set_option maxHeartbeats 8000000 in
set_option maxRecDepth 100000 in
theorem listed_any (l : List KI) (lv : Value) (x : FI) (ks : List KI) (ds : List DI) (hl : ds.length = ks.length) (w : World) (hk0 : RdK l lv w) (hk : RdK ks x.keys w) (hd : RdD ds x.own w) : Calls Try.prog 39 #[lv, x.a] w fun e w' => e = .returned (.bool (listedB l x ks ds)) ∧ Below w.heap.size w w' := by
  have N := hidB (show Bk (w.alloc (.cells x.cs 48)) (w.heap.size) 48 x.cs from Bk.new w _ _)
  have Bt := hidB (show Below w.heap.size w (w.alloc (.cells x.cs 48)) from box_one w _)
  obtain ⟨pa, c, ek, hc1, hc2, hc3⟩ := hk
  obtain ⟨pb, c', ed, hd1, hd2, hd3⟩ := hd
  have HK := hidB ek
  have HD := hidB ed
  have RK := hidB hc3
  have RD := hidB hd3
  clear hc3 hd3 ek ed
  have RL := hidB hk0
  obtain ⟨pl, c0, rfl, he1, he2, he3⟩ := hk0
  have R0 := hidB he3
  have TL := hidB (fun (W : World) (h : Below w.heap.size w W) (k : Nat) (hk : k ≤ l.length) => (RdK.take he1 he2 he3 hk).on h)
  have HH := hidB (fun (W : World) (h : Below w.heap.size w W) (y : KI) => holds_any l (.slice pl l.length c0) y W (RL.out.on h))
  clear he3 RL
  unfold maxLen at hc2 hd2 he2
  have hm1 : ks.length ≤ 9223372036854775807 := by omega
  have hm2 : ds.length ≤ 9223372036854775807 := by omega
  have hm3 : l.length ≤ 9223372036854775807 := by omega
  have E1 : Hid (¬ Apart l → listedB l x ks ds = false) := hidB (fun h => by unfold listedB; rw [decide_eq_false h]; rfl)
  have E2 : Hid (Apart l → (ks.zip ds).all (ToldK l x.ext) = false → listedB l x ks ds = false) := hidB (fun h h2 => by unfold listedB; rw [h2]; simp)
  have E3 : Hid (Apart l → (ks.zip ds).all (ToldK l x.ext) = true → listedB l x ks ds = (x.ext || (l.length == ks.length))) := hidB (fun h h2 => by unfold listedB; rw [decide_eq_true h, h2]; simp)
  generalize g6 : x.ext = xe at *
  have HE := hidB g6
  clear g6
  go_enter Try.func39, Try.ntmps39
  go_upto_region 1 with fail
  generalize (w.alloc (.cells x.cs 48)) = w1 at *
  have z0 : w1.cell? ⟨w.heap.size, 0, none⟩ = some (.bool xe) := by rw [← HE.out]; exact N.out.cell 0
  have z22 : w1.cell? ⟨w.heap.size, 22, none⟩ = some (.slice pa ks.length c) := by rw [← HK.out]; exact N.out.cell 22
  have z23 : w1.cell? ⟨w.heap.size, 23, none⟩ = some (.slice pb ds.length c') := by rw [← HD.out]; exact N.out.cell 23
  go_wp2_with fail
  go_loopw [12] (fun i wr => ∃ k : Nat, k ≤ l.length ∧ i = .int .i64 k ∧ (∀ j (h : j < l.length), j < k → (l.take j).any (KI.eq l[j]) = false) ∧ Bk wr (w.heap.size) 48 x.cs ∧ Below w.heap.size w wr) (fun i _ => l.length - (intOf i).toNat)
  case atStart => exact ⟨0, by omega, rfl, fun j _ h => by omega, N.out, Bt.out⟩
  case round =>
    obtain ⟨k, hk, rfl, ha, hn, hb⟩ := hrel
    have Ha := hidB ha
    have Hb := hidB hb
    have Nr := hidB hn
    clear ha hb hn N Bt z22 z23 z0
    by_cases hlt : k < l.length
    · have hx1 : (k : Int) < (l.length : Int) := by omega
      have hx2 : (0 : Int) ≤ (k : Int) := by omega
      have hx3 : (k : Int) ≤ (c0 : Int) := by omega
      obtain ⟨g, o, rfl, hg, hcell⟩ := R0.out (by omega)
      obtain ⟨x0, x1⟩ := KI.two (rangeOn Hb.out hg (hcell k hlt))
      have HA := hidB (fun (W : World) (h : Below w.heap.size w W) => holds_any (l.take k) _ l[k] W (TL.out W h k hk))
      have HS : Hid ((l.take k).any (KI.eq l[k]) = false → ∀ j (h : j < l.length), j < k + 1 → (l.take j).any (KI.eq l[j]) = false) := hidB (fun h j hj hj2 => if e : j = k then (by subst e; exact h) else Ha.out j hj (by omega))
      have HT : Hid ((l.take k).any (KI.eq l[k]) = true → listedB l x ks ds = false) := hidB (fun h => E1.out (fun ap => by have := ap k hlt; rw [h] at this; cases this))
      clear hcell hg
      generalize hany : (l.take k).any (KI.eq l[k]) = q at *
      clear hany
      generalize l[k]'hlt = kk at *
      obtain ⟨s, n⟩ := kk
      simp only at x0 x1
      have Bk3 := hidB (show Bk (wr.alloc (.cells #[.string s, .int .i64 n] 27)) wr.heap.size 27 #[.string s, .int .i64 n] from Bk.new wr _ _)
      have N3 := hidB (show Bk (wr.alloc (.cells #[.string s, .int .i64 n] 27)) (w.heap.size) 48 x.cs from Nr.out.alloc _)
      have B3 := hidB (show Below w.heap.size w (wr.alloc (.cells #[.string s, .int .i64 n] 27)) from Hb.out.alloc Hb.out.size _)
      go_upto_region 4 with fail
      generalize (wr.alloc (.cells #[.string s, .int .i64 n] 27)) = w3 at *
      generalize wr.heap.size = g3 at *
      refine wp_region_noPanic ?_
      refine wp_region_held_drew (S := (fun W => Bk W (w.heap.size) 48 x.cs ∧ Bk W g3 27 #[.string s, .int .i64 n] ∧ Below w.heap.size w W ∧ W.cell? ⟨g3, 0, none⟩ = some (.string s) ∧ W.cell? ⟨g3, 1, none⟩ = some (.int .i64 n))) (by kernel_rfl) ?_ (fun hHeld => ?_)
      · first | exact ⟨hHeld.1.on hb, hHeld.2.1.on hb, hHeld.2.2.1.trans (hb.mono hHeld.2.2.1.size), (hHeld.2.1.on hb).cell 0, (hHeld.2.1.on hb).cell 1⟩ | exact ⟨N3.out.drew, Bk3.out.drew, B3.out.drew, Bk3.out.drew.cell 0, Bk3.out.drew.cell 1⟩
      first | (refine wpAnyH_take (i := 0) (v := undef) (by simp only [List.getElem?_toArray, List.getElem?_cons_zero]; exact rfl) (by kernel_rfl) (by kernel_rfl) (by kernel_rfl) (fun _ _ _ h => h) (Or.inr ⟨?_, rfl⟩) (by assumption) ?_; (rfl); try simp only [Act.put, List.setIfInBounds_toArray, List.set_cons_zero, List.set_cons_succ]) | (refine wpAnyH_take (i := 0) (v := ?_) (by simp only [List.getElem?_toArray, List.getElem?_cons_zero]; exact rfl) (by kernel_rfl) (by kernel_rfl) (by kernel_rfl) (fun _ _ _ h => h) (Or.inl ⟨?_, ?_⟩) (by assumption) ?_; rotate_left; (rfl); (focus (intro w hSw; (try dsimp only at hSw); go_simp; try with_reducible rfl)); try simp only [Act.put, List.setIfInBounds_toArray, List.set_cons_zero, List.set_cons_succ])
      first | (refine wpAnyH_take (i := 1) (v := undef) (by simp only [List.getElem?_toArray, List.getElem?_cons_succ, List.getElem?_cons_zero]; exact rfl) (by kernel_rfl) (by kernel_rfl) (by kernel_rfl) (fun _ _ _ h => h) (Or.inr ⟨?_, rfl⟩) (by assumption) ?_; (rfl); try simp only [Act.put, List.setIfInBounds_toArray, List.set_cons_zero, List.set_cons_succ]) | (refine wpAnyH_take (i := 1) (v := ?_) (by simp only [List.getElem?_toArray, List.getElem?_cons_succ, List.getElem?_cons_zero]; exact rfl) (by kernel_rfl) (by kernel_rfl) (by kernel_rfl) (fun _ _ _ h => h) (Or.inl ⟨?_, ?_⟩) (by assumption) ?_; rotate_left; (rfl); (focus (intro w hSw; (try dsimp only at hSw); go_simp; try with_reducible rfl)); try simp only [Act.put, List.setIfInBounds_toArray, List.set_cons_zero, List.set_cons_succ])
      first | (refine wpAnyH_take (i := 2) (v := undef) (by simp only [List.getElem?_toArray, List.getElem?_cons_succ, List.getElem?_cons_zero]; exact rfl) (by kernel_rfl) (by kernel_rfl) (by kernel_rfl) (fun _ _ _ h => h) (Or.inr ⟨?_, rfl⟩) (by assumption) ?_; (rfl); try simp only [Act.put, List.setIfInBounds_toArray, List.set_cons_zero, List.set_cons_succ]) | (refine wpAnyH_take (i := 2) (v := ?_) (by simp only [List.getElem?_toArray, List.getElem?_cons_succ, List.getElem?_cons_zero]; exact rfl) (by kernel_rfl) (by kernel_rfl) (by kernel_rfl) (fun _ _ _ h => h) (Or.inl ⟨?_, ?_⟩) (by assumption) ?_; rotate_left; (rfl); (focus (intro w hSw; (try dsimp only at hSw); go_simp; try with_reducible rfl)); try simp only [Act.put, List.setIfInBounds_toArray, List.set_cons_zero, List.set_cons_succ])
      first | (refine wpAnyH_take (i := 3) (v := undef) (by simp only [List.getElem?_toArray, List.getElem?_cons_succ, List.getElem?_cons_zero]; exact rfl) (by kernel_rfl) (by kernel_rfl) (by kernel_rfl) (fun _ _ _ h => h) (Or.inr ⟨?_, rfl⟩) (by assumption) ?_; (rfl); try simp only [Act.put, List.setIfInBounds_toArray, List.set_cons_zero, List.set_cons_succ]) | (refine wpAnyH_take (i := 3) (v := ?_) (by simp only [List.getElem?_toArray, List.getElem?_cons_succ, List.getElem?_cons_zero]; exact rfl) (by kernel_rfl) (by kernel_rfl) (by kernel_rfl) (fun _ _ _ h => h) (Or.inl ⟨?_, ?_⟩) (by assumption) ?_; rotate_left; (rfl); (focus (intro w hSw; (try dsimp only at hSw); go_simp; try with_reducible rfl)); try simp only [Act.put, List.setIfInBounds_toArray, List.set_cons_zero, List.set_cons_succ])
      first | (refine wpAnyH_take (i := 4) (v := undef) (by simp only [List.getElem?_toArray, List.getElem?_cons_succ, List.getElem?_cons_zero]; exact rfl) (by kernel_rfl) (by kernel_rfl) (by kernel_rfl) (fun _ _ _ h => h) (Or.inr ⟨?_, rfl⟩) (by assumption) ?_; (rfl); try simp only [Act.put, List.setIfInBounds_toArray, List.set_cons_zero, List.set_cons_succ]) | (refine wpAnyH_ready (rs := [4]) (by kernel_rfl) (by simp) ?_; refine AllReadyH.cons rfl (fun K hK => ?_) AllReadyH.nil; go_simp; (refine (HA.out _ hHeld.2.2.1).mono ?_; rintro e wn ⟨rfl, hb⟩); (refine hK.out _ _ ?_ (fun hHeld => ?_); (first | exact ⟨hHeld.1.on hb, hHeld.2.1.on hb, hHeld.2.2.1.trans (hb.mono hHeld.2.2.1.size), (hHeld.2.1.on hb).cell 0, (hHeld.2.1.on hb).cell 1⟩ | exact ⟨N3.out.drew, Bk3.out.drew, B3.out.drew, Bk3.out.drew.cell 0, Bk3.out.drew.cell 1⟩)); clear hK K; try simp only [Act.put, List.setIfInBounds_toArray, List.set_cons_zero, List.set_cons_succ])
      refine wpAnyH_done (by kernel_rfl) ?_ _
      refine NoPanic.normal ?_
      have N4 := hidB hHeld.1
      have B4 := hidB hHeld.2.2.1
      cases q
      · have HS2 := hidB (HS.out rfl)
        go_wp2_with fail
        go_roundw
        case rel => exact ⟨k + 1, by omega, by go_num, HS2.out, N4.out, B4.out⟩
        case measure => simp [intOf]; omega
      · have HT2 := hidB (HT.out rfl)
        go_wp2_with fail
        go_ret
        exact ⟨by rw [HT2.out]; rfl, B4.out⟩
    · obtain rfl : k = l.length := by omega
      have hx4 : ¬ ((l.length : Int) < (l.length : Int)) := by omega
      have AP : Hid (Apart l) := hidB (fun j h => Ha.out j h h)
      have E2 := hidB (E2.out AP.out)
      have E3 := hidB (E3.out AP.out)
      clear E1 Ha TL R0
      have z0 : wr.cell? ⟨w.heap.size, 0, none⟩ = some (.bool xe) := by rw [← HE.out]; exact Nr.out.cell 0
      have z22 : wr.cell? ⟨w.heap.size, 22, none⟩ = some (.slice pa ks.length c) := by rw [← HK.out]; exact Nr.out.cell 22
      have z23 : wr.cell? ⟨w.heap.size, 23, none⟩ = some (.slice pb ds.length c') := by rw [← HD.out]; exact Nr.out.cell 23
      go_wp2_with fail
      clear hx4 z0 z22 z23
      go_loopw [26] (fun i wr => ∃ k : Nat, k ≤ ks.length ∧ i = .int .i64 k ∧ ((ks.zip ds).take k).all (ToldK l xe) = true ∧ Bk wr (w.heap.size) 48 x.cs ∧ Below w.heap.size w wr) (fun i _ => ks.length - (intOf i).toNat)
      case atStart => exact ⟨0, by omega, rfl, rfl, Nr.out, Hb.out⟩
      case round =>
        clear Nr Hb
        obtain ⟨k, hk, rfl, ha, hn, hb⟩ := hrel
        have Ha := hidB ha
        have Hb := hidB hb
        have Nr := hidB hn
        clear ha hb hn
        by_cases hlt : k < ks.length
        · have hx1 : (k : Int) < (ks.length : Int) := by omega
          have hx2 : (0 : Int) ≤ (k : Int) := by omega
          have hltd : k < ds.length := by omega
          have hx3 : (k : Int) < (ds.length : Int) := by omega
          obtain ⟨g, o, rfl, hg, hcell⟩ := RK.out (by omega)
          obtain ⟨x0, x1⟩ := KI.two (rangeOn Hb.out hg (hcell k hlt))
          obtain ⟨g', o', rfl, hg', hcell'⟩ := RD.out (by omega)
          have RC := hidB (hcell' k hltd)
          have hg2 := hg'
          have HA := hidB (fun (W : World) (h : Below w.heap.size w W) => HH.out W h ks[k])
          have hz : k < (ks.zip ds).length := by rw [List.length_zip]; omega
          have hzk : (ks.zip ds)[k] = (ks[k], ds[k]) := List.getElem_zip
          have HS : Hid (ToldK l xe (ks[k], ds[k]) = true → ((ks.zip ds).take (k + 1)).all (ToldK l xe) = true) := hidB (fun h => by rw [List.take_succ_eq_append_getElem hz, List.all_append, Ha.out, List.all_cons, hzk, h]; rfl)
          have HT : Hid (ToldK l xe (ks[k], ds[k]) = false → listedB l x ks ds = false) := hidB (fun h => E2.out (by rw [List.all_eq_false]; exact ⟨_, List.getElem_mem hz, by rw [hzk, h]; decide⟩))
          unfold ToldK at HS HT
          simp only at HS HT
          clear hcell hg hcell' hzk hz HH RK RD E2 E3 Ha
          generalize l.any (KI.eq ks[k]) = q at *
          generalize ks[k]'hlt = kk at *
          generalize ds[k]'hltd = dd at *
          obtain ⟨s, n⟩ := kk
          simp only at x0 x1
          generalize hf1 : (dd.has != 0) = h0 at *
          generalize dd.cf = dcf at *
          have Bk3 := hidB (show Bk (wr.alloc (.cells #[.string s, .int .i64 n] 27)) wr.heap.size 27 #[.string s, .int .i64 n] from Bk.new wr _ _)
          have N3 := hidB (show Bk (wr.alloc (.cells #[.string s, .int .i64 n] 27)) (w.heap.size) 48 x.cs from Nr.out.alloc _)
          have B3 := hidB (show Below w.heap.size w (wr.alloc (.cells #[.string s, .int .i64 n] 27)) from Hb.out.alloc Hb.out.size _)
          have z22 : wr.cell? ⟨w.heap.size, 22, none⟩ = some (.slice (some ⟨g, o, none⟩) ks.length c) := by rw [← HK.out]; exact Nr.out.cell 22
          go_upto_region 10 with fail
          generalize (wr.alloc (.cells #[.string s, .int .i64 n] 27)) = w3 at *
          generalize wr.heap.size = g3 at *
          clear x0 x1 z22
          have z0 : w3.cell? ⟨w.heap.size, 0, none⟩ = some (.bool xe) := by rw [← HE.out]; exact N3.out.cell 0
          have z23 : w3.cell? ⟨w.heap.size, 23, none⟩ = some (.slice (some ⟨g', o', none⟩) ds.length c') := by rw [← HD.out]; exact N3.out.cell 23
          have RC3 := rangeOn B3.out hg2 RC.out
          have y0 : w3.cell? ⟨g', o' + k * 16, none⟩ = some (.int .u8 dd.has) := RC3 0 _ rfl
          have y15 : w3.cell? ⟨g', o' + k * 16 + 15, none⟩ = some (.bool dcf) := RC3 15 _ rfl
          have k0 : w3.cell? ⟨g3, 0, none⟩ = some (.string s) := Bk3.out.cell 0
          have k1 : w3.cell? ⟨g3, 1, none⟩ = some (.int .i64 n) := Bk3.out.cell 1
          clear RC3
          cases xe
          · cases h0
            · cases q
              · skip
                go_wp2_with fail
                refine (HA.out _ B3.out).mono ?_; rintro e w4 ⟨rfl, hb⟩
                have N4 := hidB (N3.out.on hb)
                have B4 := hidB (B3.out.trans (hb.mono B3.out.size))
                clear hb
                have HT2 := hidB (HT.out rfl)
                go_wp2_with fail
                go_ret
                exact ⟨by rw [HT2.out]; rfl, B4.out⟩
              · skip
                go_wp2_with fail
                refine (HA.out _ B3.out).mono ?_; rintro e w4 ⟨rfl, hb⟩
                have N4 := hidB (N3.out.on hb)
                have B4 := hidB (B3.out.trans (hb.mono B3.out.size))
                clear hb
                have HS2 := hidB (HS.out rfl)
                go_wp2_with fail
                go_roundw
                case rel => exact ⟨k + 1, by omega, by go_num, HS2.out, N4.out, B4.out⟩
                case measure => simp [intOf]; omega
            · cases dcf
              · cases q
                · skip
                  go_wp2_with fail
                  refine (HA.out _ B3.out).mono ?_; rintro e w4 ⟨rfl, hb⟩
                  have N4 := hidB (N3.out.on hb)
                  have B4 := hidB (B3.out.trans (hb.mono B3.out.size))
                  clear hb
                  have HT2 := hidB (HT.out rfl)
                  go_wp2_with fail
                  go_ret
                  exact ⟨by rw [HT2.out]; rfl, B4.out⟩
                · skip
                  go_wp2_with fail
                  refine (HA.out _ B3.out).mono ?_; rintro e w4 ⟨rfl, hb⟩
                  have N4 := hidB (N3.out.on hb)
                  have B4 := hidB (B3.out.trans (hb.mono B3.out.size))
                  clear hb
                  have HS2 := hidB (HS.out rfl)
                  go_wp2_with fail
                  go_roundw
                  case rel => exact ⟨k + 1, by omega, by go_num, HS2.out, N4.out, B4.out⟩
                  case measure => simp [intOf]; omega
              · cases q
                · skip
                  go_wp2_with fail
                  refine (HA.out _ B3.out).mono ?_; rintro e w4 ⟨rfl, hb⟩
                  have N4 := hidB (N3.out.on hb)
                  have B4 := hidB (B3.out.trans (hb.mono B3.out.size))
                  clear hb
                  have HT2 := hidB (HT.out rfl)
                  go_wp2_with fail
                  go_ret
                  exact ⟨by rw [HT2.out]; rfl, B4.out⟩
                · skip
                  go_wp2_with fail
                  refine (HA.out _ B3.out).mono ?_; rintro e w4 ⟨rfl, hb⟩
                  have N4 := hidB (N3.out.on hb)
                  have B4 := hidB (B3.out.trans (hb.mono B3.out.size))
                  clear hb
                  have HS2 := hidB (HS.out rfl)
                  go_wp2_with fail
                  go_roundw
                  case rel => exact ⟨k + 1, by omega, by go_num, HS2.out, N4.out, B4.out⟩
                  case measure => simp [intOf]; omega
          · cases h0
            · skip
              have HS2 := hidB (HS.out rfl)
              go_wp2_with fail
              go_roundw
              case rel => exact ⟨k + 1, by omega, by go_num, HS2.out, N3.out, B3.out⟩
              case measure => simp [intOf]; omega
            · cases dcf
              · cases q
                · skip
                  go_wp2_with fail
                  refine (HA.out _ B3.out).mono ?_; rintro e w4 ⟨rfl, hb⟩
                  have N4 := hidB (N3.out.on hb)
                  have B4 := hidB (B3.out.trans (hb.mono B3.out.size))
                  clear hb
                  have HT2 := hidB (HT.out rfl)
                  go_wp2_with fail
                  go_ret
                  exact ⟨by rw [HT2.out]; rfl, B4.out⟩
                · skip
                  go_wp2_with fail
                  refine (HA.out _ B3.out).mono ?_; rintro e w4 ⟨rfl, hb⟩
                  have N4 := hidB (N3.out.on hb)
                  have B4 := hidB (B3.out.trans (hb.mono B3.out.size))
                  clear hb
                  have HS2 := hidB (HS.out rfl)
                  go_wp2_with fail
                  go_roundw
                  case rel => exact ⟨k + 1, by omega, by go_num, HS2.out, N4.out, B4.out⟩
                  case measure => simp [intOf]; omega
              · skip
                have HS2 := hidB (HS.out rfl)
                go_wp2_with fail
                go_roundw
                case rel => exact ⟨k + 1, by omega, by go_num, HS2.out, N3.out, B3.out⟩
                case measure => simp [intOf]; omega
        · obtain rfl : k = ks.length := by omega
          have hx4 : ¬ ((ks.length : Int) < (ks.length : Int)) := by omega
          have HR := hidB (E3.out (by have := Ha.out; rwa [show ks.length = (ks.zip ds).length by rw [List.length_zip]; omega, List.take_length] at this))
          clear E2 E3
          have z0 : wr.cell? ⟨w.heap.size, 0, none⟩ = some (.bool xe) := by rw [← HE.out]; exact Nr.out.cell 0
          have z22 : wr.cell? ⟨w.heap.size, 22, none⟩ = some (.slice pa ks.length c) := by rw [← HK.out]; exact Nr.out.cell 22
          have z23 : wr.cell? ⟨w.heap.size, 23, none⟩ = some (.slice pb ds.length c') := by rw [← HD.out]; exact Nr.out.cell 23
          cases xe
          · by_cases hll : l.length = ks.length
            · have h1 : (l.length == ks.length) = true := by simpa using hll
              have h2 : ((l.length : Int) == (ks.length : Int)) = true := by rw [beq_iff_eq]; omega
              rw [h1] at HR
              go_wp2_with fail
              go_ret
              exact ⟨by rw [HR.out]; rfl, Hb.out⟩
            · have h1 : (l.length == ks.length) = false := by simpa using hll
              have h2 : ((l.length : Int) == (ks.length : Int)) = false := by rw [beq_eq_false_iff_ne]; omega
              rw [h1] at HR
              go_wp2_with fail
              go_ret
              exact ⟨by rw [HR.out]; rfl, Hb.out⟩
          · go_wp2_with fail
            go_ret
            exact ⟨by rw [HR.out]; rfl, Hb.out⟩
          
end Go.Proofs.Ytlpldhcoplbopaa
