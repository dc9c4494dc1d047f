/-
  A task of reach: the innermost ask ends.
-/
import Derived.Test.YtbmaodlghglopaaGreatDoorMxA
import Derived.Test.YtbmaodlghglopaaGreatDoorTp7
namespace Go.Proofs.YtbmaodlghglopaaGreatDoor
open Go.RowKit

theorem info_seen : (Tryz.prog.info? 121).map (fun i => (i.zero, i.size, i.bytes)) = some (some (.agg #[.int .i64 0, .int .i64 0, .int .u8 0, .string ⟨#[]⟩, .int .i64 0, .bool false, .int .u8 0, .int .u8 0, .float .f64 0, .string ⟨#[]⟩, .int .i64 0, .bool false, .bool false, .int .u8 0, .int .u8 0, .float .f64 0, .string ⟨#[]⟩, .int .i64 0, .int .u8 0, .float .f64 0, .string ⟨#[]⟩, .int .i64 0, .int .u8 0, .float .f64 0, .string ⟨#[]⟩, .int .i64 0, .bool false, .bool false, .bool false, .slice none 0 0, .int .u8 0, .string ⟨#[]⟩]), 32, 296) := by kernel_rfl
theorem entryM_any (a : AI) (hm : a.m = 3 ∨ a.m = 8) (x : OI) (bg : Int) (h2 : x.kd ≠ 2) (w : World) : Calls Tryz.prog 61 #[a.a, x.a, .int .i64 bg] w fun e w' => ∃ k, e = .returned (.agg (seenC bg a k (toldI a.m x))) ∧ Below w.heap.size w w' := by
  rcases hm with hm | hm
  · exact (entry3_any a hm x bg h2 w).mono fun e w' h => ⟨_, by rw [hm]; exact h⟩
  · exact (entry8_any a hm x bg h2 w).mono fun e w' h => ⟨_, by rw [hm]; exact h⟩
theorem toldM_any (m : Int) (hm : m = 3 ∨ m = 8) (x : OI) (h2 : x.kd ≠ 2) (w : World) : Calls Tryz.prog 62 #[.int .u8 m, x.a] w fun e w' => e = .returned (toldI m x).a ∧ Below w.heap.size w w' := by
  rcases hm with hm | hm
  · exact (told3_any m hm x h2 w).mono fun e w' h => by rw [hm]; exact h
  · exact (told8_any m hm x h2 w).mono fun e w' h => by rw [hm]; exact h
/-- The last element of a row. -/
theorem own_last {w : World} {base n c sz g : Nat} {e : TypeId} {xs es : List Value} (h : w.ownsRow base e sz (.slice (some ⟨g, 0, none⟩) (n + 1) c) (n + 1) (xs ++ es)) (he : es.length = sz) : w.rangeAt g (n * sz) es ∧ n + 1 ≤ c := by
  have hl := h.1
  rw [List.length_append, he, Nat.add_mul, Nat.one_mul] at hl
  have hc := World.ownsRow.cells h (g := g) rfl
  refine ⟨fun j u hj => ?_, ?_⟩
  · have := hc (n * sz + j) u (by rw [List.getElem?_append_right (by omega)]; rw [show n * sz + j - xs.length = j by omega]; exact hj)
    rw [Addr.add_mid, Nat.zero_add] at this
    exact this
  · rcases h.2 with ⟨h1, _⟩ | ⟨g', cap, cur, h1, _, _, h2, _⟩
    · cases h1
    · injection h1 with _ _ h3; omega
theorem own_pop {w : World} {base n c sz g : Nat} {e : TypeId} {xs es : List Value} (h : w.ownsRow base e sz (.slice (some ⟨g, 0, none⟩) (n + 1) c) (n + 1) (xs ++ es)) (he : es.length = sz) : w.ownsRow base e sz (.slice (some ⟨g, 0, none⟩) n c) n xs := by
  have hl := h.1
  rw [List.length_append, he, Nat.add_mul, Nat.one_mul] at hl
  rcases h.2 with ⟨h1, _⟩ | ⟨g', cap, cur, h1, hb, hg, hc, hm, hs, ht⟩
  · cases h1
  · injection h1 with h1 h2 h3
    injection h1 with h1
    injection h1 with h1
    subst h1 h3
    refine ⟨by omega, .inr ⟨g, c, cur, rfl, hb, hg, by omega, hm, hs, ?_⟩⟩
    have h5 : (cur.toList.take ((n + 1) * sz)).take (n * sz) = (xs ++ es).take (n * sz) := by rw [ht]
    rw [List.take_take, Nat.min_eq_left (Nat.mul_le_mul_right sz (Nat.le_succ n)), show n * sz = xs.length by omega, List.take_left] at h5
    rw [show n * sz = xs.length by omega]
    exact h5
theorem own_addr {w : World} {base n c sz : Nat} {q : Option Addr} {e : TypeId} {xs : List Value} (h : w.ownsRow base e sz (.slice q (n + 1) c) (n + 1) xs) : ∃ g, q = some ⟨g, 0, none⟩ := by
  rcases h.2 with ⟨h1, _⟩ | ⟨g', cap, cur, h1, _⟩
  · cases h1
  · injection h1 with h1; exact ⟨g', h1⟩

/-- What ending leaves. -/
def REnd (B1 gw T gq cs n : Nat) (xs : List Value) (iv : Value) (a : AI) (lv bg0 mn bg : Int) (fa : AI) (flv wn : Int) (ov : Bool) (hd : Value) (qe : Option Addr) (ce sn : Nat) (o : OI) (w : World) (e : Ending) (w' : World) : Prop := ∃ (se' : Value) (ys' : List Value), e = .returned (toldI a.m o).a ∧ Bk w' T 68 (tkC gw (.slice (some ⟨gq, 0, none⟩) n cs) (mn + 1) bg fa flv wn ov hd se') ∧ w'.ownsRow B1 95 32 (.slice (some ⟨gq, 0, none⟩) n cs) n xs ∧ w'.ownsRow B1 121 32 se' (sn + 1) ys' ∧ Kept (fun k => k = T ∨ (Value.slice qe sn ce).ownBlock = some k) w w' ∧ (∀ k, se'.ownBlock = some k → (Value.slice qe sn ce).ownBlock = some k ∨ w.heap.size ≤ k)
set_option maxHeartbeats 8000000 in
set_option maxRecDepth 100000 in
theorem ended_any (B1 gw T gq cs n : Nat) (xs : List Value) (iv : Value) (a : AI) (lv bg0 mn bg : Int) (fa : AI) (flv wn : Int) (ov : Bool) (hd : Value) (qe : Option Addr) (ce sn : Nat) (o : OI) (w : World) (ys : List Value) (hiv : iv.oneCell' = true) (hao : a.args.oneCell' = true) (hm : a.m = 3 ∨ a.m = 8) (hk : o.kd = 1) (hok : o.keys.oneCell' = true) (hmn : 0 ≤ mn ∧ mn ≤ 8192) (hn : n ≤ 8192) (hsn : sn ≤ 8192) (hB1 : B1 ≤ T) (hT : Bk w T 68 (tkC gw (.slice (some ⟨gq, 0, none⟩) (n + 1) cs) mn bg fa flv wn ov hd (.slice qe sn ce))) (hS : w.ownsRow B1 95 32 (.slice (some ⟨gq, 0, none⟩) (n + 1) cs) (n + 1) (xs ++ (entC iv a lv bg0).toList)) (hE : w.ownsRow B1 121 32 (.slice qe sn ce) sn ys) : Calls Tryz.prog 40 #[ptr T, o.a] w (REnd B1 gw T gq cs n xs iv a lv bg0 mn bg fa flv wn ov hd qe ce sn o w) := by
  have HTL := hidB hT.lt
  have HGQ := hidB (hS.lt gq rfl)
  have HSL := hidB hE.lt
  have HTQ := hidB (own_neB hS hT (by decide) rfl : gq ≠ T)
  have HTS := hidB (show ∀ k, (Value.slice qe sn ce).ownBlock = some k → k ≠ T from fun k hk => own_neB hE hT (by decide) hk)
  have HSQ := hidB (own_neO hS hE (by decide) (k := gq) rfl : (Value.slice qe sn ce).ownBlock ≠ some gq)
  have HN := hidB hn
  have HSN := hidB hsn
  have HB1 := hidB hB1
  have HM := hidB hm
  have HK := hidB hk
  have HOK := hidB hok
  have HAO := hidB hao
  have HIV := hidB hiv
  have hmn0 := hmn.1
  have hmn1 := hmn.2
  have hrc := own_last hS rfl
  have hnc := hrc.2
  have HCM := hidB (show cs ≤ maxLen from by rcases hS.2 with ⟨h1, _⟩ | ⟨g', cap, cur, h1, _, _, _, hm, _⟩ <;> first | (cases h1; done) | (injection h1 with _ _ h3; rw [h3]; exact hm))
  have HPOP := hidB (fun (W : World) (h : W.heap[gq]? = w.heap[gq]?) => (own_pop (own_eq hS (fun k hk => by injection hk with hk; subst hk; exact h)) rfl : W.ownsRow B1 95 32 (.slice (some ⟨gq, 0, none⟩) n cs) n xs))
  have HRC := hidB hrc.1
  have Y := hidB (show Bk ((w.alloc (.cells (o.cs) 49)).alloc (.cells (#[.int .u8 0, .int .u8 0, .float .f64 0, .string ⟨#[]⟩, .int .i64 0, .bool false, .bool false, .int .u8 0, .int .u8 0, .float .f64 0, .string ⟨#[]⟩, .int .i64 0, .int .u8 0, .float .f64 0, .string ⟨#[]⟩, .int .i64 0, .int .u8 0, .float .f64 0, .string ⟨#[]⟩, .int .i64 0, .bool false, .bool false, .bool false, .slice none 0 0, .int .u8 0, .string ⟨#[]⟩]) 49)) (w.heap.size) 49 (o.cs) from (Bk.new w _ _).alloc _)
  have R := hidB (show Bk ((w.alloc (.cells (o.cs) 49)).alloc (.cells (#[.int .u8 0, .int .u8 0, .float .f64 0, .string ⟨#[]⟩, .int .i64 0, .bool false, .bool false, .int .u8 0, .int .u8 0, .float .f64 0, .string ⟨#[]⟩, .int .i64 0, .int .u8 0, .float .f64 0, .string ⟨#[]⟩, .int .i64 0, .int .u8 0, .float .f64 0, .string ⟨#[]⟩, .int .i64 0, .bool false, .bool false, .bool false, .slice none 0 0, .int .u8 0, .string ⟨#[]⟩]) 49)) (w.heap.size + 1) 49 (OI.zero.cs) from Bk.new2 w _ _ _)
  have B := hidB (show Below w.heap.size w ((w.alloc (.cells (o.cs) 49)).alloc (.cells (#[.int .u8 0, .int .u8 0, .float .f64 0, .string ⟨#[]⟩, .int .i64 0, .bool false, .bool false, .int .u8 0, .int .u8 0, .float .f64 0, .string ⟨#[]⟩, .int .i64 0, .int .u8 0, .float .f64 0, .string ⟨#[]⟩, .int .i64 0, .int .u8 0, .float .f64 0, .string ⟨#[]⟩, .int .i64 0, .bool false, .bool false, .bool false, .slice none 0 0, .int .u8 0, .string ⟨#[]⟩]) 49)) from (box_one w _).alloc (by simp) _)
  have TB := hidB (show Bk ((w.alloc (.cells (o.cs) 49)).alloc (.cells (#[.int .u8 0, .int .u8 0, .float .f64 0, .string ⟨#[]⟩, .int .i64 0, .bool false, .bool false, .int .u8 0, .int .u8 0, .float .f64 0, .string ⟨#[]⟩, .int .i64 0, .int .u8 0, .float .f64 0, .string ⟨#[]⟩, .int .i64 0, .int .u8 0, .float .f64 0, .string ⟨#[]⟩, .int .i64 0, .bool false, .bool false, .bool false, .slice none 0 0, .int .u8 0, .string ⟨#[]⟩]) 49)) T 68 (tkC gw (.slice (some ⟨gq, 0, none⟩) (n + 1) cs) mn bg fa flv wn ov hd (.slice qe sn ce)) from (hT.alloc _).alloc _)
  have HE := hidB (own_on (own_on hE (box_one w _)) (box_one _ _) : ((w.alloc (.cells (o.cs) 49)).alloc (.cells (#[.int .u8 0, .int .u8 0, .float .f64 0, .string ⟨#[]⟩, .int .i64 0, .bool false, .bool false, .int .u8 0, .int .u8 0, .float .f64 0, .string ⟨#[]⟩, .int .i64 0, .int .u8 0, .float .f64 0, .string ⟨#[]⟩, .int .i64 0, .int .u8 0, .float .f64 0, .string ⟨#[]⟩, .int .i64 0, .bool false, .bool false, .bool false, .slice none 0 0, .int .u8 0, .string ⟨#[]⟩]) 49)).ownsRow B1 121 32 (.slice qe sn ce) sn ys)
  have KW := hidB (show Kept (fun k => k = T ∨ (Value.slice qe sn ce).ownBlock = some k) w ((w.alloc (.cells (o.cs) 49)).alloc (.cells (#[.int .u8 0, .int .u8 0, .float .f64 0, .string ⟨#[]⟩, .int .i64 0, .bool false, .bool false, .int .u8 0, .int .u8 0, .float .f64 0, .string ⟨#[]⟩, .int .i64 0, .int .u8 0, .float .f64 0, .string ⟨#[]⟩, .int .i64 0, .int .u8 0, .float .f64 0, .string ⟨#[]⟩, .int .i64 0, .bool false, .bool false, .bool false, .slice none 0 0, .int .u8 0, .string ⟨#[]⟩]) 49)) from ((Kept.refl _ w).alloc _).alloc _)
  have HRW := hidB (show ((w.alloc (.cells (o.cs) 49)).alloc (.cells (#[.int .u8 0, .int .u8 0, .float .f64 0, .string ⟨#[]⟩, .int .i64 0, .bool false, .bool false, .int .u8 0, .int .u8 0, .float .f64 0, .string ⟨#[]⟩, .int .i64 0, .int .u8 0, .float .f64 0, .string ⟨#[]⟩, .int .i64 0, .int .u8 0, .float .f64 0, .string ⟨#[]⟩, .int .i64 0, .bool false, .bool false, .bool false, .slice none 0 0, .int .u8 0, .string ⟨#[]⟩]) 49)).rangeAt gq (n * 32) (entC iv a lv bg0).toList from rangeOn B.out HGQ.out.2 HRC.out)
  have HQW := hidB (show ((w.alloc (.cells (o.cs) 49)).alloc (.cells (#[.int .u8 0, .int .u8 0, .float .f64 0, .string ⟨#[]⟩, .int .i64 0, .bool false, .bool false, .int .u8 0, .int .u8 0, .float .f64 0, .string ⟨#[]⟩, .int .i64 0, .int .u8 0, .float .f64 0, .string ⟨#[]⟩, .int .i64 0, .int .u8 0, .float .f64 0, .string ⟨#[]⟩, .int .i64 0, .bool false, .bool false, .bool false, .slice none 0 0, .int .u8 0, .string ⟨#[]⟩]) 49)).heap[gq]? = w.heap[gq]? from B.out.block gq HGQ.out.2)
  clear hT hS hE hiv hao hm hk hok hmn hn hsn hB1 hrc
  go_enter Tryz.func40, Tryz.ntmps40
  go_upto_region 1 with fail
  generalize hW : ((w.alloc (.cells (o.cs) 49)).alloc (.cells (#[.int .u8 0, .int .u8 0, .float .f64 0, .string ⟨#[]⟩, .int .i64 0, .bool false, .bool false, .int .u8 0, .int .u8 0, .float .f64 0, .string ⟨#[]⟩, .int .i64 0, .int .u8 0, .float .f64 0, .string ⟨#[]⟩, .int .i64 0, .int .u8 0, .float .f64 0, .string ⟨#[]⟩, .int .i64 0, .bool false, .bool false, .bool false, .slice none 0 0, .int .u8 0, .string ⟨#[]⟩]) 49)) = w1 at *
  clear hW
  have hn0 : (0 : Int) ≤ (n : Int) := by omega
  have HGQ1 := hidB (show gq < w1.heap.size from Nat.lt_of_lt_of_le HGQ.out.2 B.out.size)
  have hwr : IntKind.i64.wrap ((n : Nat) : Int) = (n : Int) := IntWalk.i64_in _ (by have := HN.out; omega)
  have hx1 : ((n : Int) + 1) - 1 = (n : Int) := by omega
  have hx2 : (n : Int) < (n : Int) + 1 := by omega
  refine wp_region_noPanic ?_
  refine wp_region_held_drew (S := fun W => Below w1.heap.size w1 W) (by kernel_rfl) ?_ (fun hHeld => ?_)
  · exact (Below.refl _ _).drew
  generalize hWd : w1.drew = wd at *
  clear hWd
  first | (refine wpAnyH_take (i := 0) (v := undef) (by exact gE rfl) (by kernel_rfl) (by kernel_rfl) (by kernel_rfl) (fun _ _ _ h => h) (Or.inr ⟨?_, rfl⟩) (by assumption) ?_; (rfl); try simp only [Act.put, List.setIfInBounds_toArray, List.set_cons_zero, List.set_cons_succ]) | (refine wpAnyH_take (i := 0) (v := ?_) (by exact gE rfl) (by kernel_rfl) (by kernel_rfl) (by kernel_rfl) (fun _ _ _ h => h) (Or.inl ⟨?_, ?_⟩) (by assumption) ?_; rotate_left; (rfl); (focus (intro w hSw; (try dsimp only at hSw); go_simp; try with_reducible rfl)); try simp only [Act.put, List.setIfInBounds_toArray, List.set_cons_zero, List.set_cons_succ])
  first | (refine wpAnyH_take (i := 1) (v := undef) (by exact gE rfl) (by kernel_rfl) (by kernel_rfl) (by kernel_rfl) (fun _ _ _ h => h) (Or.inr ⟨?_, rfl⟩) (by assumption) ?_; (rfl); try simp only [Act.put, List.setIfInBounds_toArray, List.set_cons_zero, List.set_cons_succ]) | (refine wpAnyH_take (i := 1) (v := ?_) (by exact gE rfl) (by kernel_rfl) (by kernel_rfl) (by kernel_rfl) (fun _ _ _ h => h) (Or.inl ⟨?_, ?_⟩) (by assumption) ?_; rotate_left; (rfl); (focus (intro w hSw; (try dsimp only at hSw); go_simp; try with_reducible rfl)); try simp only [Act.put, List.setIfInBounds_toArray, List.set_cons_zero, List.set_cons_succ])
  first | (refine wpAnyH_take (i := 2) (v := undef) (by exact gE rfl) (by kernel_rfl) (by kernel_rfl) (by kernel_rfl) (fun _ _ _ h => h) (Or.inr ⟨?_, rfl⟩) (by assumption) ?_; (rfl); try simp only [Act.put, List.setIfInBounds_toArray, List.set_cons_zero, List.set_cons_succ]) | (refine wpAnyH_take (i := 2) (v := ?_) (by exact gE rfl) (by kernel_rfl) (by kernel_rfl) (by kernel_rfl) (fun _ _ _ h => h) (Or.inl ⟨?_, ?_⟩) (by assumption) ?_; rotate_left; (rfl); (focus (intro w hSw; (try dsimp only at hSw); go_simp; try with_reducible rfl)); try simp only [Act.put, List.setIfInBounds_toArray, List.set_cons_zero, List.set_cons_succ])
  first | (refine wpAnyH_take (i := 3) (v := undef) (by exact gE rfl) (by kernel_rfl) (by kernel_rfl) (by kernel_rfl) (fun _ _ _ h => h) (Or.inr ⟨?_, rfl⟩) (by assumption) ?_; (rfl); try simp only [Act.put, List.setIfInBounds_toArray, List.set_cons_zero, List.set_cons_succ]) | (refine wpAnyH_take (i := 3) (v := ?_) (by exact gE rfl) (by kernel_rfl) (by kernel_rfl) (by kernel_rfl) (fun _ _ _ h => h) (Or.inl ⟨?_, ?_⟩) (by assumption) ?_; rotate_left; (rfl); (focus (intro W hSw; have hc0 := (show W.cell? ⟨T, 1, none⟩ = some ((.slice (some ⟨gq, 0, none⟩) (n + 1) cs)) from (TB.out.on hSw).cell 1); clear hSw; go_simp; try with_reducible rfl)); try simp only [Act.put, List.setIfInBounds_toArray, List.set_cons_zero, List.set_cons_succ])
  first | (refine wpAnyH_take (i := 4) (v := undef) (by exact gE rfl) (by kernel_rfl) (by kernel_rfl) (by kernel_rfl) (fun _ _ _ h => h) (Or.inr ⟨?_, rfl⟩) (by assumption) ?_; (rfl); try simp only [Act.put, List.setIfInBounds_toArray, List.set_cons_zero, List.set_cons_succ]) | (refine wpAnyH_take (i := 4) (v := ?_) (by exact gE rfl) (by kernel_rfl) (by kernel_rfl) (by kernel_rfl) (fun _ _ _ h => h) (Or.inl ⟨?_, ?_⟩) (by assumption) ?_; rotate_left; (rfl); (focus (intro w hSw; (try dsimp only at hSw); go_simp; try with_reducible rfl)); try simp only [Act.put, List.setIfInBounds_toArray, List.set_cons_zero, List.set_cons_succ])
  first | (refine wpAnyH_take (i := 5) (v := undef) (by exact gE rfl) (by kernel_rfl) (by kernel_rfl) (by kernel_rfl) (fun _ _ _ h => h) (Or.inr ⟨?_, rfl⟩) (by assumption) ?_; (rfl); try simp only [Act.put, List.setIfInBounds_toArray, List.set_cons_zero, List.set_cons_succ]) | (refine wpAnyH_take (i := 5) (v := ?_) (by exact gE rfl) (by kernel_rfl) (by kernel_rfl) (by kernel_rfl) (fun _ _ _ h => h) (Or.inl ⟨?_, ?_⟩) (by assumption) ?_; rotate_left; (rfl); (focus (intro w hSw; (try dsimp only at hSw); go_simp; try with_reducible rfl)); try simp only [Act.put, List.setIfInBounds_toArray, List.set_cons_zero, List.set_cons_succ])
  first | (refine wpAnyH_take (i := 6) (v := undef) (by exact gE rfl) (by kernel_rfl) (by kernel_rfl) (by kernel_rfl) (fun _ _ _ h => h) (Or.inr ⟨?_, rfl⟩) (by assumption) ?_; (rfl); try simp only [Act.put, List.setIfInBounds_toArray, List.set_cons_zero, List.set_cons_succ]) | (refine wpAnyH_take (i := 6) (v := ?_) (by exact gE rfl) (by kernel_rfl) (by kernel_rfl) (by kernel_rfl) (fun _ _ _ h => h) (Or.inl ⟨?_, ?_⟩) (by assumption) ?_; rotate_left; (rfl); (focus (intro w hSw; (try dsimp only at hSw); go_simp; try with_reducible rfl)); try simp only [Act.put, List.setIfInBounds_toArray, List.set_cons_zero, List.set_cons_succ])
  first | (refine wpAnyH_take (i := 7) (v := undef) (by exact gE rfl) (by kernel_rfl) (by kernel_rfl) (by kernel_rfl) (fun _ _ _ h => h) (Or.inr ⟨?_, rfl⟩) (by assumption) ?_; (rfl); try simp only [Act.put, List.setIfInBounds_toArray, List.set_cons_zero, List.set_cons_succ]) | (refine wpAnyH_take (i := 7) (v := ?_) (by exact gE rfl) (by kernel_rfl) (by kernel_rfl) (by kernel_rfl) (fun _ _ _ h => h) (Or.inl ⟨?_, ?_⟩) (by assumption) ?_; rotate_left; (rfl); (focus (intro W hSw; have hc0 := (show W.cell? ⟨T, 1, none⟩ = some ((.slice (some ⟨gq, 0, none⟩) (n + 1) cs)) from (TB.out.on hSw).cell 1); clear hSw; go_simp; try with_reducible rfl)); try simp only [Act.put, List.setIfInBounds_toArray, List.set_cons_zero, List.set_cons_succ])
  first | (refine wpAnyH_take (i := 8) (v := undef) (by exact gE rfl) (by kernel_rfl) (by kernel_rfl) (by kernel_rfl) (fun _ _ _ h => h) (Or.inr ⟨?_, rfl⟩) (by assumption) ?_; (rfl); try simp only [Act.put, List.setIfInBounds_toArray, List.set_cons_zero, List.set_cons_succ]) | (refine wpAnyH_take (i := 8) (v := ?_) (by exact gE rfl) (by kernel_rfl) (by kernel_rfl) (by kernel_rfl) (fun _ _ _ h => h) (Or.inl ⟨?_, ?_⟩) (by assumption) ?_; rotate_left; (rfl); (focus (intro w hSw; (try dsimp only at hSw); go_simp; try with_reducible rfl)); try simp only [Act.put, List.setIfInBounds_toArray, List.set_cons_zero, List.set_cons_succ])
  first | (refine wpAnyH_take (i := 9) (v := undef) (by exact gE rfl) (by kernel_rfl) (by kernel_rfl) (by kernel_rfl) (fun _ _ _ h => h) (Or.inr ⟨?_, rfl⟩) (by assumption) ?_; (rfl); try simp only [Act.put, List.setIfInBounds_toArray, List.set_cons_zero, List.set_cons_succ]) | (refine wpAnyH_take (i := 9) (v := ?_) (by exact gE rfl) (by kernel_rfl) (by kernel_rfl) (by kernel_rfl) (fun _ _ _ h => h) (Or.inl ⟨?_, ?_⟩) (by assumption) ?_; rotate_left; (rfl); (focus (intro w hSw; (try dsimp only at hSw); go_simp; try with_reducible rfl)); try simp only [Act.put, List.setIfInBounds_toArray, List.set_cons_zero, List.set_cons_succ])
  first | (refine wpAnyH_take (i := 10) (v := undef) (by exact gE rfl) (by kernel_rfl) (by kernel_rfl) (by kernel_rfl) (fun _ _ _ h => h) (Or.inr ⟨?_, rfl⟩) (by assumption) ?_; (rfl); try simp only [Act.put, List.setIfInBounds_toArray, List.set_cons_zero, List.set_cons_succ]) | (refine wpAnyH_take (i := 10) (v := ?_) (by exact gE rfl) (by kernel_rfl) (by kernel_rfl) (by kernel_rfl) (fun _ _ _ h => h) (Or.inl ⟨?_, ?_⟩) (by assumption) ?_; rotate_left; (rfl); (focus (intro w hSw; (try dsimp only at hSw); go_simp; try with_reducible rfl)); try simp only [Act.put, List.setIfInBounds_toArray, List.set_cons_zero, List.set_cons_succ])
  (refine wpAnyH_take (i := 11) (v := (.agg (entC iv a lv bg0))) (by exact gE rfl) (by kernel_rfl) (by kernel_rfl) (by kernel_rfl) (fun _ _ _ h => h) (yieldsIf_load_mid (by rfl) 95 (.tmp 16) (by rfl) (gq) (n * 32) (by rfl) ((entC iv a lv bg0).toList) _ (fun W hS => rangeOn hS HGQ1.out HRW.out) Tryz.underlying95 (by rfl) (by kernel_rfl)) (by assumption) ?_; try simp only [Act.put, List.setIfInBounds_toArray, List.set_cons_zero, List.set_cons_succ])
  refine wpAnyH_ready (rs := [12]) (by kernel_rfl) (by simp) ?_
  refine AllReadyH.cons rfl (fun K hK => ?_) AllReadyH.nil
  go_simp
  have X5 := hidB (Bk.new wd 95 (#[.nilIface, .int .u8 0, .int .i64 0, .string ⟨#[]⟩, .int .i64 0, .int .u8 0, .int .u8 0, .float .f64 0, .string ⟨#[]⟩, .int .i64 0, .int .u8 0, .float .f64 0, .string ⟨#[]⟩, .int .i64 0, .int .u8 0, .float .f64 0, .string ⟨#[]⟩, .int .i64 0, .bool false, .bool false, .bool false, .int .u8 0, .float .f64 0, .string ⟨#[]⟩, .int .i64 0, .int .u8 0, .float .f64 0, .string ⟨#[]⟩, .int .i64 0, .slice none 0 0, .int .i64 0, .int .i64 0]))
  have HHX5 := hidB hHeld.size
  replace hHeld := hHeld.alloc hHeld.size (.cells (#[.nilIface, .int .u8 0, .int .i64 0, .string ⟨#[]⟩, .int .i64 0, .int .u8 0, .int .u8 0, .float .f64 0, .string ⟨#[]⟩, .int .i64 0, .int .u8 0, .float .f64 0, .string ⟨#[]⟩, .int .i64 0, .int .u8 0, .float .f64 0, .string ⟨#[]⟩, .int .i64 0, .bool false, .bool false, .bool false, .int .u8 0, .float .f64 0, .string ⟨#[]⟩, .int .i64 0, .int .u8 0, .float .f64 0, .string ⟨#[]⟩, .int .i64 0, .slice none 0 0, .int .i64 0, .int .i64 0]) 95)
  refine hK.out _ _ hHeld (fun _ => ?_)
  clear hK K
  try simp only [Act.put, List.setIfInBounds_toArray, List.set_cons_zero, List.set_cons_succ]
  generalize hWn : (wd.alloc (.cells (#[.nilIface, .int .u8 0, .int .i64 0, .string ⟨#[]⟩, .int .i64 0, .int .u8 0, .int .u8 0, .float .f64 0, .string ⟨#[]⟩, .int .i64 0, .int .u8 0, .float .f64 0, .string ⟨#[]⟩, .int .i64 0, .int .u8 0, .float .f64 0, .string ⟨#[]⟩, .int .i64 0, .bool false, .bool false, .bool false, .int .u8 0, .float .f64 0, .string ⟨#[]⟩, .int .i64 0, .int .u8 0, .float .f64 0, .string ⟨#[]⟩, .int .i64 0, .slice none 0 0, .int .i64 0, .int .i64 0]) 95)) = wa at *
  clear hWn
  generalize hGn : wd.heap.size = g5 at *
  clear hGn
  refine wpAnyH_ready (rs := [13]) (by kernel_rfl) (by simp) ?_
  refine AllReadyH.cons rfl (fun K hK => ?_) AllReadyH.nil
  rw [if_pos (by kernel_rfl)]
  refine wp_store_row 95 (.tmp 5) (.tmp 17) (by rfl) (g5) ((entC iv a lv bg0)) (by rfl) (by rfl) 95 (#[.nilIface, .int .u8 0, .int .i64 0, .string ⟨#[]⟩, .int .i64 0, .int .u8 0, .int .u8 0, .float .f64 0, .string ⟨#[]⟩, .int .i64 0, .int .u8 0, .float .f64 0, .string ⟨#[]⟩, .int .i64 0, .int .u8 0, .float .f64 0, .string ⟨#[]⟩, .int .i64 0, .bool false, .bool false, .bool false, .int .u8 0, .float .f64 0, .string ⟨#[]⟩, .int .i64 0, .int .u8 0, .float .f64 0, .string ⟨#[]⟩, .int .i64 0, .slice none 0 0, .int .i64 0, .int .i64 0]) (by exact X5.out) (by kernel_rfl) (by rfl) (by exact ent_one _ a lv bg0 HIV.out HAO.out) ?_
  replace X5 := hidB (X5.out.setRow ((entC iv a lv bg0)))
  replace hHeld := below_setRow hHeld HHX5.out ((entC iv a lv bg0))
  refine put_none_K (by first | rfl | kernel_rfl) ?_
  refine hK.out _ _ hHeld (fun _ => ?_)
  clear hK K
  generalize hWn : wa.setRow g5 ((entC iv a lv bg0)) = w2 at *
  clear hWn
  refine wpAnyH_done (by kernel_rfl) ?_ _
  refine NoPanic.normal ?_
  have HG5 := hidB (show w.heap.size + 2 ≤ g5 by have h1 := R.out.lt; have h2 := HHX5.out; omega)
  replace Y := hidB (Y.out.on hHeld)
  replace R := hidB (R.out.on hHeld)
  replace TB := hidB (TB.out.on hHeld)
  replace HE := hidB (own_on HE.out hHeld)
  replace KW := hidB (KW.out.trans (Kept.below hHeld))
  replace HQW := hidB (((hHeld).block gq HGQ1.out).trans HQW.out)
  replace HGQ1 := hidB (Nat.lt_of_lt_of_le HGQ1.out hHeld.size)
  clear hHeld HHX5 HRW B HRC
  have hx4 : (n : Int) ≤ (cs : Int) := by omega
  have hx5 : (cs : Int) ≤ 9223372036854775807 := by have := HCM.out; unfold maxLen at this; omega
  go_upto_region 2 with fail
  refine wp_region_noPanic ?_
  refine wp_region_held_drew (S := fun W => Kept (fun k => k = T) w2 W) (by kernel_rfl) ?_ (fun hHeld => ?_)
  · exact (Kept.refl _ _).drew
  have TBd := hidB (show Bk w2.drew T 68 (tkC gw (.slice (some ⟨gq, 0, none⟩) (n + 1) cs) mn bg fa flv wn ov hd (.slice qe sn ce)) from TB.out.drew)
  generalize hWd : w2.drew = wd at *
  clear hWd
  first | (refine wpAnyH_take (i := 0) (v := undef) (by exact gE rfl) (by kernel_rfl) (by kernel_rfl) (by kernel_rfl) (fun _ _ _ h => h) (Or.inr ⟨?_, rfl⟩) (by assumption) ?_; (rfl); try simp only [Act.put, List.setIfInBounds_toArray, List.set_cons_zero, List.set_cons_succ]) | (refine wpAnyH_take (i := 0) (v := ?_) (by exact gE rfl) (by kernel_rfl) (by kernel_rfl) (by kernel_rfl) (fun _ _ _ h => h) (Or.inl ⟨?_, ?_⟩) (by assumption) ?_; rotate_left; (rfl); (focus (intro w hSw; (try dsimp only at hSw); go_simp; try with_reducible rfl)); try simp only [Act.put, List.setIfInBounds_toArray, List.set_cons_zero, List.set_cons_succ])
  first | (refine wpAnyH_take (i := 1) (v := undef) (by exact gE rfl) (by kernel_rfl) (by kernel_rfl) (by kernel_rfl) (fun _ _ _ h => h) (Or.inr ⟨?_, rfl⟩) (by assumption) ?_; (rfl); try simp only [Act.put, List.setIfInBounds_toArray, List.set_cons_zero, List.set_cons_succ]) | (refine wpAnyH_take (i := 1) (v := ?_) (by exact gE rfl) (by kernel_rfl) (by kernel_rfl) (by kernel_rfl) (fun _ _ _ h => h) (Or.inl ⟨?_, ?_⟩) (by assumption) ?_; rotate_left; (rfl); (focus (intro w hSw; (try dsimp only at hSw); go_simp; try with_reducible rfl)); try simp only [Act.put, List.setIfInBounds_toArray, List.set_cons_zero, List.set_cons_succ])
  first | (refine wpAnyH_take (i := 2) (v := undef) (by exact gE rfl) (by kernel_rfl) (by kernel_rfl) (by kernel_rfl) (fun _ _ _ h => h) (Or.inr ⟨?_, rfl⟩) (by assumption) ?_; (rfl); try simp only [Act.put, List.setIfInBounds_toArray, List.set_cons_zero, List.set_cons_succ]) | (refine wpAnyH_take (i := 2) (v := ?_) (by exact gE rfl) (by kernel_rfl) (by kernel_rfl) (by kernel_rfl) (fun _ _ _ h => h) (Or.inl ⟨?_, ?_⟩) (by assumption) ?_; rotate_left; (rfl); (focus (intro w hSw; (try dsimp only at hSw); go_simp; try with_reducible rfl)); try simp only [Act.put, List.setIfInBounds_toArray, List.set_cons_zero, List.set_cons_succ])
  first | (refine wpAnyH_take (i := 3) (v := undef) (by exact gE rfl) (by kernel_rfl) (by kernel_rfl) (by kernel_rfl) (fun _ _ _ h => h) (Or.inr ⟨?_, rfl⟩) (by assumption) ?_; (rfl); try simp only [Act.put, List.setIfInBounds_toArray, List.set_cons_zero, List.set_cons_succ]) | (refine wpAnyH_take (i := 3) (v := ?_) (by exact gE rfl) (by kernel_rfl) (by kernel_rfl) (by kernel_rfl) (fun _ _ _ h => h) (Or.inl ⟨?_, ?_⟩) (by assumption) ?_; rotate_left; (rfl); (focus (intro w hSw; (try dsimp only at hSw); go_simp; try with_reducible rfl)); try simp only [Act.put, List.setIfInBounds_toArray, List.set_cons_zero, List.set_cons_succ])
  first | (refine wpAnyH_take (i := 5) (v := undef) (by exact gE rfl) (by kernel_rfl) (by kernel_rfl) (by kernel_rfl) (fun _ _ _ h => h) (Or.inr ⟨?_, rfl⟩) (by assumption) ?_; (rfl); try simp only [Act.put, List.setIfInBounds_toArray, List.set_cons_zero, List.set_cons_succ]) | (refine wpAnyH_take (i := 5) (v := ?_) (by exact gE rfl) (by kernel_rfl) (by kernel_rfl) (by kernel_rfl) (fun _ _ _ h => h) (Or.inl ⟨?_, ?_⟩) (by assumption) ?_; rotate_left; (rfl); (focus (intro w hSw; (try dsimp only at hSw); go_simp; try with_reducible rfl)); try simp only [Act.put, List.setIfInBounds_toArray, List.set_cons_zero, List.set_cons_succ])
  first | (refine wpAnyH_take (i := 6) (v := undef) (by exact gE rfl) (by kernel_rfl) (by kernel_rfl) (by kernel_rfl) (fun _ _ _ h => h) (Or.inr ⟨?_, rfl⟩) (by assumption) ?_; (rfl); try simp only [Act.put, List.setIfInBounds_toArray, List.set_cons_zero, List.set_cons_succ]) | (refine wpAnyH_take (i := 6) (v := ?_) (by exact gE rfl) (by kernel_rfl) (by kernel_rfl) (by kernel_rfl) (fun _ _ _ h => h) (Or.inl ⟨?_, ?_⟩) (by assumption) ?_; rotate_left; (rfl); (focus (intro w hSw; (try dsimp only at hSw); go_simp; try with_reducible rfl)); try simp only [Act.put, List.setIfInBounds_toArray, List.set_cons_zero, List.set_cons_succ])
  first | (refine wpAnyH_take (i := 7) (v := undef) (by exact gE rfl) (by kernel_rfl) (by kernel_rfl) (by kernel_rfl) (fun _ _ _ h => h) (Or.inr ⟨?_, rfl⟩) (by assumption) ?_; (rfl); try simp only [Act.put, List.setIfInBounds_toArray, List.set_cons_zero, List.set_cons_succ]) | (refine wpAnyH_take (i := 7) (v := ?_) (by exact gE rfl) (by kernel_rfl) (by kernel_rfl) (by kernel_rfl) (fun _ _ _ h => h) (Or.inl ⟨?_, ?_⟩) (by assumption) ?_; rotate_left; (rfl); (focus (intro w hSw; (try dsimp only at hSw); go_simp; try with_reducible rfl)); try simp only [Act.put, List.setIfInBounds_toArray, List.set_cons_zero, List.set_cons_succ])
  refine wpAnyH_ready (rs := [4, 8]) (by kernel_rfl) (by simp) ?_
  refine AllReadyH.cons rfl (fun K hK => ?_) ?_
  · skip
    have y1 : wd.cell? ⟨T, 1, none⟩ = some (.slice (some ⟨gq, 0, none⟩) (n + 1) cs) := TBd.out.cell 1
    go_simp
    clear y1
    refine hK.out _ _ hHeld (fun _ => ?_)
    clear hK K
    try simp only [Act.put, List.setIfInBounds_toArray, List.set_cons_zero, List.set_cons_succ]
    refine wpAnyH_ready (rs := [8]) (by kernel_rfl) (by simp) ?_
    refine AllReadyH.cons rfl (fun K hK => ?_) AllReadyH.nil
    have y1 : wd.cell? ⟨T, 1, none⟩ = some (.slice (some ⟨gq, 0, none⟩) (n + 1) cs) := TBd.out.cell 1
    go_simp
    clear y1
    refine hK.out _ _ hHeld (fun _ => ?_)
    clear hK K
    try simp only [Act.put, List.setIfInBounds_toArray, List.set_cons_zero, List.set_cons_succ]
    first | (refine wpAnyH_take (i := 9) (v := undef) (by exact gE rfl) (by kernel_rfl) (by kernel_rfl) (by kernel_rfl) (fun _ _ _ h => h) (Or.inr ⟨?_, rfl⟩) (by assumption) ?_; (rfl); try simp only [Act.put, List.setIfInBounds_toArray, List.set_cons_zero, List.set_cons_succ]) | (refine wpAnyH_take (i := 9) (v := ?_) (by exact gE rfl) (by kernel_rfl) (by kernel_rfl) (by kernel_rfl) (fun _ _ _ h => h) (Or.inl ⟨?_, ?_⟩) (by assumption) ?_; rotate_left; (rfl); (focus (intro w hSw; (try dsimp only at hSw); go_simp; try with_reducible rfl)); try simp only [Act.put, List.setIfInBounds_toArray, List.set_cons_zero, List.set_cons_succ])
    first | (refine wpAnyH_take (i := 10) (v := undef) (by exact gE rfl) (by kernel_rfl) (by kernel_rfl) (by kernel_rfl) (fun _ _ _ h => h) (Or.inr ⟨?_, rfl⟩) (by assumption) ?_; (rfl); try simp only [Act.put, List.setIfInBounds_toArray, List.set_cons_zero, List.set_cons_succ]) | (refine wpAnyH_take (i := 10) (v := ?_) (by exact gE rfl) (by kernel_rfl) (by kernel_rfl) (by kernel_rfl) (fun _ _ _ h => h) (Or.inl ⟨?_, ?_⟩) (by assumption) ?_; rotate_left; (rfl); (focus (intro w hSw; (try dsimp only at hSw); go_simp; try with_reducible rfl)); try simp only [Act.put, List.setIfInBounds_toArray, List.set_cons_zero, List.set_cons_succ])
    first | (refine wpAnyH_take (i := 11) (v := undef) (by exact gE rfl) (by kernel_rfl) (by kernel_rfl) (by kernel_rfl) (fun _ _ _ h => h) (Or.inr ⟨?_, rfl⟩) (by assumption) ?_; (rfl); try simp only [Act.put, List.setIfInBounds_toArray, List.set_cons_zero, List.set_cons_succ]) | (refine wpAnyH_take (i := 11) (v := ?_) (by exact gE rfl) (by kernel_rfl) (by kernel_rfl) (by kernel_rfl) (fun _ _ _ h => h) (Or.inl ⟨?_, ?_⟩) (by assumption) ?_; rotate_left; (rfl); (focus (intro w hSw; (try dsimp only at hSw); go_simp; try with_reducible rfl)); try simp only [Act.put, List.setIfInBounds_toArray, List.set_cons_zero, List.set_cons_succ])
    first | (refine wpAnyH_take (i := 12) (v := undef) (by exact gE rfl) (by kernel_rfl) (by kernel_rfl) (by kernel_rfl) (fun _ _ _ h => h) (Or.inr ⟨?_, rfl⟩) (by assumption) ?_; (rfl); try simp only [Act.put, List.setIfInBounds_toArray, List.set_cons_zero, List.set_cons_succ]) | (refine wpAnyH_take (i := 12) (v := ?_) (by exact gE rfl) (by kernel_rfl) (by kernel_rfl) (by kernel_rfl) (fun _ _ _ h => h) (Or.inl ⟨?_, ?_⟩) (by assumption) ?_; rotate_left; (rfl); (focus (intro w hSw; (try dsimp only at hSw); go_simp; try with_reducible rfl)); try simp only [Act.put, List.setIfInBounds_toArray, List.set_cons_zero, List.set_cons_succ])
    first | (refine wpAnyH_take (i := 13) (v := undef) (by exact gE rfl) (by kernel_rfl) (by kernel_rfl) (by kernel_rfl) (fun _ _ _ h => h) (Or.inr ⟨?_, rfl⟩) (by assumption) ?_; (rfl); try simp only [Act.put, List.setIfInBounds_toArray, List.set_cons_zero, List.set_cons_succ]) | (refine wpAnyH_take (i := 13) (v := ?_) (by exact gE rfl) (by kernel_rfl) (by kernel_rfl) (by kernel_rfl) (fun _ _ _ h => h) (Or.inl ⟨?_, ?_⟩) (by assumption) ?_; rotate_left; (rfl); (focus (intro w hSw; (try dsimp only at hSw); go_simp; try with_reducible rfl)); try simp only [Act.put, List.setIfInBounds_toArray, List.set_cons_zero, List.set_cons_succ])
    refine wpAnyH_ready (rs := [14]) (by kernel_rfl) (by simp) ?_
    refine AllReadyH.cons rfl (fun K hK => ?_) AllReadyH.nil
    have y1 : wd.cell? ⟨T, 1, none⟩ = some (.slice (some ⟨gq, 0, none⟩) (n + 1) cs) := TBd.out.cell 1
    have f1 : wd.frozen? ⟨T, 1, none⟩ = false := TBd.out.free 1
    go_simp
    replace TBd := hidB (TBd.out.set 1 (.slice (some ⟨gq, 0, none⟩) n cs))
    have HFT := hidB (fun k (hk : k ≠ T) => Below.heap_setCell wd ⟨T, 1, none⟩ (.slice (some ⟨gq, 0, none⟩) n cs) k hk)
    replace hHeld := hHeld.setCell (p := ⟨T, 1, none⟩) (.inl rfl) (.slice (some ⟨gq, 0, none⟩) n cs)
    clear y1 f1
    refine hK.out _ _ hHeld (fun _ => ?_)
    clear hK K
    try simp only [Act.put, List.setIfInBounds_toArray, List.set_cons_zero, List.set_cons_succ]
    refine wpAnyH_done (by kernel_rfl) ?_ _
    refine NoPanic.normal ?_
    generalize hWn : (wd.setCell ⟨T, 1, none⟩ (.slice (some ⟨gq, 0, none⟩) n cs)) = w3 at *
    clear hWn
    replace TB := TBd
    replace Y := hidB (Y.out.kept hHeld (show ¬ (w.heap.size = T) by have h1 := HTL.out; have h2 := HG5.out; omega))
    replace R := hidB (R.out.kept hHeld (show ¬ (w.heap.size + 1 = T) by have h1 := HTL.out; have h2 := HG5.out; omega))
    replace X5 := hidB (X5.out.kept hHeld (show ¬ (g5 = T) by have h1 := HTL.out; have h2 := HG5.out; omega))
    replace HE := hidB (own_kept HE.out hHeld (fun k hk e => HTS.out k hk e))
    replace KW := hidB (KW.out.trans (hHeld.wider (fun _ _ h => .inl h)))
    replace HQW := hidB ((hHeld.block gq HGQ1.out HTQ.out).trans HQW.out)
    replace HGQ1 := hidB (Nat.lt_of_lt_of_le HGQ1.out hHeld.size)
    clear hHeld HFT
    go_upto_region 3 with fail
    refine wp_region_noPanic ?_
    refine wp_region_held_drew (S := fun W => Kept (fun k => k = w.heap.size) w3 W ∧ Bk W (w.heap.size) 49 o.cs) (by kernel_rfl) ?_ (fun hHeld => ?_)
    · exact ⟨(Kept.refl _ _).drew, Y.out.drew⟩
    generalize hWd : w3.drew = wd at *
    clear hWd
    first | (refine wpAnyH_take (i := 0) (v := undef) (by exact gE rfl) (by kernel_rfl) (by kernel_rfl) (by kernel_rfl) (fun _ _ _ h => h) (Or.inr ⟨?_, rfl⟩) (by assumption) ?_; (rfl); try simp only [Act.put, List.setIfInBounds_toArray, List.set_cons_zero, List.set_cons_succ]) | (refine wpAnyH_take (i := 0) (v := ?_) (by exact gE rfl) (by kernel_rfl) (by kernel_rfl) (by kernel_rfl) (fun _ _ _ h => h) (Or.inl ⟨?_, ?_⟩) (by assumption) ?_; rotate_left; (rfl); (focus (intro w hSw; (try dsimp only at hSw); go_simp; try with_reducible rfl)); try simp only [Act.put, List.setIfInBounds_toArray, List.set_cons_zero, List.set_cons_succ])
    first | (refine wpAnyH_take (i := 1) (v := undef) (by exact gE rfl) (by kernel_rfl) (by kernel_rfl) (by kernel_rfl) (fun _ _ _ h => h) (Or.inr ⟨?_, rfl⟩) (by assumption) ?_; (rfl); try simp only [Act.put, List.setIfInBounds_toArray, List.set_cons_zero, List.set_cons_succ]) | (refine wpAnyH_take (i := 1) (v := ?_) (by exact gE rfl) (by kernel_rfl) (by kernel_rfl) (by kernel_rfl) (fun _ _ _ h => h) (Or.inl ⟨?_, ?_⟩) (by assumption) ?_; rotate_left; (rfl); (focus (intro w hSw; (try dsimp only at hSw); go_simp; try with_reducible rfl)); try simp only [Act.put, List.setIfInBounds_toArray, List.set_cons_zero, List.set_cons_succ])
    first | (refine wpAnyH_take (i := 2) (v := undef) (by exact gE rfl) (by kernel_rfl) (by kernel_rfl) (by kernel_rfl) (fun _ _ _ h => h) (Or.inr ⟨?_, rfl⟩) (by assumption) ?_; (rfl); try simp only [Act.put, List.setIfInBounds_toArray, List.set_cons_zero, List.set_cons_succ]) | (refine wpAnyH_take (i := 2) (v := ?_) (by exact gE rfl) (by kernel_rfl) (by kernel_rfl) (by kernel_rfl) (fun _ _ _ h => h) (Or.inl ⟨?_, ?_⟩) (by assumption) ?_; rotate_left; (rfl); (focus (intro w hSw; (try dsimp only at hSw); go_simp; try with_reducible rfl)); try simp only [Act.put, List.setIfInBounds_toArray, List.set_cons_zero, List.set_cons_succ])
    first | (refine wpAnyH_take (i := 3) (v := undef) (by exact gE rfl) (by kernel_rfl) (by kernel_rfl) (by kernel_rfl) (fun _ _ _ h => h) (Or.inr ⟨?_, rfl⟩) (by assumption) ?_; (rfl); try simp only [Act.put, List.setIfInBounds_toArray, List.set_cons_zero, List.set_cons_succ]) | (refine wpAnyH_take (i := 3) (v := ?_) (by exact gE rfl) (by kernel_rfl) (by kernel_rfl) (by kernel_rfl) (fun _ _ _ h => h) (Or.inl ⟨?_, ?_⟩) (by assumption) ?_; rotate_left; (rfl); (focus (intro W hSw; have hc0 := (show W.cell? ⟨T, 0, none⟩ = some (.pointer (some ⟨gw, 0, none⟩)) from (TB.out.kept hSw.1 (show ¬ (T = w.heap.size) by have := HTL.out; omega)).cell 0); clear hSw; go_simp; try with_reducible rfl)); try simp only [Act.put, List.setIfInBounds_toArray, List.set_cons_zero, List.set_cons_succ])
    (refine wpAnyH_take (i := 4) (v := o.a) (by exact gE rfl) (by kernel_rfl) (by kernel_rfl) (by kernel_rfl) (fun _ _ _ h => h) (yieldsIf_load_mid (by rfl) 49 (.tmp 3) (by rfl) (w.heap.size) (0) (by rfl) (o.cs.toList) _ (fun W hS => Bk.mid hS.2 0 _ rfl) Tryz.underlying49 (by rfl) (by kernel_rfl)) (by assumption) ?_; try simp only [Act.put, List.setIfInBounds_toArray, List.set_cons_zero, List.set_cons_succ])
    refine wpAnyH_ready (rs := [5]) (by kernel_rfl) (by simp) ?_
    refine AllReadyH.cons rfl (fun K hK => ?_) AllReadyH.nil
    go_simp
    refine (thrown_any o HOK.out (by rw [HK.out]; decide) _ _).mono ?_; rintro e w4 ⟨rfl, hb⟩
    replace hHeld := And.intro (hHeld.1.trans (Kept.below hb)) (hHeld.2.on hb)
    have Y4 := hidB hHeld.2
    clear hb
    refine hK.out _ _ hHeld (fun _ => ?_)
    clear hK K
    try simp only [Act.put, List.setIfInBounds_toArray, List.set_cons_zero, List.set_cons_succ]
    refine wpAnyH_ready (rs := [6]) (by kernel_rfl) (by simp) ?_
    refine AllReadyH.cons rfl (fun K hK => ?_) AllReadyH.nil
    rw [if_pos (by kernel_rfl)]
    refine wp_store_row 49 (.tmp 3) (.tmp 37) (by rfl) (w.heap.size) (o.cs) (by rfl) (by rfl) 49 (o.cs) (by exact Y4.out) (by kernel_rfl) (by rfl) (by exact OI.one _ HOK.out) ?_
    replace hHeld := And.intro (hHeld.1.setRow (g := w.heap.size) (.inl rfl) o.cs) (hHeld.2.setRow o.cs)
    refine put_none_K (by first | rfl | kernel_rfl) ?_
    refine hK.out _ _ hHeld (fun _ => ?_)
    clear hK K
    refine wpAnyH_done (by kernel_rfl) ?_ _
    refine NoPanic.normal ?_
    generalize hWn : (w4.setRow (w.heap.size) o.cs) = w5 at *
    clear hWn Y4
    have hk3 := hHeld.1
    replace Y := hidB hHeld.2
    replace R := hidB (R.out.kept hk3 (show ¬ (w.heap.size + 1 = w.heap.size) by have h1 := HTL.out; have h2 := HG5.out; omega))
    replace X5 := hidB (X5.out.kept hk3 (show ¬ (g5 = w.heap.size) by have h1 := HTL.out; have h2 := HG5.out; omega))
    replace TB := hidB (TB.out.kept hk3 (show ¬ (T = w.heap.size) by have h1 := HTL.out; have h2 := HG5.out; omega))
    replace HE := hidB (own_kept HE.out hk3 (fun k hk e => by have h1 := (HSL.out k hk).2; omega))
    replace KW := hidB (KW.out.fresh hk3 (Nat.le_refl _))
    replace HQW := hidB ((hk3.block gq HGQ1.out (by have := HGQ.out.2; omega)).trans HQW.out)
    replace HGQ1 := hidB (Nat.lt_of_lt_of_le HGQ1.out hk3.size)
    clear hk3 hHeld
    have HL5 := hidB (show w.heap.size + 2 ≤ w5.heap.size from R.out.lt)
    obtain ⟨i0, hi0, hz0, hz1, hz2⟩ := info_parts info_seen
    go_upto_region 4 with fail
    refine wp_region_noPanic ?_
    refine wp_region_held_drew (S := fun W => Kept (fun k => k = T ∨ (Value.slice qe sn ce).ownBlock = some k) w5 W) (by kernel_rfl) ?_ (fun hHeld => ?_)
    · exact (Kept.refl _ _).drew
    have TBc := hidB (show Bk w5.drew T 68 (tkC gw (.slice (some ⟨gq, 0, none⟩) n cs) mn bg fa flv wn ov hd (.slice qe sn ce)) from TB.out.drew)
    have HEc := hidB (show w5.drew.ownsRow B1 121 32 (.slice qe sn ce) sn ys from own_eq HE.out (fun _ _ => rfl))
    generalize hWd : w5.drew = wd at *
    clear hWd
    first | (refine wpAnyH_take (i := 0) (v := undef) (by exact gE rfl) (by kernel_rfl) (by kernel_rfl) (by kernel_rfl) (fun _ _ _ h => h) (Or.inr ⟨?_, rfl⟩) (by assumption) ?_; (rfl); try simp only [Act.put, List.setIfInBounds_toArray, List.set_cons_zero, List.set_cons_succ]) | (refine wpAnyH_take (i := 0) (v := ?_) (by exact gE rfl) (by kernel_rfl) (by kernel_rfl) (by kernel_rfl) (fun _ _ _ h => h) (Or.inl ⟨?_, ?_⟩) (by assumption) ?_; rotate_left; (rfl); (focus (intro w hSw; (try dsimp only at hSw); go_simp; try with_reducible rfl)); try simp only [Act.put, List.setIfInBounds_toArray, List.set_cons_zero, List.set_cons_succ])
    first | (refine wpAnyH_take (i := 1) (v := undef) (by exact gE rfl) (by kernel_rfl) (by kernel_rfl) (by kernel_rfl) (fun _ _ _ h => h) (Or.inr ⟨?_, rfl⟩) (by assumption) ?_; (rfl); try simp only [Act.put, List.setIfInBounds_toArray, List.set_cons_zero, List.set_cons_succ]) | (refine wpAnyH_take (i := 1) (v := ?_) (by exact gE rfl) (by kernel_rfl) (by kernel_rfl) (by kernel_rfl) (fun _ _ _ h => h) (Or.inl ⟨?_, ?_⟩) (by assumption) ?_; rotate_left; (rfl); (focus (intro w hSw; (try dsimp only at hSw); go_simp; try with_reducible rfl)); try simp only [Act.put, List.setIfInBounds_toArray, List.set_cons_zero, List.set_cons_succ])
    first | (refine wpAnyH_take (i := 2) (v := undef) (by exact gE rfl) (by kernel_rfl) (by kernel_rfl) (by kernel_rfl) (fun _ _ _ h => h) (Or.inr ⟨?_, rfl⟩) (by assumption) ?_; (rfl); try simp only [Act.put, List.setIfInBounds_toArray, List.set_cons_zero, List.set_cons_succ]) | (refine wpAnyH_take (i := 2) (v := ?_) (by exact gE rfl) (by kernel_rfl) (by kernel_rfl) (by kernel_rfl) (fun _ _ _ h => h) (Or.inl ⟨?_, ?_⟩) (by assumption) ?_; rotate_left; (rfl); (focus (intro w hSw; (try dsimp only at hSw); go_simp; try with_reducible rfl)); try simp only [Act.put, List.setIfInBounds_toArray, List.set_cons_zero, List.set_cons_succ])
    first | (refine wpAnyH_take (i := 3) (v := undef) (by exact gE rfl) (by kernel_rfl) (by kernel_rfl) (by kernel_rfl) (fun _ _ _ h => h) (Or.inr ⟨?_, rfl⟩) (by assumption) ?_; (rfl); try simp only [Act.put, List.setIfInBounds_toArray, List.set_cons_zero, List.set_cons_succ]) | (refine wpAnyH_take (i := 3) (v := ?_) (by exact gE rfl) (by kernel_rfl) (by kernel_rfl) (by kernel_rfl) (fun _ _ _ h => h) (Or.inl ⟨?_, ?_⟩) (by assumption) ?_; rotate_left; (rfl); (focus (intro w hSw; (try dsimp only at hSw); go_simp; try with_reducible rfl)); try simp only [Act.put, List.setIfInBounds_toArray, List.set_cons_zero, List.set_cons_succ])
    first | (refine wpAnyH_take (i := 5) (v := undef) (by exact gE rfl) (by kernel_rfl) (by kernel_rfl) (by kernel_rfl) (fun _ _ _ h => h) (Or.inr ⟨?_, rfl⟩) (by assumption) ?_; (rfl); try simp only [Act.put, List.setIfInBounds_toArray, List.set_cons_zero, List.set_cons_succ]) | (refine wpAnyH_take (i := 5) (v := ?_) (by exact gE rfl) (by kernel_rfl) (by kernel_rfl) (by kernel_rfl) (fun _ _ _ h => h) (Or.inl ⟨?_, ?_⟩) (by assumption) ?_; rotate_left; (rfl); (focus (intro w hSw; (try dsimp only at hSw); go_simp; try with_reducible rfl)); try simp only [Act.put, List.setIfInBounds_toArray, List.set_cons_zero, List.set_cons_succ])
    (refine wpAnyH_take (i := 6) (v := a.a) (by exact gE rfl) (by kernel_rfl) (by kernel_rfl) (by kernel_rfl) (fun _ _ _ h => h) (yieldsIf_load_mid (by rfl) 34 (.tmp 43) (by rfl) (g5) (1) (by rfl) (a.cs.toList) _ (fun W hS => Bk.mid (X5.out.kept hS (show ¬ (g5 = T ∨ (Value.slice qe sn ce).ownBlock = some (g5)) from fun e => e.elim (fun e => by have h1 := HTL.out; have h2 := HG5.out; omega) (fun e => by have h1 := (HSL.out _ e).2; have h2 := HG5.out; omega))) 1 _ rfl) Tryz.underlying34 (by rfl) (by kernel_rfl)) (by assumption) ?_; try simp only [Act.put, List.setIfInBounds_toArray, List.set_cons_zero, List.set_cons_succ])
    (refine wpAnyH_take (i := 7) (v := o.a) (by exact gE rfl) (by kernel_rfl) (by kernel_rfl) (by kernel_rfl) (fun _ _ _ h => h) (yieldsIf_load_mid (by rfl) 49 (.tmp 3) (by rfl) (w.heap.size) (0) (by rfl) (o.cs.toList) _ (fun W hS => Bk.mid (Y.out.kept hS (show ¬ (w.heap.size = T ∨ (Value.slice qe sn ce).ownBlock = some (w.heap.size)) from fun e => e.elim (fun e => by have h1 := HTL.out; have h2 := HG5.out; omega) (fun e => by have h1 := (HSL.out _ e).2; have h2 := HG5.out; omega))) 0 _ rfl) Tryz.underlying49 (by rfl) (by kernel_rfl)) (by assumption) ?_; try simp only [Act.put, List.setIfInBounds_toArray, List.set_cons_zero, List.set_cons_succ])
    first | (refine wpAnyH_take (i := 8) (v := undef) (by exact gE rfl) (by kernel_rfl) (by kernel_rfl) (by kernel_rfl) (fun _ _ _ h => h) (Or.inr ⟨?_, rfl⟩) (by assumption) ?_; (rfl); try simp only [Act.put, List.setIfInBounds_toArray, List.set_cons_zero, List.set_cons_succ]) | (refine wpAnyH_take (i := 8) (v := ?_) (by exact gE rfl) (by kernel_rfl) (by kernel_rfl) (by kernel_rfl) (fun _ _ _ h => h) (Or.inl ⟨?_, ?_⟩) (by assumption) ?_; rotate_left; (rfl); (focus (intro w hSw; (try dsimp only at hSw); go_simp; try with_reducible rfl)); try simp only [Act.put, List.setIfInBounds_toArray, List.set_cons_zero, List.set_cons_succ])
    first | (refine wpAnyH_take (i := 9) (v := undef) (by exact gE rfl) (by kernel_rfl) (by kernel_rfl) (by kernel_rfl) (fun _ _ _ h => h) (Or.inr ⟨?_, rfl⟩) (by assumption) ?_; (rfl); try simp only [Act.put, List.setIfInBounds_toArray, List.set_cons_zero, List.set_cons_succ]) | (refine wpAnyH_take (i := 9) (v := ?_) (by exact gE rfl) (by kernel_rfl) (by kernel_rfl) (by kernel_rfl) (fun _ _ _ h => h) (Or.inl ⟨?_, ?_⟩) (by assumption) ?_; rotate_left; (rfl); (focus (intro W hSw; have hc0 := (show W.cell? ⟨g5, 31, none⟩ = some (.int .i64 bg0) from (X5.out.kept hSw (show ¬ (g5 = T ∨ (Value.slice qe sn ce).ownBlock = some (g5)) from fun e => e.elim (fun e => by have h1 := HTL.out; have h2 := HG5.out; omega) (fun e => by have h1 := (HSL.out _ e).2; have h2 := HG5.out; omega))).cell 31); clear hSw; go_simp; try with_reducible rfl)); try simp only [Act.put, List.setIfInBounds_toArray, List.set_cons_zero, List.set_cons_succ])
    refine wpAnyH_ready (rs := [4, 10]) (by kernel_rfl) (by simp) ?_
    refine AllReadyH.cons rfl (fun K hK => ?_) ?_
    · skip
      have y1 : wd.cell? ⟨T, 37, none⟩ = some (.slice qe sn ce) := TBc.out.cell 37
      go_simp
      clear y1
      refine hK.out _ _ hHeld (fun _ => ?_)
      clear hK K
      try simp only [Act.put, List.setIfInBounds_toArray, List.set_cons_zero, List.set_cons_succ]
      refine wpAnyH_ready (rs := [10]) (by kernel_rfl) (by simp) ?_
      refine AllReadyH.cons rfl (fun K hK => ?_) AllReadyH.nil
      go_simp
      refine (entryM_any a HM.out o bg0 (by rw [HK.out]; decide) _).mono ?_; rintro e wE ⟨kk, rfl, hb⟩
      replace TBc := hidB (TBc.out.on hb)
      replace HEc := hidB (own_on HEc.out hb)
      replace hHeld := hHeld.trans (Kept.below hb)
      clear hb
      obtain ⟨tx, htx⟩ : ∃ q, toldI a.m o = q := ⟨_, rfl⟩
      have HTX := hidB htx
      have HSO := hidB (seen_one bg0 a kk tx (htx ▸ told_key a.m o))
      rw [htx]
      clear htx
      refine hK.out _ _ hHeld (fun _ => ?_)
      clear hK K
      try simp only [Act.put, List.setIfInBounds_toArray, List.set_cons_zero, List.set_cons_succ]
      refine wpAnyH_ready (rs := [11]) (by kernel_rfl) (by simp) ?_
      refine AllReadyH.cons rfl (fun K hK => ?_) AllReadyH.nil
      rw [if_pos (by kernel_rfl)]
      refine wp_buildSlice 52 121 1 32 _ (by rfl) [(0, .agg (seenC bg0 a kk tx))] (by kernel_rfl) (.agg #[.int .i64 0, .int .i64 0, .int .u8 0, .string ⟨#[]⟩, .int .i64 0, .bool false, .int .u8 0, .int .u8 0, .float .f64 0, .string ⟨#[]⟩, .int .i64 0, .bool false, .bool false, .int .u8 0, .int .u8 0, .float .f64 0, .string ⟨#[]⟩, .int .i64 0, .int .u8 0, .float .f64 0, .string ⟨#[]⟩, .int .i64 0, .int .u8 0, .float .f64 0, .string ⟨#[]⟩, .int .i64 0, .bool false, .bool false, .bool false, .slice none 0 0, .int .u8 0, .string ⟨#[]⟩]) (seenC bg0 a kk tx) Tryz.underlying52 (by kernel_rfl) (by decide) (by decide) (by kernel_rfl) ?_
      have HNB := hidB (Bk.new wE 121 (seenC bg0 a kk tx))
      replace TBc := hidB (TBc.out.alloc (.cells (seenC bg0 a kk tx) 121))
      replace HEc := hidB (own_on HEc.out (box_one wE (.cells (seenC bg0 a kk tx) 121)))
      have HGN := hidB hHeld.size
      replace hHeld := hHeld.alloc (.cells (seenC bg0 a kk tx) 121)
      refine hK.out _ _ hHeld (fun _ => ?_)
      clear hK K
      try simp only [Act.put, List.setIfInBounds_toArray, List.set_cons_zero, List.set_cons_succ]
      generalize hWn : (wE.alloc (.cells (seenC bg0 a kk tx) 121)) = wb at *
      clear hWn
      generalize hGn : wE.heap.size = gN at *
      clear hGn
      refine wpAnyH_ready (rs := [12]) (by kernel_rfl) (by simp) ?_
      refine AllReadyH.cons rfl (fun K hK => ?_) AllReadyH.nil
      rw [if_pos (by kernel_rfl)]
      refine wp_append_in (.tmp 42) (.tmp 49) 52 (by rfl) B1 121 i0 _ 32 296 Tryz.underlying52 hi0 hz0 hz1 hz2 (by rfl) (by decide) (.slice qe sn ce) sn _ (by rfl) HEc.out ⟨gN, 0, none⟩ 1 1 (seenC bg0 a kk tx).toList (by rfl) (by rfl) (bk_cells HNB.out) (fun u hu => (Array.all_eq_true_iff_forall_mem.1 HSO.out) u (Array.mem_toList_iff.1 hu)) (by unfold maxLen; have := HSN.out; omega) (by have := HSN.out; omega) (by have h1 := HNB.out.lt; have h2 := HGN.out; have h3 := HB1.out; have h4 := HTL.out; have h5 := HL5.out; omega) ?_
      intro v' w9 hown' hgrow hblk
      have HWB := hidB (show w5.heap.size ≤ wb.heap.size from hHeld.size)
      replace hHeld := hHeld.grown hgrow (fun k hk => .inl (.inr hk))
      replace TBc := hidB (Bk.grown TBc.out hgrow (fun h => HTS.out T h rfl))
      obtain ⟨q2, c2, rfl⟩ := own_slice hown'
      have HOWN := hidB hown'
      have HBLK := hidB hblk
      clear hown' hgrow hblk HEc HNB HGN
      refine hK.out _ _ hHeld (fun _ => ?_)
      clear hK K
      try simp only [Act.put, List.setIfInBounds_toArray, List.set_cons_zero, List.set_cons_succ]
      first | (refine wpAnyH_take (i := 13) (v := undef) (by exact gE rfl) (by kernel_rfl) (by kernel_rfl) (by kernel_rfl) (fun _ _ _ h => h) (Or.inr ⟨?_, rfl⟩) (by assumption) ?_; (rfl); try simp only [Act.put, List.setIfInBounds_toArray, List.set_cons_zero, List.set_cons_succ]) | (refine wpAnyH_take (i := 13) (v := ?_) (by exact gE rfl) (by kernel_rfl) (by kernel_rfl) (by kernel_rfl) (fun _ _ _ h => h) (Or.inl ⟨?_, ?_⟩) (by assumption) ?_; rotate_left; (rfl); (focus (intro w hSw; (try dsimp only at hSw); go_simp; try with_reducible rfl)); try simp only [Act.put, List.setIfInBounds_toArray, List.set_cons_zero, List.set_cons_succ])
      first | (refine wpAnyH_take (i := 14) (v := undef) (by exact gE rfl) (by kernel_rfl) (by kernel_rfl) (by kernel_rfl) (fun _ _ _ h => h) (Or.inr ⟨?_, rfl⟩) (by assumption) ?_; (rfl); try simp only [Act.put, List.setIfInBounds_toArray, List.set_cons_zero, List.set_cons_succ]) | (refine wpAnyH_take (i := 14) (v := ?_) (by exact gE rfl) (by kernel_rfl) (by kernel_rfl) (by kernel_rfl) (fun _ _ _ h => h) (Or.inl ⟨?_, ?_⟩) (by assumption) ?_; rotate_left; (rfl); (focus (intro w hSw; (try dsimp only at hSw); go_simp; try with_reducible rfl)); try simp only [Act.put, List.setIfInBounds_toArray, List.set_cons_zero, List.set_cons_succ])
      refine wpAnyH_ready (rs := [15]) (by kernel_rfl) (by simp) ?_
      refine AllReadyH.cons rfl (fun K hK => ?_) AllReadyH.nil
      have y1 : w9.cell? ⟨T, 37, none⟩ = some (.slice qe sn ce) := TBc.out.cell 37
      have f1 : w9.frozen? ⟨T, 37, none⟩ = false := TBc.out.free 37
      go_simp
      have HOWN2 := hidB (own_eq (w' := w9.setCell ⟨T, 37, none⟩ (.slice q2 (sn + 1) c2)) HOWN.out (fun k hk => Below.heap_setCell w9 _ _ k (own_neB HOWN.out TBc.out (by decide) hk)))
      replace TBc := hidB (TBc.out.set 37 (.slice q2 (sn + 1) c2))
      replace hHeld := hHeld.setCell (p := ⟨T, 37, none⟩) (.inl (.inl rfl)) (.slice q2 (sn + 1) c2)
      clear y1 f1 HOWN
      refine hK.out _ _ hHeld (fun _ => ?_)
      clear hK K
      try simp only [Act.put, List.setIfInBounds_toArray, List.set_cons_zero, List.set_cons_succ]
      refine wpAnyH_done (by kernel_rfl) ?_ _
      refine NoPanic.normal ?_
      generalize hWn : (w9.setCell ⟨T, 37, none⟩ (.slice q2 (sn + 1) c2)) = w10 at *
      clear hWn
      replace R := hidB (R.out.kept hHeld (show ¬ (w.heap.size + 1 = T ∨ (Value.slice qe sn ce).ownBlock = some (w.heap.size + 1)) from fun e => e.elim (fun e => by have h1 := HTL.out; have h2 := HG5.out; omega) (fun e => by have h1 := (HSL.out _ e).2; have h2 := HG5.out; omega)))
      replace X5 := hidB (X5.out.kept hHeld (show ¬ (g5 = T ∨ (Value.slice qe sn ce).ownBlock = some (g5)) from fun e => e.elim (fun e => by have h1 := HTL.out; have h2 := HG5.out; omega) (fun e => by have h1 := (HSL.out _ e).2; have h2 := HG5.out; omega)))
      replace Y := hidB (Y.out.kept hHeld (show ¬ (w.heap.size = T ∨ (Value.slice qe sn ce).ownBlock = some (w.heap.size)) from fun e => e.elim (fun e => by have h1 := HTL.out; have h2 := HG5.out; omega) (fun e => by have h1 := (HSL.out _ e).2; have h2 := HG5.out; omega)))
      replace KW := hidB (KW.out.trans hHeld)
      replace HQW := hidB ((hHeld.block gq HGQ1.out (fun e => e.elim (fun e => HTQ.out e) (fun e => HSQ.out e))).trans HQW.out)
      have HL10 := hidB (Nat.le_trans HL5.out hHeld.size)
      replace HGQ1 := hidB (Nat.lt_of_lt_of_le HGQ1.out hHeld.size)
      clear hHeld HE TB
      have t2 : w10.cell? ⟨T, 2, none⟩ = some (.int .i64 mn) := TBc.out.cell 2
      have tf : w10.frozen? ⟨T, 2, none⟩ = false := TBc.out.free 2
      go_upto_region 6 with fail
      have hfar : ∀ k, k ≠ T → (w10.setCell ⟨T, 2, none⟩ (.int .i64 (mn + 1))).heap[k]? = w10.heap[k]? := fun k hk => Below.heap_setCell w10 _ _ k hk
      replace R := hidB (show Bk (w10.setCell ⟨T, 2, none⟩ (.int .i64 (mn + 1))) (w.heap.size + 1) 49 (OI.zero.cs) from (hfar _ (by have h1 := HTL.out; have h2 := HG5.out; omega)).trans R.out)
      replace X5 := hidB (show Bk (w10.setCell ⟨T, 2, none⟩ (.int .i64 (mn + 1))) (g5) 95 ((entC iv a lv bg0)) from (hfar _ (by have h1 := HTL.out; have h2 := HG5.out; omega)).trans X5.out)
      replace Y := hidB (show Bk (w10.setCell ⟨T, 2, none⟩ (.int .i64 (mn + 1))) (w.heap.size) 49 (o.cs) from (hfar _ (by have h1 := HTL.out; have h2 := HG5.out; omega)).trans Y.out)
      replace HOWN2 := hidB (show (w10.setCell ⟨T, 2, none⟩ (.int .i64 (mn + 1))).ownsRow B1 121 32 (.slice q2 (sn + 1) c2) (sn + 1) (ys ++ (seenC bg0 a kk tx).toList) from own_eq HOWN2.out (fun k hk => hfar k (own_neB HOWN2.out TBc.out (by decide) hk)))
      replace TBc := hidB (show Bk (w10.setCell ⟨T, 2, none⟩ (.int .i64 (mn + 1))) T 68 (tkC gw (.slice (some ⟨gq, 0, none⟩) n cs) (mn + 1) bg fa flv wn ov hd (.slice q2 (sn + 1) c2)) from TBc.out.set 2 _)
      replace KW := hidB (show Kept (fun k => k = T ∨ (Value.slice qe sn ce).ownBlock = some k) w (w10.setCell ⟨T, 2, none⟩ (.int .i64 (mn + 1))) from KW.out.setCell (p := ⟨T, 2, none⟩) (.inl (.inl rfl)) _)
      replace HQW := hidB (show (w10.setCell ⟨T, 2, none⟩ (.int .i64 (mn + 1))).heap[gq]? = w.heap[gq]? from (hfar gq HTQ.out).trans HQW.out)
      clear t2 tf hfar
      generalize hW : (w10.setCell ⟨T, 2, none⟩ (.int .i64 (mn + 1))) = w11 at *
      clear hW
      have hgl := HGQ1.out
      have HTB := hidB TBc.out.lt
      have HRL := hidB R.out.lt
      have m1 : w11.cell? ⟨g5, 1, none⟩ = some (.int .u8 a.m) := X5.out.cell 1
      go_wp2_with (first | ((with_reducible refine ldId 49 (.tmp 3) ?_); refine wpList_load_row (by rfl) 49 (.tmp 3) (by rfl) (w.heap.size) (by rfl) 49 (o.cs) (0, 0) _ (by exact Y.out) Tryz.underlying49 (by rfl) (by kernel_rfl) ?_))
      refine (toldM_any a.m HM.out o (by rw [HK.out]; decide) _).mono ?_; rintro e w12 ⟨rfl, hb⟩
      have HB12 := hidB hb
      have HTK := hidB (told_key a.m o)
      replace R := hidB (R.out.on hb)
      replace TBc := hidB (TBc.out.on hb)
      replace HOWN2 := hidB (own_on HOWN2.out hb)
      replace KW := hidB (KW.out.trans (Kept.below hb))
      have HQ12 := hidB (show w12.heap[gq]? = w.heap[gq]? from (hb.block gq (by have h1 := HGQ.out.2; have h2 := HRL.out; omega)).trans HQW.out)
      clear hb HQW hgl
      go_wp2_with (first | ((with_reducible refine stId 49 (.tmp 4) (.tmp 64) ?_); refine wpList_store_row (by rfl) 49 (.tmp 4) (.tmp 64) (by rfl) (w.heap.size + 1) ((toldI a.m o).cs) (by rfl) (by rfl) 49 (OI.zero.cs) (by exact R.out) (by kernel_rfl) (by rfl) (by exact OI.one _ HTK.out) ?_))
      refine bodyPost_ret (v := .agg ((toldI a.m o).cs)) (results_cell_row Tryz.results40 _ _ (w.heap.size + 1) 49 ((toldI a.m o).cs) (0, 0) _ rfl (R.out.setRow _) Tryz.underlying49 rfl (by kernel_rfl)) rfl ?_
      exact ⟨.slice q2 (sn + 1) c2, _, rfl, TBc.out.setRow_far (by have := HTL.out; omega) _, HPOP.out (w12.setRow (w.heap.size + 1) (toldI a.m o).cs) ((heap_setRow w12 (by have := HGQ.out.2; omega) _).trans HQ12.out), own_eq HOWN2.out (fun k hk => heap_setRow _ (own_neB HOWN2.out R.out (by decide) hk) _), KW.out.setRow (g := w.heap.size + 1) (.inr (by omega)) _, fun k hk => (HBLK.out k hk).imp id (fun h => by have h1 := HWB.out; have h2 := HL5.out; omega)⟩
    refine AllReadyH.cons rfl (fun K hK => ?_) AllReadyH.nil
    go_simp
    refine (entryM_any a HM.out o bg0 (by rw [HK.out]; decide) _).mono ?_; rintro e wE ⟨kk, rfl, hb⟩
    replace TBc := hidB (TBc.out.on hb)
    replace HEc := hidB (own_on HEc.out hb)
    replace hHeld := hHeld.trans (Kept.below hb)
    clear hb
    obtain ⟨tx, htx⟩ : ∃ q, toldI a.m o = q := ⟨_, rfl⟩
    have HTX := hidB htx
    have HSO := hidB (seen_one bg0 a kk tx (htx ▸ told_key a.m o))
    rw [htx]
    clear htx
    refine hK.out _ _ hHeld (fun _ => ?_)
    clear hK K
    try simp only [Act.put, List.setIfInBounds_toArray, List.set_cons_zero, List.set_cons_succ]
    refine wpAnyH_ready (rs := [4, 11]) (by kernel_rfl) (by simp) ?_
    refine AllReadyH.cons rfl (fun K hK => ?_) ?_
    · skip
      have y1 : wE.cell? ⟨T, 37, none⟩ = some (.slice qe sn ce) := TBc.out.cell 37
      go_simp
      clear y1
      refine hK.out _ _ hHeld (fun _ => ?_)
      clear hK K
      try simp only [Act.put, List.setIfInBounds_toArray, List.set_cons_zero, List.set_cons_succ]
      refine wpAnyH_ready (rs := [11]) (by kernel_rfl) (by simp) ?_
      refine AllReadyH.cons rfl (fun K hK => ?_) AllReadyH.nil
      rw [if_pos (by kernel_rfl)]
      refine wp_buildSlice 52 121 1 32 _ (by rfl) [(0, .agg (seenC bg0 a kk tx))] (by kernel_rfl) (.agg #[.int .i64 0, .int .i64 0, .int .u8 0, .string ⟨#[]⟩, .int .i64 0, .bool false, .int .u8 0, .int .u8 0, .float .f64 0, .string ⟨#[]⟩, .int .i64 0, .bool false, .bool false, .int .u8 0, .int .u8 0, .float .f64 0, .string ⟨#[]⟩, .int .i64 0, .int .u8 0, .float .f64 0, .string ⟨#[]⟩, .int .i64 0, .int .u8 0, .float .f64 0, .string ⟨#[]⟩, .int .i64 0, .bool false, .bool false, .bool false, .slice none 0 0, .int .u8 0, .string ⟨#[]⟩]) (seenC bg0 a kk tx) Tryz.underlying52 (by kernel_rfl) (by decide) (by decide) (by kernel_rfl) ?_
      have HNB := hidB (Bk.new wE 121 (seenC bg0 a kk tx))
      replace TBc := hidB (TBc.out.alloc (.cells (seenC bg0 a kk tx) 121))
      replace HEc := hidB (own_on HEc.out (box_one wE (.cells (seenC bg0 a kk tx) 121)))
      have HGN := hidB hHeld.size
      replace hHeld := hHeld.alloc (.cells (seenC bg0 a kk tx) 121)
      refine hK.out _ _ hHeld (fun _ => ?_)
      clear hK K
      try simp only [Act.put, List.setIfInBounds_toArray, List.set_cons_zero, List.set_cons_succ]
      generalize hWn : (wE.alloc (.cells (seenC bg0 a kk tx) 121)) = wb at *
      clear hWn
      generalize hGn : wE.heap.size = gN at *
      clear hGn
      refine wpAnyH_ready (rs := [12]) (by kernel_rfl) (by simp) ?_
      refine AllReadyH.cons rfl (fun K hK => ?_) AllReadyH.nil
      rw [if_pos (by kernel_rfl)]
      refine wp_append_in (.tmp 42) (.tmp 49) 52 (by rfl) B1 121 i0 _ 32 296 Tryz.underlying52 hi0 hz0 hz1 hz2 (by rfl) (by decide) (.slice qe sn ce) sn _ (by rfl) HEc.out ⟨gN, 0, none⟩ 1 1 (seenC bg0 a kk tx).toList (by rfl) (by rfl) (bk_cells HNB.out) (fun u hu => (Array.all_eq_true_iff_forall_mem.1 HSO.out) u (Array.mem_toList_iff.1 hu)) (by unfold maxLen; have := HSN.out; omega) (by have := HSN.out; omega) (by have h1 := HNB.out.lt; have h2 := HGN.out; have h3 := HB1.out; have h4 := HTL.out; have h5 := HL5.out; omega) ?_
      intro v' w9 hown' hgrow hblk
      have HWB := hidB (show w5.heap.size ≤ wb.heap.size from hHeld.size)
      replace hHeld := hHeld.grown hgrow (fun k hk => .inl (.inr hk))
      replace TBc := hidB (Bk.grown TBc.out hgrow (fun h => HTS.out T h rfl))
      obtain ⟨q2, c2, rfl⟩ := own_slice hown'
      have HOWN := hidB hown'
      have HBLK := hidB hblk
      clear hown' hgrow hblk HEc HNB HGN
      refine hK.out _ _ hHeld (fun _ => ?_)
      clear hK K
      try simp only [Act.put, List.setIfInBounds_toArray, List.set_cons_zero, List.set_cons_succ]
      first | (refine wpAnyH_take (i := 13) (v := undef) (by exact gE rfl) (by kernel_rfl) (by kernel_rfl) (by kernel_rfl) (fun _ _ _ h => h) (Or.inr ⟨?_, rfl⟩) (by assumption) ?_; (rfl); try simp only [Act.put, List.setIfInBounds_toArray, List.set_cons_zero, List.set_cons_succ]) | (refine wpAnyH_take (i := 13) (v := ?_) (by exact gE rfl) (by kernel_rfl) (by kernel_rfl) (by kernel_rfl) (fun _ _ _ h => h) (Or.inl ⟨?_, ?_⟩) (by assumption) ?_; rotate_left; (rfl); (focus (intro w hSw; (try dsimp only at hSw); go_simp; try with_reducible rfl)); try simp only [Act.put, List.setIfInBounds_toArray, List.set_cons_zero, List.set_cons_succ])
      first | (refine wpAnyH_take (i := 14) (v := undef) (by exact gE rfl) (by kernel_rfl) (by kernel_rfl) (by kernel_rfl) (fun _ _ _ h => h) (Or.inr ⟨?_, rfl⟩) (by assumption) ?_; (rfl); try simp only [Act.put, List.setIfInBounds_toArray, List.set_cons_zero, List.set_cons_succ]) | (refine wpAnyH_take (i := 14) (v := ?_) (by exact gE rfl) (by kernel_rfl) (by kernel_rfl) (by kernel_rfl) (fun _ _ _ h => h) (Or.inl ⟨?_, ?_⟩) (by assumption) ?_; rotate_left; (rfl); (focus (intro w hSw; (try dsimp only at hSw); go_simp; try with_reducible rfl)); try simp only [Act.put, List.setIfInBounds_toArray, List.set_cons_zero, List.set_cons_succ])
      refine wpAnyH_ready (rs := [15]) (by kernel_rfl) (by simp) ?_
      refine AllReadyH.cons rfl (fun K hK => ?_) AllReadyH.nil
      have y1 : w9.cell? ⟨T, 37, none⟩ = some (.slice qe sn ce) := TBc.out.cell 37
      have f1 : w9.frozen? ⟨T, 37, none⟩ = false := TBc.out.free 37
      go_simp
      have HOWN2 := hidB (own_eq (w' := w9.setCell ⟨T, 37, none⟩ (.slice q2 (sn + 1) c2)) HOWN.out (fun k hk => Below.heap_setCell w9 _ _ k (own_neB HOWN.out TBc.out (by decide) hk)))
      replace TBc := hidB (TBc.out.set 37 (.slice q2 (sn + 1) c2))
      replace hHeld := hHeld.setCell (p := ⟨T, 37, none⟩) (.inl (.inl rfl)) (.slice q2 (sn + 1) c2)
      clear y1 f1 HOWN
      refine hK.out _ _ hHeld (fun _ => ?_)
      clear hK K
      try simp only [Act.put, List.setIfInBounds_toArray, List.set_cons_zero, List.set_cons_succ]
      refine wpAnyH_done (by kernel_rfl) ?_ _
      refine NoPanic.normal ?_
      generalize hWn : (w9.setCell ⟨T, 37, none⟩ (.slice q2 (sn + 1) c2)) = w10 at *
      clear hWn
      replace R := hidB (R.out.kept hHeld (show ¬ (w.heap.size + 1 = T ∨ (Value.slice qe sn ce).ownBlock = some (w.heap.size + 1)) from fun e => e.elim (fun e => by have h1 := HTL.out; have h2 := HG5.out; omega) (fun e => by have h1 := (HSL.out _ e).2; have h2 := HG5.out; omega)))
      replace X5 := hidB (X5.out.kept hHeld (show ¬ (g5 = T ∨ (Value.slice qe sn ce).ownBlock = some (g5)) from fun e => e.elim (fun e => by have h1 := HTL.out; have h2 := HG5.out; omega) (fun e => by have h1 := (HSL.out _ e).2; have h2 := HG5.out; omega)))
      replace Y := hidB (Y.out.kept hHeld (show ¬ (w.heap.size = T ∨ (Value.slice qe sn ce).ownBlock = some (w.heap.size)) from fun e => e.elim (fun e => by have h1 := HTL.out; have h2 := HG5.out; omega) (fun e => by have h1 := (HSL.out _ e).2; have h2 := HG5.out; omega)))
      replace KW := hidB (KW.out.trans hHeld)
      replace HQW := hidB ((hHeld.block gq HGQ1.out (fun e => e.elim (fun e => HTQ.out e) (fun e => HSQ.out e))).trans HQW.out)
      have HL10 := hidB (Nat.le_trans HL5.out hHeld.size)
      replace HGQ1 := hidB (Nat.lt_of_lt_of_le HGQ1.out hHeld.size)
      clear hHeld HE TB
      have t2 : w10.cell? ⟨T, 2, none⟩ = some (.int .i64 mn) := TBc.out.cell 2
      have tf : w10.frozen? ⟨T, 2, none⟩ = false := TBc.out.free 2
      go_upto_region 6 with fail
      have hfar : ∀ k, k ≠ T → (w10.setCell ⟨T, 2, none⟩ (.int .i64 (mn + 1))).heap[k]? = w10.heap[k]? := fun k hk => Below.heap_setCell w10 _ _ k hk
      replace R := hidB (show Bk (w10.setCell ⟨T, 2, none⟩ (.int .i64 (mn + 1))) (w.heap.size + 1) 49 (OI.zero.cs) from (hfar _ (by have h1 := HTL.out; have h2 := HG5.out; omega)).trans R.out)
      replace X5 := hidB (show Bk (w10.setCell ⟨T, 2, none⟩ (.int .i64 (mn + 1))) (g5) 95 ((entC iv a lv bg0)) from (hfar _ (by have h1 := HTL.out; have h2 := HG5.out; omega)).trans X5.out)
      replace Y := hidB (show Bk (w10.setCell ⟨T, 2, none⟩ (.int .i64 (mn + 1))) (w.heap.size) 49 (o.cs) from (hfar _ (by have h1 := HTL.out; have h2 := HG5.out; omega)).trans Y.out)
      replace HOWN2 := hidB (show (w10.setCell ⟨T, 2, none⟩ (.int .i64 (mn + 1))).ownsRow B1 121 32 (.slice q2 (sn + 1) c2) (sn + 1) (ys ++ (seenC bg0 a kk tx).toList) from own_eq HOWN2.out (fun k hk => hfar k (own_neB HOWN2.out TBc.out (by decide) hk)))
      replace TBc := hidB (show Bk (w10.setCell ⟨T, 2, none⟩ (.int .i64 (mn + 1))) T 68 (tkC gw (.slice (some ⟨gq, 0, none⟩) n cs) (mn + 1) bg fa flv wn ov hd (.slice q2 (sn + 1) c2)) from TBc.out.set 2 _)
      replace KW := hidB (show Kept (fun k => k = T ∨ (Value.slice qe sn ce).ownBlock = some k) w (w10.setCell ⟨T, 2, none⟩ (.int .i64 (mn + 1))) from KW.out.setCell (p := ⟨T, 2, none⟩) (.inl (.inl rfl)) _)
      replace HQW := hidB (show (w10.setCell ⟨T, 2, none⟩ (.int .i64 (mn + 1))).heap[gq]? = w.heap[gq]? from (hfar gq HTQ.out).trans HQW.out)
      clear t2 tf hfar
      generalize hW : (w10.setCell ⟨T, 2, none⟩ (.int .i64 (mn + 1))) = w11 at *
      clear hW
      have hgl := HGQ1.out
      have HTB := hidB TBc.out.lt
      have HRL := hidB R.out.lt
      have m1 : w11.cell? ⟨g5, 1, none⟩ = some (.int .u8 a.m) := X5.out.cell 1
      go_wp2_with (first | ((with_reducible refine ldId 49 (.tmp 3) ?_); refine wpList_load_row (by rfl) 49 (.tmp 3) (by rfl) (w.heap.size) (by rfl) 49 (o.cs) (0, 0) _ (by exact Y.out) Tryz.underlying49 (by rfl) (by kernel_rfl) ?_))
      refine (toldM_any a.m HM.out o (by rw [HK.out]; decide) _).mono ?_; rintro e w12 ⟨rfl, hb⟩
      have HB12 := hidB hb
      have HTK := hidB (told_key a.m o)
      replace R := hidB (R.out.on hb)
      replace TBc := hidB (TBc.out.on hb)
      replace HOWN2 := hidB (own_on HOWN2.out hb)
      replace KW := hidB (KW.out.trans (Kept.below hb))
      have HQ12 := hidB (show w12.heap[gq]? = w.heap[gq]? from (hb.block gq (by have h1 := HGQ.out.2; have h2 := HRL.out; omega)).trans HQW.out)
      clear hb HQW hgl
      go_wp2_with (first | ((with_reducible refine stId 49 (.tmp 4) (.tmp 64) ?_); refine wpList_store_row (by rfl) 49 (.tmp 4) (.tmp 64) (by rfl) (w.heap.size + 1) ((toldI a.m o).cs) (by rfl) (by rfl) 49 (OI.zero.cs) (by exact R.out) (by kernel_rfl) (by rfl) (by exact OI.one _ HTK.out) ?_))
      refine bodyPost_ret (v := .agg ((toldI a.m o).cs)) (results_cell_row Tryz.results40 _ _ (w.heap.size + 1) 49 ((toldI a.m o).cs) (0, 0) _ rfl (R.out.setRow _) Tryz.underlying49 rfl (by kernel_rfl)) rfl ?_
      exact ⟨.slice q2 (sn + 1) c2, _, rfl, TBc.out.setRow_far (by have := HTL.out; omega) _, HPOP.out (w12.setRow (w.heap.size + 1) (toldI a.m o).cs) ((heap_setRow w12 (by have := HGQ.out.2; omega) _).trans HQ12.out), own_eq HOWN2.out (fun k hk => heap_setRow _ (own_neB HOWN2.out R.out (by decide) hk) _), KW.out.setRow (g := w.heap.size + 1) (.inr (by omega)) _, fun k hk => (HBLK.out k hk).imp id (fun h => by have h1 := HWB.out; have h2 := HL5.out; omega)⟩
    refine AllReadyH.cons rfl (fun K hK => ?_) AllReadyH.nil
    rw [if_pos (by kernel_rfl)]
    refine wp_buildSlice 52 121 1 32 _ (by rfl) [(0, .agg (seenC bg0 a kk tx))] (by kernel_rfl) (.agg #[.int .i64 0, .int .i64 0, .int .u8 0, .string ⟨#[]⟩, .int .i64 0, .bool false, .int .u8 0, .int .u8 0, .float .f64 0, .string ⟨#[]⟩, .int .i64 0, .bool false, .bool false, .int .u8 0, .int .u8 0, .float .f64 0, .string ⟨#[]⟩, .int .i64 0, .int .u8 0, .float .f64 0, .string ⟨#[]⟩, .int .i64 0, .int .u8 0, .float .f64 0, .string ⟨#[]⟩, .int .i64 0, .bool false, .bool false, .bool false, .slice none 0 0, .int .u8 0, .string ⟨#[]⟩]) (seenC bg0 a kk tx) Tryz.underlying52 (by kernel_rfl) (by decide) (by decide) (by kernel_rfl) ?_
    have HNB := hidB (Bk.new wE 121 (seenC bg0 a kk tx))
    replace TBc := hidB (TBc.out.alloc (.cells (seenC bg0 a kk tx) 121))
    replace HEc := hidB (own_on HEc.out (box_one wE (.cells (seenC bg0 a kk tx) 121)))
    have HGN := hidB hHeld.size
    replace hHeld := hHeld.alloc (.cells (seenC bg0 a kk tx) 121)
    refine hK.out _ _ hHeld (fun _ => ?_)
    clear hK K
    try simp only [Act.put, List.setIfInBounds_toArray, List.set_cons_zero, List.set_cons_succ]
    generalize hWn : (wE.alloc (.cells (seenC bg0 a kk tx) 121)) = wb at *
    clear hWn
    generalize hGn : wE.heap.size = gN at *
    clear hGn
    refine wpAnyH_ready (rs := [4]) (by kernel_rfl) (by simp) ?_
    refine AllReadyH.cons rfl (fun K hK => ?_) AllReadyH.nil
    have y1 : wb.cell? ⟨T, 37, none⟩ = some (.slice qe sn ce) := TBc.out.cell 37
    go_simp
    clear y1
    refine hK.out _ _ hHeld (fun _ => ?_)
    clear hK K
    try simp only [Act.put, List.setIfInBounds_toArray, List.set_cons_zero, List.set_cons_succ]
    refine wpAnyH_ready (rs := [12]) (by kernel_rfl) (by simp) ?_
    refine AllReadyH.cons rfl (fun K hK => ?_) AllReadyH.nil
    rw [if_pos (by kernel_rfl)]
    refine wp_append_in (.tmp 42) (.tmp 49) 52 (by rfl) B1 121 i0 _ 32 296 Tryz.underlying52 hi0 hz0 hz1 hz2 (by rfl) (by decide) (.slice qe sn ce) sn _ (by rfl) HEc.out ⟨gN, 0, none⟩ 1 1 (seenC bg0 a kk tx).toList (by rfl) (by rfl) (bk_cells HNB.out) (fun u hu => (Array.all_eq_true_iff_forall_mem.1 HSO.out) u (Array.mem_toList_iff.1 hu)) (by unfold maxLen; have := HSN.out; omega) (by have := HSN.out; omega) (by have h1 := HNB.out.lt; have h2 := HGN.out; have h3 := HB1.out; have h4 := HTL.out; have h5 := HL5.out; omega) ?_
    intro v' w9 hown' hgrow hblk
    have HWB := hidB (show w5.heap.size ≤ wb.heap.size from hHeld.size)
    replace hHeld := hHeld.grown hgrow (fun k hk => .inl (.inr hk))
    replace TBc := hidB (Bk.grown TBc.out hgrow (fun h => HTS.out T h rfl))
    obtain ⟨q2, c2, rfl⟩ := own_slice hown'
    have HOWN := hidB hown'
    have HBLK := hidB hblk
    clear hown' hgrow hblk HEc HNB HGN
    refine hK.out _ _ hHeld (fun _ => ?_)
    clear hK K
    try simp only [Act.put, List.setIfInBounds_toArray, List.set_cons_zero, List.set_cons_succ]
    first | (refine wpAnyH_take (i := 13) (v := undef) (by exact gE rfl) (by kernel_rfl) (by kernel_rfl) (by kernel_rfl) (fun _ _ _ h => h) (Or.inr ⟨?_, rfl⟩) (by assumption) ?_; (rfl); try simp only [Act.put, List.setIfInBounds_toArray, List.set_cons_zero, List.set_cons_succ]) | (refine wpAnyH_take (i := 13) (v := ?_) (by exact gE rfl) (by kernel_rfl) (by kernel_rfl) (by kernel_rfl) (fun _ _ _ h => h) (Or.inl ⟨?_, ?_⟩) (by assumption) ?_; rotate_left; (rfl); (focus (intro w hSw; (try dsimp only at hSw); go_simp; try with_reducible rfl)); try simp only [Act.put, List.setIfInBounds_toArray, List.set_cons_zero, List.set_cons_succ])
    first | (refine wpAnyH_take (i := 14) (v := undef) (by exact gE rfl) (by kernel_rfl) (by kernel_rfl) (by kernel_rfl) (fun _ _ _ h => h) (Or.inr ⟨?_, rfl⟩) (by assumption) ?_; (rfl); try simp only [Act.put, List.setIfInBounds_toArray, List.set_cons_zero, List.set_cons_succ]) | (refine wpAnyH_take (i := 14) (v := ?_) (by exact gE rfl) (by kernel_rfl) (by kernel_rfl) (by kernel_rfl) (fun _ _ _ h => h) (Or.inl ⟨?_, ?_⟩) (by assumption) ?_; rotate_left; (rfl); (focus (intro w hSw; (try dsimp only at hSw); go_simp; try with_reducible rfl)); try simp only [Act.put, List.setIfInBounds_toArray, List.set_cons_zero, List.set_cons_succ])
    refine wpAnyH_ready (rs := [15]) (by kernel_rfl) (by simp) ?_
    refine AllReadyH.cons rfl (fun K hK => ?_) AllReadyH.nil
    have y1 : w9.cell? ⟨T, 37, none⟩ = some (.slice qe sn ce) := TBc.out.cell 37
    have f1 : w9.frozen? ⟨T, 37, none⟩ = false := TBc.out.free 37
    go_simp
    have HOWN2 := hidB (own_eq (w' := w9.setCell ⟨T, 37, none⟩ (.slice q2 (sn + 1) c2)) HOWN.out (fun k hk => Below.heap_setCell w9 _ _ k (own_neB HOWN.out TBc.out (by decide) hk)))
    replace TBc := hidB (TBc.out.set 37 (.slice q2 (sn + 1) c2))
    replace hHeld := hHeld.setCell (p := ⟨T, 37, none⟩) (.inl (.inl rfl)) (.slice q2 (sn + 1) c2)
    clear y1 f1 HOWN
    refine hK.out _ _ hHeld (fun _ => ?_)
    clear hK K
    try simp only [Act.put, List.setIfInBounds_toArray, List.set_cons_zero, List.set_cons_succ]
    refine wpAnyH_done (by kernel_rfl) ?_ _
    refine NoPanic.normal ?_
    generalize hWn : (w9.setCell ⟨T, 37, none⟩ (.slice q2 (sn + 1) c2)) = w10 at *
    clear hWn
    replace R := hidB (R.out.kept hHeld (show ¬ (w.heap.size + 1 = T ∨ (Value.slice qe sn ce).ownBlock = some (w.heap.size + 1)) from fun e => e.elim (fun e => by have h1 := HTL.out; have h2 := HG5.out; omega) (fun e => by have h1 := (HSL.out _ e).2; have h2 := HG5.out; omega)))
    replace X5 := hidB (X5.out.kept hHeld (show ¬ (g5 = T ∨ (Value.slice qe sn ce).ownBlock = some (g5)) from fun e => e.elim (fun e => by have h1 := HTL.out; have h2 := HG5.out; omega) (fun e => by have h1 := (HSL.out _ e).2; have h2 := HG5.out; omega)))
    replace Y := hidB (Y.out.kept hHeld (show ¬ (w.heap.size = T ∨ (Value.slice qe sn ce).ownBlock = some (w.heap.size)) from fun e => e.elim (fun e => by have h1 := HTL.out; have h2 := HG5.out; omega) (fun e => by have h1 := (HSL.out _ e).2; have h2 := HG5.out; omega)))
    replace KW := hidB (KW.out.trans hHeld)
    replace HQW := hidB ((hHeld.block gq HGQ1.out (fun e => e.elim (fun e => HTQ.out e) (fun e => HSQ.out e))).trans HQW.out)
    have HL10 := hidB (Nat.le_trans HL5.out hHeld.size)
    replace HGQ1 := hidB (Nat.lt_of_lt_of_le HGQ1.out hHeld.size)
    clear hHeld HE TB
    have t2 : w10.cell? ⟨T, 2, none⟩ = some (.int .i64 mn) := TBc.out.cell 2
    have tf : w10.frozen? ⟨T, 2, none⟩ = false := TBc.out.free 2
    go_upto_region 6 with fail
    have hfar : ∀ k, k ≠ T → (w10.setCell ⟨T, 2, none⟩ (.int .i64 (mn + 1))).heap[k]? = w10.heap[k]? := fun k hk => Below.heap_setCell w10 _ _ k hk
    replace R := hidB (show Bk (w10.setCell ⟨T, 2, none⟩ (.int .i64 (mn + 1))) (w.heap.size + 1) 49 (OI.zero.cs) from (hfar _ (by have h1 := HTL.out; have h2 := HG5.out; omega)).trans R.out)
    replace X5 := hidB (show Bk (w10.setCell ⟨T, 2, none⟩ (.int .i64 (mn + 1))) (g5) 95 ((entC iv a lv bg0)) from (hfar _ (by have h1 := HTL.out; have h2 := HG5.out; omega)).trans X5.out)
    replace Y := hidB (show Bk (w10.setCell ⟨T, 2, none⟩ (.int .i64 (mn + 1))) (w.heap.size) 49 (o.cs) from (hfar _ (by have h1 := HTL.out; have h2 := HG5.out; omega)).trans Y.out)
    replace HOWN2 := hidB (show (w10.setCell ⟨T, 2, none⟩ (.int .i64 (mn + 1))).ownsRow B1 121 32 (.slice q2 (sn + 1) c2) (sn + 1) (ys ++ (seenC bg0 a kk tx).toList) from own_eq HOWN2.out (fun k hk => hfar k (own_neB HOWN2.out TBc.out (by decide) hk)))
    replace TBc := hidB (show Bk (w10.setCell ⟨T, 2, none⟩ (.int .i64 (mn + 1))) T 68 (tkC gw (.slice (some ⟨gq, 0, none⟩) n cs) (mn + 1) bg fa flv wn ov hd (.slice q2 (sn + 1) c2)) from TBc.out.set 2 _)
    replace KW := hidB (show Kept (fun k => k = T ∨ (Value.slice qe sn ce).ownBlock = some k) w (w10.setCell ⟨T, 2, none⟩ (.int .i64 (mn + 1))) from KW.out.setCell (p := ⟨T, 2, none⟩) (.inl (.inl rfl)) _)
    replace HQW := hidB (show (w10.setCell ⟨T, 2, none⟩ (.int .i64 (mn + 1))).heap[gq]? = w.heap[gq]? from (hfar gq HTQ.out).trans HQW.out)
    clear t2 tf hfar
    generalize hW : (w10.setCell ⟨T, 2, none⟩ (.int .i64 (mn + 1))) = w11 at *
    clear hW
    have hgl := HGQ1.out
    have HTB := hidB TBc.out.lt
    have HRL := hidB R.out.lt
    have m1 : w11.cell? ⟨g5, 1, none⟩ = some (.int .u8 a.m) := X5.out.cell 1
    go_wp2_with (first | ((with_reducible refine ldId 49 (.tmp 3) ?_); refine wpList_load_row (by rfl) 49 (.tmp 3) (by rfl) (w.heap.size) (by rfl) 49 (o.cs) (0, 0) _ (by exact Y.out) Tryz.underlying49 (by rfl) (by kernel_rfl) ?_))
    refine (toldM_any a.m HM.out o (by rw [HK.out]; decide) _).mono ?_; rintro e w12 ⟨rfl, hb⟩
    have HB12 := hidB hb
    have HTK := hidB (told_key a.m o)
    replace R := hidB (R.out.on hb)
    replace TBc := hidB (TBc.out.on hb)
    replace HOWN2 := hidB (own_on HOWN2.out hb)
    replace KW := hidB (KW.out.trans (Kept.below hb))
    have HQ12 := hidB (show w12.heap[gq]? = w.heap[gq]? from (hb.block gq (by have h1 := HGQ.out.2; have h2 := HRL.out; omega)).trans HQW.out)
    clear hb HQW hgl
    go_wp2_with (first | ((with_reducible refine stId 49 (.tmp 4) (.tmp 64) ?_); refine wpList_store_row (by rfl) 49 (.tmp 4) (.tmp 64) (by rfl) (w.heap.size + 1) ((toldI a.m o).cs) (by rfl) (by rfl) 49 (OI.zero.cs) (by exact R.out) (by kernel_rfl) (by rfl) (by exact OI.one _ HTK.out) ?_))
    refine bodyPost_ret (v := .agg ((toldI a.m o).cs)) (results_cell_row Tryz.results40 _ _ (w.heap.size + 1) 49 ((toldI a.m o).cs) (0, 0) _ rfl (R.out.setRow _) Tryz.underlying49 rfl (by kernel_rfl)) rfl ?_
    exact ⟨.slice q2 (sn + 1) c2, _, rfl, TBc.out.setRow_far (by have := HTL.out; omega) _, HPOP.out (w12.setRow (w.heap.size + 1) (toldI a.m o).cs) ((heap_setRow w12 (by have := HGQ.out.2; omega) _).trans HQ12.out), own_eq HOWN2.out (fun k hk => heap_setRow _ (own_neB HOWN2.out R.out (by decide) hk) _), KW.out.setRow (g := w.heap.size + 1) (.inr (by omega)) _, fun k hk => (HBLK.out k hk).imp id (fun h => by have h1 := HWB.out; have h2 := HL5.out; omega)⟩
  refine AllReadyH.cons rfl (fun K hK => ?_) AllReadyH.nil
  have y1 : wd.cell? ⟨T, 1, none⟩ = some (.slice (some ⟨gq, 0, none⟩) (n + 1) cs) := TBd.out.cell 1
  go_simp
  clear y1
  refine hK.out _ _ hHeld (fun _ => ?_)
  clear hK K
  try simp only [Act.put, List.setIfInBounds_toArray, List.set_cons_zero, List.set_cons_succ]
  first | (refine wpAnyH_take (i := 9) (v := undef) (by exact gE rfl) (by kernel_rfl) (by kernel_rfl) (by kernel_rfl) (fun _ _ _ h => h) (Or.inr ⟨?_, rfl⟩) (by assumption) ?_; (rfl); try simp only [Act.put, List.setIfInBounds_toArray, List.set_cons_zero, List.set_cons_succ]) | (refine wpAnyH_take (i := 9) (v := ?_) (by exact gE rfl) (by kernel_rfl) (by kernel_rfl) (by kernel_rfl) (fun _ _ _ h => h) (Or.inl ⟨?_, ?_⟩) (by assumption) ?_; rotate_left; (rfl); (focus (intro w hSw; (try dsimp only at hSw); go_simp; try with_reducible rfl)); try simp only [Act.put, List.setIfInBounds_toArray, List.set_cons_zero, List.set_cons_succ])
  first | (refine wpAnyH_take (i := 10) (v := undef) (by exact gE rfl) (by kernel_rfl) (by kernel_rfl) (by kernel_rfl) (fun _ _ _ h => h) (Or.inr ⟨?_, rfl⟩) (by assumption) ?_; (rfl); try simp only [Act.put, List.setIfInBounds_toArray, List.set_cons_zero, List.set_cons_succ]) | (refine wpAnyH_take (i := 10) (v := ?_) (by exact gE rfl) (by kernel_rfl) (by kernel_rfl) (by kernel_rfl) (fun _ _ _ h => h) (Or.inl ⟨?_, ?_⟩) (by assumption) ?_; rotate_left; (rfl); (focus (intro w hSw; (try dsimp only at hSw); go_simp; try with_reducible rfl)); try simp only [Act.put, List.setIfInBounds_toArray, List.set_cons_zero, List.set_cons_succ])
  refine wpAnyH_ready (rs := [4]) (by kernel_rfl) (by simp) ?_
  refine AllReadyH.cons rfl (fun K hK => ?_) AllReadyH.nil
  have y1 : wd.cell? ⟨T, 1, none⟩ = some (.slice (some ⟨gq, 0, none⟩) (n + 1) cs) := TBd.out.cell 1
  go_simp
  clear y1
  refine hK.out _ _ hHeld (fun _ => ?_)
  clear hK K
  try simp only [Act.put, List.setIfInBounds_toArray, List.set_cons_zero, List.set_cons_succ]
  first | (refine wpAnyH_take (i := 11) (v := undef) (by exact gE rfl) (by kernel_rfl) (by kernel_rfl) (by kernel_rfl) (fun _ _ _ h => h) (Or.inr ⟨?_, rfl⟩) (by assumption) ?_; (rfl); try simp only [Act.put, List.setIfInBounds_toArray, List.set_cons_zero, List.set_cons_succ]) | (refine wpAnyH_take (i := 11) (v := ?_) (by exact gE rfl) (by kernel_rfl) (by kernel_rfl) (by kernel_rfl) (fun _ _ _ h => h) (Or.inl ⟨?_, ?_⟩) (by assumption) ?_; rotate_left; (rfl); (focus (intro w hSw; (try dsimp only at hSw); go_simp; try with_reducible rfl)); try simp only [Act.put, List.setIfInBounds_toArray, List.set_cons_zero, List.set_cons_succ])
  first | (refine wpAnyH_take (i := 12) (v := undef) (by exact gE rfl) (by kernel_rfl) (by kernel_rfl) (by kernel_rfl) (fun _ _ _ h => h) (Or.inr ⟨?_, rfl⟩) (by assumption) ?_; (rfl); try simp only [Act.put, List.setIfInBounds_toArray, List.set_cons_zero, List.set_cons_succ]) | (refine wpAnyH_take (i := 12) (v := ?_) (by exact gE rfl) (by kernel_rfl) (by kernel_rfl) (by kernel_rfl) (fun _ _ _ h => h) (Or.inl ⟨?_, ?_⟩) (by assumption) ?_; rotate_left; (rfl); (focus (intro w hSw; (try dsimp only at hSw); go_simp; try with_reducible rfl)); try simp only [Act.put, List.setIfInBounds_toArray, List.set_cons_zero, List.set_cons_succ])
  first | (refine wpAnyH_take (i := 13) (v := undef) (by exact gE rfl) (by kernel_rfl) (by kernel_rfl) (by kernel_rfl) (fun _ _ _ h => h) (Or.inr ⟨?_, rfl⟩) (by assumption) ?_; (rfl); try simp only [Act.put, List.setIfInBounds_toArray, List.set_cons_zero, List.set_cons_succ]) | (refine wpAnyH_take (i := 13) (v := ?_) (by exact gE rfl) (by kernel_rfl) (by kernel_rfl) (by kernel_rfl) (fun _ _ _ h => h) (Or.inl ⟨?_, ?_⟩) (by assumption) ?_; rotate_left; (rfl); (focus (intro w hSw; (try dsimp only at hSw); go_simp; try with_reducible rfl)); try simp only [Act.put, List.setIfInBounds_toArray, List.set_cons_zero, List.set_cons_succ])
  refine wpAnyH_ready (rs := [14]) (by kernel_rfl) (by simp) ?_
  refine AllReadyH.cons rfl (fun K hK => ?_) AllReadyH.nil
  have y1 : wd.cell? ⟨T, 1, none⟩ = some (.slice (some ⟨gq, 0, none⟩) (n + 1) cs) := TBd.out.cell 1
  have f1 : wd.frozen? ⟨T, 1, none⟩ = false := TBd.out.free 1
  go_simp
  replace TBd := hidB (TBd.out.set 1 (.slice (some ⟨gq, 0, none⟩) n cs))
  have HFT := hidB (fun k (hk : k ≠ T) => Below.heap_setCell wd ⟨T, 1, none⟩ (.slice (some ⟨gq, 0, none⟩) n cs) k hk)
  replace hHeld := hHeld.setCell (p := ⟨T, 1, none⟩) (.inl rfl) (.slice (some ⟨gq, 0, none⟩) n cs)
  clear y1 f1
  refine hK.out _ _ hHeld (fun _ => ?_)
  clear hK K
  try simp only [Act.put, List.setIfInBounds_toArray, List.set_cons_zero, List.set_cons_succ]
  refine wpAnyH_done (by kernel_rfl) ?_ _
  refine NoPanic.normal ?_
  generalize hWn : (wd.setCell ⟨T, 1, none⟩ (.slice (some ⟨gq, 0, none⟩) n cs)) = w3 at *
  clear hWn
  replace TB := TBd
  replace Y := hidB (Y.out.kept hHeld (show ¬ (w.heap.size = T) by have h1 := HTL.out; have h2 := HG5.out; omega))
  replace R := hidB (R.out.kept hHeld (show ¬ (w.heap.size + 1 = T) by have h1 := HTL.out; have h2 := HG5.out; omega))
  replace X5 := hidB (X5.out.kept hHeld (show ¬ (g5 = T) by have h1 := HTL.out; have h2 := HG5.out; omega))
  replace HE := hidB (own_kept HE.out hHeld (fun k hk e => HTS.out k hk e))
  replace KW := hidB (KW.out.trans (hHeld.wider (fun _ _ h => .inl h)))
  replace HQW := hidB ((hHeld.block gq HGQ1.out HTQ.out).trans HQW.out)
  replace HGQ1 := hidB (Nat.lt_of_lt_of_le HGQ1.out hHeld.size)
  clear hHeld HFT
  go_upto_region 3 with fail
  refine wp_region_noPanic ?_
  refine wp_region_held_drew (S := fun W => Kept (fun k => k = w.heap.size) w3 W ∧ Bk W (w.heap.size) 49 o.cs) (by kernel_rfl) ?_ (fun hHeld => ?_)
  · exact ⟨(Kept.refl _ _).drew, Y.out.drew⟩
  generalize hWd : w3.drew = wd at *
  clear hWd
  first | (refine wpAnyH_take (i := 0) (v := undef) (by exact gE rfl) (by kernel_rfl) (by kernel_rfl) (by kernel_rfl) (fun _ _ _ h => h) (Or.inr ⟨?_, rfl⟩) (by assumption) ?_; (rfl); try simp only [Act.put, List.setIfInBounds_toArray, List.set_cons_zero, List.set_cons_succ]) | (refine wpAnyH_take (i := 0) (v := ?_) (by exact gE rfl) (by kernel_rfl) (by kernel_rfl) (by kernel_rfl) (fun _ _ _ h => h) (Or.inl ⟨?_, ?_⟩) (by assumption) ?_; rotate_left; (rfl); (focus (intro w hSw; (try dsimp only at hSw); go_simp; try with_reducible rfl)); try simp only [Act.put, List.setIfInBounds_toArray, List.set_cons_zero, List.set_cons_succ])
  first | (refine wpAnyH_take (i := 1) (v := undef) (by exact gE rfl) (by kernel_rfl) (by kernel_rfl) (by kernel_rfl) (fun _ _ _ h => h) (Or.inr ⟨?_, rfl⟩) (by assumption) ?_; (rfl); try simp only [Act.put, List.setIfInBounds_toArray, List.set_cons_zero, List.set_cons_succ]) | (refine wpAnyH_take (i := 1) (v := ?_) (by exact gE rfl) (by kernel_rfl) (by kernel_rfl) (by kernel_rfl) (fun _ _ _ h => h) (Or.inl ⟨?_, ?_⟩) (by assumption) ?_; rotate_left; (rfl); (focus (intro w hSw; (try dsimp only at hSw); go_simp; try with_reducible rfl)); try simp only [Act.put, List.setIfInBounds_toArray, List.set_cons_zero, List.set_cons_succ])
  first | (refine wpAnyH_take (i := 2) (v := undef) (by exact gE rfl) (by kernel_rfl) (by kernel_rfl) (by kernel_rfl) (fun _ _ _ h => h) (Or.inr ⟨?_, rfl⟩) (by assumption) ?_; (rfl); try simp only [Act.put, List.setIfInBounds_toArray, List.set_cons_zero, List.set_cons_succ]) | (refine wpAnyH_take (i := 2) (v := ?_) (by exact gE rfl) (by kernel_rfl) (by kernel_rfl) (by kernel_rfl) (fun _ _ _ h => h) (Or.inl ⟨?_, ?_⟩) (by assumption) ?_; rotate_left; (rfl); (focus (intro w hSw; (try dsimp only at hSw); go_simp; try with_reducible rfl)); try simp only [Act.put, List.setIfInBounds_toArray, List.set_cons_zero, List.set_cons_succ])
  first | (refine wpAnyH_take (i := 3) (v := undef) (by exact gE rfl) (by kernel_rfl) (by kernel_rfl) (by kernel_rfl) (fun _ _ _ h => h) (Or.inr ⟨?_, rfl⟩) (by assumption) ?_; (rfl); try simp only [Act.put, List.setIfInBounds_toArray, List.set_cons_zero, List.set_cons_succ]) | (refine wpAnyH_take (i := 3) (v := ?_) (by exact gE rfl) (by kernel_rfl) (by kernel_rfl) (by kernel_rfl) (fun _ _ _ h => h) (Or.inl ⟨?_, ?_⟩) (by assumption) ?_; rotate_left; (rfl); (focus (intro W hSw; have hc0 := (show W.cell? ⟨T, 0, none⟩ = some (.pointer (some ⟨gw, 0, none⟩)) from (TB.out.kept hSw.1 (show ¬ (T = w.heap.size) by have := HTL.out; omega)).cell 0); clear hSw; go_simp; try with_reducible rfl)); try simp only [Act.put, List.setIfInBounds_toArray, List.set_cons_zero, List.set_cons_succ])
  (refine wpAnyH_take (i := 4) (v := o.a) (by exact gE rfl) (by kernel_rfl) (by kernel_rfl) (by kernel_rfl) (fun _ _ _ h => h) (yieldsIf_load_mid (by rfl) 49 (.tmp 3) (by rfl) (w.heap.size) (0) (by rfl) (o.cs.toList) _ (fun W hS => Bk.mid hS.2 0 _ rfl) Tryz.underlying49 (by rfl) (by kernel_rfl)) (by assumption) ?_; try simp only [Act.put, List.setIfInBounds_toArray, List.set_cons_zero, List.set_cons_succ])
  refine wpAnyH_ready (rs := [5]) (by kernel_rfl) (by simp) ?_
  refine AllReadyH.cons rfl (fun K hK => ?_) AllReadyH.nil
  go_simp
  refine (thrown_any o HOK.out (by rw [HK.out]; decide) _ _).mono ?_; rintro e w4 ⟨rfl, hb⟩
  replace hHeld := And.intro (hHeld.1.trans (Kept.below hb)) (hHeld.2.on hb)
  have Y4 := hidB hHeld.2
  clear hb
  refine hK.out _ _ hHeld (fun _ => ?_)
  clear hK K
  try simp only [Act.put, List.setIfInBounds_toArray, List.set_cons_zero, List.set_cons_succ]
  refine wpAnyH_ready (rs := [6]) (by kernel_rfl) (by simp) ?_
  refine AllReadyH.cons rfl (fun K hK => ?_) AllReadyH.nil
  rw [if_pos (by kernel_rfl)]
  refine wp_store_row 49 (.tmp 3) (.tmp 37) (by rfl) (w.heap.size) (o.cs) (by rfl) (by rfl) 49 (o.cs) (by exact Y4.out) (by kernel_rfl) (by rfl) (by exact OI.one _ HOK.out) ?_
  replace hHeld := And.intro (hHeld.1.setRow (g := w.heap.size) (.inl rfl) o.cs) (hHeld.2.setRow o.cs)
  refine put_none_K (by first | rfl | kernel_rfl) ?_
  refine hK.out _ _ hHeld (fun _ => ?_)
  clear hK K
  refine wpAnyH_done (by kernel_rfl) ?_ _
  refine NoPanic.normal ?_
  generalize hWn : (w4.setRow (w.heap.size) o.cs) = w5 at *
  clear hWn Y4
  have hk3 := hHeld.1
  replace Y := hidB hHeld.2
  replace R := hidB (R.out.kept hk3 (show ¬ (w.heap.size + 1 = w.heap.size) by have h1 := HTL.out; have h2 := HG5.out; omega))
  replace X5 := hidB (X5.out.kept hk3 (show ¬ (g5 = w.heap.size) by have h1 := HTL.out; have h2 := HG5.out; omega))
  replace TB := hidB (TB.out.kept hk3 (show ¬ (T = w.heap.size) by have h1 := HTL.out; have h2 := HG5.out; omega))
  replace HE := hidB (own_kept HE.out hk3 (fun k hk e => by have h1 := (HSL.out k hk).2; omega))
  replace KW := hidB (KW.out.fresh hk3 (Nat.le_refl _))
  replace HQW := hidB ((hk3.block gq HGQ1.out (by have := HGQ.out.2; omega)).trans HQW.out)
  replace HGQ1 := hidB (Nat.lt_of_lt_of_le HGQ1.out hk3.size)
  clear hk3 hHeld
  have HL5 := hidB (show w.heap.size + 2 ≤ w5.heap.size from R.out.lt)
  obtain ⟨i0, hi0, hz0, hz1, hz2⟩ := info_parts info_seen
  go_upto_region 4 with fail
  refine wp_region_noPanic ?_
  refine wp_region_held_drew (S := fun W => Kept (fun k => k = T ∨ (Value.slice qe sn ce).ownBlock = some k) w5 W) (by kernel_rfl) ?_ (fun hHeld => ?_)
  · exact (Kept.refl _ _).drew
  have TBc := hidB (show Bk w5.drew T 68 (tkC gw (.slice (some ⟨gq, 0, none⟩) n cs) mn bg fa flv wn ov hd (.slice qe sn ce)) from TB.out.drew)
  have HEc := hidB (show w5.drew.ownsRow B1 121 32 (.slice qe sn ce) sn ys from own_eq HE.out (fun _ _ => rfl))
  generalize hWd : w5.drew = wd at *
  clear hWd
  first | (refine wpAnyH_take (i := 0) (v := undef) (by exact gE rfl) (by kernel_rfl) (by kernel_rfl) (by kernel_rfl) (fun _ _ _ h => h) (Or.inr ⟨?_, rfl⟩) (by assumption) ?_; (rfl); try simp only [Act.put, List.setIfInBounds_toArray, List.set_cons_zero, List.set_cons_succ]) | (refine wpAnyH_take (i := 0) (v := ?_) (by exact gE rfl) (by kernel_rfl) (by kernel_rfl) (by kernel_rfl) (fun _ _ _ h => h) (Or.inl ⟨?_, ?_⟩) (by assumption) ?_; rotate_left; (rfl); (focus (intro w hSw; (try dsimp only at hSw); go_simp; try with_reducible rfl)); try simp only [Act.put, List.setIfInBounds_toArray, List.set_cons_zero, List.set_cons_succ])
  first | (refine wpAnyH_take (i := 1) (v := undef) (by exact gE rfl) (by kernel_rfl) (by kernel_rfl) (by kernel_rfl) (fun _ _ _ h => h) (Or.inr ⟨?_, rfl⟩) (by assumption) ?_; (rfl); try simp only [Act.put, List.setIfInBounds_toArray, List.set_cons_zero, List.set_cons_succ]) | (refine wpAnyH_take (i := 1) (v := ?_) (by exact gE rfl) (by kernel_rfl) (by kernel_rfl) (by kernel_rfl) (fun _ _ _ h => h) (Or.inl ⟨?_, ?_⟩) (by assumption) ?_; rotate_left; (rfl); (focus (intro w hSw; (try dsimp only at hSw); go_simp; try with_reducible rfl)); try simp only [Act.put, List.setIfInBounds_toArray, List.set_cons_zero, List.set_cons_succ])
  first | (refine wpAnyH_take (i := 2) (v := undef) (by exact gE rfl) (by kernel_rfl) (by kernel_rfl) (by kernel_rfl) (fun _ _ _ h => h) (Or.inr ⟨?_, rfl⟩) (by assumption) ?_; (rfl); try simp only [Act.put, List.setIfInBounds_toArray, List.set_cons_zero, List.set_cons_succ]) | (refine wpAnyH_take (i := 2) (v := ?_) (by exact gE rfl) (by kernel_rfl) (by kernel_rfl) (by kernel_rfl) (fun _ _ _ h => h) (Or.inl ⟨?_, ?_⟩) (by assumption) ?_; rotate_left; (rfl); (focus (intro w hSw; (try dsimp only at hSw); go_simp; try with_reducible rfl)); try simp only [Act.put, List.setIfInBounds_toArray, List.set_cons_zero, List.set_cons_succ])
  first | (refine wpAnyH_take (i := 3) (v := undef) (by exact gE rfl) (by kernel_rfl) (by kernel_rfl) (by kernel_rfl) (fun _ _ _ h => h) (Or.inr ⟨?_, rfl⟩) (by assumption) ?_; (rfl); try simp only [Act.put, List.setIfInBounds_toArray, List.set_cons_zero, List.set_cons_succ]) | (refine wpAnyH_take (i := 3) (v := ?_) (by exact gE rfl) (by kernel_rfl) (by kernel_rfl) (by kernel_rfl) (fun _ _ _ h => h) (Or.inl ⟨?_, ?_⟩) (by assumption) ?_; rotate_left; (rfl); (focus (intro w hSw; (try dsimp only at hSw); go_simp; try with_reducible rfl)); try simp only [Act.put, List.setIfInBounds_toArray, List.set_cons_zero, List.set_cons_succ])
  first | (refine wpAnyH_take (i := 5) (v := undef) (by exact gE rfl) (by kernel_rfl) (by kernel_rfl) (by kernel_rfl) (fun _ _ _ h => h) (Or.inr ⟨?_, rfl⟩) (by assumption) ?_; (rfl); try simp only [Act.put, List.setIfInBounds_toArray, List.set_cons_zero, List.set_cons_succ]) | (refine wpAnyH_take (i := 5) (v := ?_) (by exact gE rfl) (by kernel_rfl) (by kernel_rfl) (by kernel_rfl) (fun _ _ _ h => h) (Or.inl ⟨?_, ?_⟩) (by assumption) ?_; rotate_left; (rfl); (focus (intro w hSw; (try dsimp only at hSw); go_simp; try with_reducible rfl)); try simp only [Act.put, List.setIfInBounds_toArray, List.set_cons_zero, List.set_cons_succ])
  (refine wpAnyH_take (i := 6) (v := a.a) (by exact gE rfl) (by kernel_rfl) (by kernel_rfl) (by kernel_rfl) (fun _ _ _ h => h) (yieldsIf_load_mid (by rfl) 34 (.tmp 43) (by rfl) (g5) (1) (by rfl) (a.cs.toList) _ (fun W hS => Bk.mid (X5.out.kept hS (show ¬ (g5 = T ∨ (Value.slice qe sn ce).ownBlock = some (g5)) from fun e => e.elim (fun e => by have h1 := HTL.out; have h2 := HG5.out; omega) (fun e => by have h1 := (HSL.out _ e).2; have h2 := HG5.out; omega))) 1 _ rfl) Tryz.underlying34 (by rfl) (by kernel_rfl)) (by assumption) ?_; try simp only [Act.put, List.setIfInBounds_toArray, List.set_cons_zero, List.set_cons_succ])
  (refine wpAnyH_take (i := 7) (v := o.a) (by exact gE rfl) (by kernel_rfl) (by kernel_rfl) (by kernel_rfl) (fun _ _ _ h => h) (yieldsIf_load_mid (by rfl) 49 (.tmp 3) (by rfl) (w.heap.size) (0) (by rfl) (o.cs.toList) _ (fun W hS => Bk.mid (Y.out.kept hS (show ¬ (w.heap.size = T ∨ (Value.slice qe sn ce).ownBlock = some (w.heap.size)) from fun e => e.elim (fun e => by have h1 := HTL.out; have h2 := HG5.out; omega) (fun e => by have h1 := (HSL.out _ e).2; have h2 := HG5.out; omega))) 0 _ rfl) Tryz.underlying49 (by rfl) (by kernel_rfl)) (by assumption) ?_; try simp only [Act.put, List.setIfInBounds_toArray, List.set_cons_zero, List.set_cons_succ])
  first | (refine wpAnyH_take (i := 8) (v := undef) (by exact gE rfl) (by kernel_rfl) (by kernel_rfl) (by kernel_rfl) (fun _ _ _ h => h) (Or.inr ⟨?_, rfl⟩) (by assumption) ?_; (rfl); try simp only [Act.put, List.setIfInBounds_toArray, List.set_cons_zero, List.set_cons_succ]) | (refine wpAnyH_take (i := 8) (v := ?_) (by exact gE rfl) (by kernel_rfl) (by kernel_rfl) (by kernel_rfl) (fun _ _ _ h => h) (Or.inl ⟨?_, ?_⟩) (by assumption) ?_; rotate_left; (rfl); (focus (intro w hSw; (try dsimp only at hSw); go_simp; try with_reducible rfl)); try simp only [Act.put, List.setIfInBounds_toArray, List.set_cons_zero, List.set_cons_succ])
  first | (refine wpAnyH_take (i := 9) (v := undef) (by exact gE rfl) (by kernel_rfl) (by kernel_rfl) (by kernel_rfl) (fun _ _ _ h => h) (Or.inr ⟨?_, rfl⟩) (by assumption) ?_; (rfl); try simp only [Act.put, List.setIfInBounds_toArray, List.set_cons_zero, List.set_cons_succ]) | (refine wpAnyH_take (i := 9) (v := ?_) (by exact gE rfl) (by kernel_rfl) (by kernel_rfl) (by kernel_rfl) (fun _ _ _ h => h) (Or.inl ⟨?_, ?_⟩) (by assumption) ?_; rotate_left; (rfl); (focus (intro W hSw; have hc0 := (show W.cell? ⟨g5, 31, none⟩ = some (.int .i64 bg0) from (X5.out.kept hSw (show ¬ (g5 = T ∨ (Value.slice qe sn ce).ownBlock = some (g5)) from fun e => e.elim (fun e => by have h1 := HTL.out; have h2 := HG5.out; omega) (fun e => by have h1 := (HSL.out _ e).2; have h2 := HG5.out; omega))).cell 31); clear hSw; go_simp; try with_reducible rfl)); try simp only [Act.put, List.setIfInBounds_toArray, List.set_cons_zero, List.set_cons_succ])
  refine wpAnyH_ready (rs := [4, 10]) (by kernel_rfl) (by simp) ?_
  refine AllReadyH.cons rfl (fun K hK => ?_) ?_
  · skip
    have y1 : wd.cell? ⟨T, 37, none⟩ = some (.slice qe sn ce) := TBc.out.cell 37
    go_simp
    clear y1
    refine hK.out _ _ hHeld (fun _ => ?_)
    clear hK K
    try simp only [Act.put, List.setIfInBounds_toArray, List.set_cons_zero, List.set_cons_succ]
    refine wpAnyH_ready (rs := [10]) (by kernel_rfl) (by simp) ?_
    refine AllReadyH.cons rfl (fun K hK => ?_) AllReadyH.nil
    go_simp
    refine (entryM_any a HM.out o bg0 (by rw [HK.out]; decide) _).mono ?_; rintro e wE ⟨kk, rfl, hb⟩
    replace TBc := hidB (TBc.out.on hb)
    replace HEc := hidB (own_on HEc.out hb)
    replace hHeld := hHeld.trans (Kept.below hb)
    clear hb
    obtain ⟨tx, htx⟩ : ∃ q, toldI a.m o = q := ⟨_, rfl⟩
    have HTX := hidB htx
    have HSO := hidB (seen_one bg0 a kk tx (htx ▸ told_key a.m o))
    rw [htx]
    clear htx
    refine hK.out _ _ hHeld (fun _ => ?_)
    clear hK K
    try simp only [Act.put, List.setIfInBounds_toArray, List.set_cons_zero, List.set_cons_succ]
    refine wpAnyH_ready (rs := [11]) (by kernel_rfl) (by simp) ?_
    refine AllReadyH.cons rfl (fun K hK => ?_) AllReadyH.nil
    rw [if_pos (by kernel_rfl)]
    refine wp_buildSlice 52 121 1 32 _ (by rfl) [(0, .agg (seenC bg0 a kk tx))] (by kernel_rfl) (.agg #[.int .i64 0, .int .i64 0, .int .u8 0, .string ⟨#[]⟩, .int .i64 0, .bool false, .int .u8 0, .int .u8 0, .float .f64 0, .string ⟨#[]⟩, .int .i64 0, .bool false, .bool false, .int .u8 0, .int .u8 0, .float .f64 0, .string ⟨#[]⟩, .int .i64 0, .int .u8 0, .float .f64 0, .string ⟨#[]⟩, .int .i64 0, .int .u8 0, .float .f64 0, .string ⟨#[]⟩, .int .i64 0, .bool false, .bool false, .bool false, .slice none 0 0, .int .u8 0, .string ⟨#[]⟩]) (seenC bg0 a kk tx) Tryz.underlying52 (by kernel_rfl) (by decide) (by decide) (by kernel_rfl) ?_
    have HNB := hidB (Bk.new wE 121 (seenC bg0 a kk tx))
    replace TBc := hidB (TBc.out.alloc (.cells (seenC bg0 a kk tx) 121))
    replace HEc := hidB (own_on HEc.out (box_one wE (.cells (seenC bg0 a kk tx) 121)))
    have HGN := hidB hHeld.size
    replace hHeld := hHeld.alloc (.cells (seenC bg0 a kk tx) 121)
    refine hK.out _ _ hHeld (fun _ => ?_)
    clear hK K
    try simp only [Act.put, List.setIfInBounds_toArray, List.set_cons_zero, List.set_cons_succ]
    generalize hWn : (wE.alloc (.cells (seenC bg0 a kk tx) 121)) = wb at *
    clear hWn
    generalize hGn : wE.heap.size = gN at *
    clear hGn
    refine wpAnyH_ready (rs := [12]) (by kernel_rfl) (by simp) ?_
    refine AllReadyH.cons rfl (fun K hK => ?_) AllReadyH.nil
    rw [if_pos (by kernel_rfl)]
    refine wp_append_in (.tmp 42) (.tmp 49) 52 (by rfl) B1 121 i0 _ 32 296 Tryz.underlying52 hi0 hz0 hz1 hz2 (by rfl) (by decide) (.slice qe sn ce) sn _ (by rfl) HEc.out ⟨gN, 0, none⟩ 1 1 (seenC bg0 a kk tx).toList (by rfl) (by rfl) (bk_cells HNB.out) (fun u hu => (Array.all_eq_true_iff_forall_mem.1 HSO.out) u (Array.mem_toList_iff.1 hu)) (by unfold maxLen; have := HSN.out; omega) (by have := HSN.out; omega) (by have h1 := HNB.out.lt; have h2 := HGN.out; have h3 := HB1.out; have h4 := HTL.out; have h5 := HL5.out; omega) ?_
    intro v' w9 hown' hgrow hblk
    have HWB := hidB (show w5.heap.size ≤ wb.heap.size from hHeld.size)
    replace hHeld := hHeld.grown hgrow (fun k hk => .inl (.inr hk))
    replace TBc := hidB (Bk.grown TBc.out hgrow (fun h => HTS.out T h rfl))
    obtain ⟨q2, c2, rfl⟩ := own_slice hown'
    have HOWN := hidB hown'
    have HBLK := hidB hblk
    clear hown' hgrow hblk HEc HNB HGN
    refine hK.out _ _ hHeld (fun _ => ?_)
    clear hK K
    try simp only [Act.put, List.setIfInBounds_toArray, List.set_cons_zero, List.set_cons_succ]
    first | (refine wpAnyH_take (i := 13) (v := undef) (by exact gE rfl) (by kernel_rfl) (by kernel_rfl) (by kernel_rfl) (fun _ _ _ h => h) (Or.inr ⟨?_, rfl⟩) (by assumption) ?_; (rfl); try simp only [Act.put, List.setIfInBounds_toArray, List.set_cons_zero, List.set_cons_succ]) | (refine wpAnyH_take (i := 13) (v := ?_) (by exact gE rfl) (by kernel_rfl) (by kernel_rfl) (by kernel_rfl) (fun _ _ _ h => h) (Or.inl ⟨?_, ?_⟩) (by assumption) ?_; rotate_left; (rfl); (focus (intro w hSw; (try dsimp only at hSw); go_simp; try with_reducible rfl)); try simp only [Act.put, List.setIfInBounds_toArray, List.set_cons_zero, List.set_cons_succ])
    first | (refine wpAnyH_take (i := 14) (v := undef) (by exact gE rfl) (by kernel_rfl) (by kernel_rfl) (by kernel_rfl) (fun _ _ _ h => h) (Or.inr ⟨?_, rfl⟩) (by assumption) ?_; (rfl); try simp only [Act.put, List.setIfInBounds_toArray, List.set_cons_zero, List.set_cons_succ]) | (refine wpAnyH_take (i := 14) (v := ?_) (by exact gE rfl) (by kernel_rfl) (by kernel_rfl) (by kernel_rfl) (fun _ _ _ h => h) (Or.inl ⟨?_, ?_⟩) (by assumption) ?_; rotate_left; (rfl); (focus (intro w hSw; (try dsimp only at hSw); go_simp; try with_reducible rfl)); try simp only [Act.put, List.setIfInBounds_toArray, List.set_cons_zero, List.set_cons_succ])
    refine wpAnyH_ready (rs := [15]) (by kernel_rfl) (by simp) ?_
    refine AllReadyH.cons rfl (fun K hK => ?_) AllReadyH.nil
    have y1 : w9.cell? ⟨T, 37, none⟩ = some (.slice qe sn ce) := TBc.out.cell 37
    have f1 : w9.frozen? ⟨T, 37, none⟩ = false := TBc.out.free 37
    go_simp
    have HOWN2 := hidB (own_eq (w' := w9.setCell ⟨T, 37, none⟩ (.slice q2 (sn + 1) c2)) HOWN.out (fun k hk => Below.heap_setCell w9 _ _ k (own_neB HOWN.out TBc.out (by decide) hk)))
    replace TBc := hidB (TBc.out.set 37 (.slice q2 (sn + 1) c2))
    replace hHeld := hHeld.setCell (p := ⟨T, 37, none⟩) (.inl (.inl rfl)) (.slice q2 (sn + 1) c2)
    clear y1 f1 HOWN
    refine hK.out _ _ hHeld (fun _ => ?_)
    clear hK K
    try simp only [Act.put, List.setIfInBounds_toArray, List.set_cons_zero, List.set_cons_succ]
    refine wpAnyH_done (by kernel_rfl) ?_ _
    refine NoPanic.normal ?_
    generalize hWn : (w9.setCell ⟨T, 37, none⟩ (.slice q2 (sn + 1) c2)) = w10 at *
    clear hWn
    replace R := hidB (R.out.kept hHeld (show ¬ (w.heap.size + 1 = T ∨ (Value.slice qe sn ce).ownBlock = some (w.heap.size + 1)) from fun e => e.elim (fun e => by have h1 := HTL.out; have h2 := HG5.out; omega) (fun e => by have h1 := (HSL.out _ e).2; have h2 := HG5.out; omega)))
    replace X5 := hidB (X5.out.kept hHeld (show ¬ (g5 = T ∨ (Value.slice qe sn ce).ownBlock = some (g5)) from fun e => e.elim (fun e => by have h1 := HTL.out; have h2 := HG5.out; omega) (fun e => by have h1 := (HSL.out _ e).2; have h2 := HG5.out; omega)))
    replace Y := hidB (Y.out.kept hHeld (show ¬ (w.heap.size = T ∨ (Value.slice qe sn ce).ownBlock = some (w.heap.size)) from fun e => e.elim (fun e => by have h1 := HTL.out; have h2 := HG5.out; omega) (fun e => by have h1 := (HSL.out _ e).2; have h2 := HG5.out; omega)))
    replace KW := hidB (KW.out.trans hHeld)
    replace HQW := hidB ((hHeld.block gq HGQ1.out (fun e => e.elim (fun e => HTQ.out e) (fun e => HSQ.out e))).trans HQW.out)
    have HL10 := hidB (Nat.le_trans HL5.out hHeld.size)
    replace HGQ1 := hidB (Nat.lt_of_lt_of_le HGQ1.out hHeld.size)
    clear hHeld HE TB
    have t2 : w10.cell? ⟨T, 2, none⟩ = some (.int .i64 mn) := TBc.out.cell 2
    have tf : w10.frozen? ⟨T, 2, none⟩ = false := TBc.out.free 2
    go_upto_region 6 with fail
    have hfar : ∀ k, k ≠ T → (w10.setCell ⟨T, 2, none⟩ (.int .i64 (mn + 1))).heap[k]? = w10.heap[k]? := fun k hk => Below.heap_setCell w10 _ _ k hk
    replace R := hidB (show Bk (w10.setCell ⟨T, 2, none⟩ (.int .i64 (mn + 1))) (w.heap.size + 1) 49 (OI.zero.cs) from (hfar _ (by have h1 := HTL.out; have h2 := HG5.out; omega)).trans R.out)
    replace X5 := hidB (show Bk (w10.setCell ⟨T, 2, none⟩ (.int .i64 (mn + 1))) (g5) 95 ((entC iv a lv bg0)) from (hfar _ (by have h1 := HTL.out; have h2 := HG5.out; omega)).trans X5.out)
    replace Y := hidB (show Bk (w10.setCell ⟨T, 2, none⟩ (.int .i64 (mn + 1))) (w.heap.size) 49 (o.cs) from (hfar _ (by have h1 := HTL.out; have h2 := HG5.out; omega)).trans Y.out)
    replace HOWN2 := hidB (show (w10.setCell ⟨T, 2, none⟩ (.int .i64 (mn + 1))).ownsRow B1 121 32 (.slice q2 (sn + 1) c2) (sn + 1) (ys ++ (seenC bg0 a kk tx).toList) from own_eq HOWN2.out (fun k hk => hfar k (own_neB HOWN2.out TBc.out (by decide) hk)))
    replace TBc := hidB (show Bk (w10.setCell ⟨T, 2, none⟩ (.int .i64 (mn + 1))) T 68 (tkC gw (.slice (some ⟨gq, 0, none⟩) n cs) (mn + 1) bg fa flv wn ov hd (.slice q2 (sn + 1) c2)) from TBc.out.set 2 _)
    replace KW := hidB (show Kept (fun k => k = T ∨ (Value.slice qe sn ce).ownBlock = some k) w (w10.setCell ⟨T, 2, none⟩ (.int .i64 (mn + 1))) from KW.out.setCell (p := ⟨T, 2, none⟩) (.inl (.inl rfl)) _)
    replace HQW := hidB (show (w10.setCell ⟨T, 2, none⟩ (.int .i64 (mn + 1))).heap[gq]? = w.heap[gq]? from (hfar gq HTQ.out).trans HQW.out)
    clear t2 tf hfar
    generalize hW : (w10.setCell ⟨T, 2, none⟩ (.int .i64 (mn + 1))) = w11 at *
    clear hW
    have hgl := HGQ1.out
    have HTB := hidB TBc.out.lt
    have HRL := hidB R.out.lt
    have m1 : w11.cell? ⟨g5, 1, none⟩ = some (.int .u8 a.m) := X5.out.cell 1
    go_wp2_with (first | ((with_reducible refine ldId 49 (.tmp 3) ?_); refine wpList_load_row (by rfl) 49 (.tmp 3) (by rfl) (w.heap.size) (by rfl) 49 (o.cs) (0, 0) _ (by exact Y.out) Tryz.underlying49 (by rfl) (by kernel_rfl) ?_))
    refine (toldM_any a.m HM.out o (by rw [HK.out]; decide) _).mono ?_; rintro e w12 ⟨rfl, hb⟩
    have HB12 := hidB hb
    have HTK := hidB (told_key a.m o)
    replace R := hidB (R.out.on hb)
    replace TBc := hidB (TBc.out.on hb)
    replace HOWN2 := hidB (own_on HOWN2.out hb)
    replace KW := hidB (KW.out.trans (Kept.below hb))
    have HQ12 := hidB (show w12.heap[gq]? = w.heap[gq]? from (hb.block gq (by have h1 := HGQ.out.2; have h2 := HRL.out; omega)).trans HQW.out)
    clear hb HQW hgl
    go_wp2_with (first | ((with_reducible refine stId 49 (.tmp 4) (.tmp 64) ?_); refine wpList_store_row (by rfl) 49 (.tmp 4) (.tmp 64) (by rfl) (w.heap.size + 1) ((toldI a.m o).cs) (by rfl) (by rfl) 49 (OI.zero.cs) (by exact R.out) (by kernel_rfl) (by rfl) (by exact OI.one _ HTK.out) ?_))
    refine bodyPost_ret (v := .agg ((toldI a.m o).cs)) (results_cell_row Tryz.results40 _ _ (w.heap.size + 1) 49 ((toldI a.m o).cs) (0, 0) _ rfl (R.out.setRow _) Tryz.underlying49 rfl (by kernel_rfl)) rfl ?_
    exact ⟨.slice q2 (sn + 1) c2, _, rfl, TBc.out.setRow_far (by have := HTL.out; omega) _, HPOP.out (w12.setRow (w.heap.size + 1) (toldI a.m o).cs) ((heap_setRow w12 (by have := HGQ.out.2; omega) _).trans HQ12.out), own_eq HOWN2.out (fun k hk => heap_setRow _ (own_neB HOWN2.out R.out (by decide) hk) _), KW.out.setRow (g := w.heap.size + 1) (.inr (by omega)) _, fun k hk => (HBLK.out k hk).imp id (fun h => by have h1 := HWB.out; have h2 := HL5.out; omega)⟩
  refine AllReadyH.cons rfl (fun K hK => ?_) AllReadyH.nil
  go_simp
  refine (entryM_any a HM.out o bg0 (by rw [HK.out]; decide) _).mono ?_; rintro e wE ⟨kk, rfl, hb⟩
  replace TBc := hidB (TBc.out.on hb)
  replace HEc := hidB (own_on HEc.out hb)
  replace hHeld := hHeld.trans (Kept.below hb)
  clear hb
  obtain ⟨tx, htx⟩ : ∃ q, toldI a.m o = q := ⟨_, rfl⟩
  have HTX := hidB htx
  have HSO := hidB (seen_one bg0 a kk tx (htx ▸ told_key a.m o))
  rw [htx]
  clear htx
  refine hK.out _ _ hHeld (fun _ => ?_)
  clear hK K
  try simp only [Act.put, List.setIfInBounds_toArray, List.set_cons_zero, List.set_cons_succ]
  refine wpAnyH_ready (rs := [4, 11]) (by kernel_rfl) (by simp) ?_
  refine AllReadyH.cons rfl (fun K hK => ?_) ?_
  · skip
    have y1 : wE.cell? ⟨T, 37, none⟩ = some (.slice qe sn ce) := TBc.out.cell 37
    go_simp
    clear y1
    refine hK.out _ _ hHeld (fun _ => ?_)
    clear hK K
    try simp only [Act.put, List.setIfInBounds_toArray, List.set_cons_zero, List.set_cons_succ]
    refine wpAnyH_ready (rs := [11]) (by kernel_rfl) (by simp) ?_
    refine AllReadyH.cons rfl (fun K hK => ?_) AllReadyH.nil
    rw [if_pos (by kernel_rfl)]
    refine wp_buildSlice 52 121 1 32 _ (by rfl) [(0, .agg (seenC bg0 a kk tx))] (by kernel_rfl) (.agg #[.int .i64 0, .int .i64 0, .int .u8 0, .string ⟨#[]⟩, .int .i64 0, .bool false, .int .u8 0, .int .u8 0, .float .f64 0, .string ⟨#[]⟩, .int .i64 0, .bool false, .bool false, .int .u8 0, .int .u8 0, .float .f64 0, .string ⟨#[]⟩, .int .i64 0, .int .u8 0, .float .f64 0, .string ⟨#[]⟩, .int .i64 0, .int .u8 0, .float .f64 0, .string ⟨#[]⟩, .int .i64 0, .bool false, .bool false, .bool false, .slice none 0 0, .int .u8 0, .string ⟨#[]⟩]) (seenC bg0 a kk tx) Tryz.underlying52 (by kernel_rfl) (by decide) (by decide) (by kernel_rfl) ?_
    have HNB := hidB (Bk.new wE 121 (seenC bg0 a kk tx))
    replace TBc := hidB (TBc.out.alloc (.cells (seenC bg0 a kk tx) 121))
    replace HEc := hidB (own_on HEc.out (box_one wE (.cells (seenC bg0 a kk tx) 121)))
    have HGN := hidB hHeld.size
    replace hHeld := hHeld.alloc (.cells (seenC bg0 a kk tx) 121)
    refine hK.out _ _ hHeld (fun _ => ?_)
    clear hK K
    try simp only [Act.put, List.setIfInBounds_toArray, List.set_cons_zero, List.set_cons_succ]
    generalize hWn : (wE.alloc (.cells (seenC bg0 a kk tx) 121)) = wb at *
    clear hWn
    generalize hGn : wE.heap.size = gN at *
    clear hGn
    refine wpAnyH_ready (rs := [12]) (by kernel_rfl) (by simp) ?_
    refine AllReadyH.cons rfl (fun K hK => ?_) AllReadyH.nil
    rw [if_pos (by kernel_rfl)]
    refine wp_append_in (.tmp 42) (.tmp 49) 52 (by rfl) B1 121 i0 _ 32 296 Tryz.underlying52 hi0 hz0 hz1 hz2 (by rfl) (by decide) (.slice qe sn ce) sn _ (by rfl) HEc.out ⟨gN, 0, none⟩ 1 1 (seenC bg0 a kk tx).toList (by rfl) (by rfl) (bk_cells HNB.out) (fun u hu => (Array.all_eq_true_iff_forall_mem.1 HSO.out) u (Array.mem_toList_iff.1 hu)) (by unfold maxLen; have := HSN.out; omega) (by have := HSN.out; omega) (by have h1 := HNB.out.lt; have h2 := HGN.out; have h3 := HB1.out; have h4 := HTL.out; have h5 := HL5.out; omega) ?_
    intro v' w9 hown' hgrow hblk
    have HWB := hidB (show w5.heap.size ≤ wb.heap.size from hHeld.size)
    replace hHeld := hHeld.grown hgrow (fun k hk => .inl (.inr hk))
    replace TBc := hidB (Bk.grown TBc.out hgrow (fun h => HTS.out T h rfl))
    obtain ⟨q2, c2, rfl⟩ := own_slice hown'
    have HOWN := hidB hown'
    have HBLK := hidB hblk
    clear hown' hgrow hblk HEc HNB HGN
    refine hK.out _ _ hHeld (fun _ => ?_)
    clear hK K
    try simp only [Act.put, List.setIfInBounds_toArray, List.set_cons_zero, List.set_cons_succ]
    first | (refine wpAnyH_take (i := 13) (v := undef) (by exact gE rfl) (by kernel_rfl) (by kernel_rfl) (by kernel_rfl) (fun _ _ _ h => h) (Or.inr ⟨?_, rfl⟩) (by assumption) ?_; (rfl); try simp only [Act.put, List.setIfInBounds_toArray, List.set_cons_zero, List.set_cons_succ]) | (refine wpAnyH_take (i := 13) (v := ?_) (by exact gE rfl) (by kernel_rfl) (by kernel_rfl) (by kernel_rfl) (fun _ _ _ h => h) (Or.inl ⟨?_, ?_⟩) (by assumption) ?_; rotate_left; (rfl); (focus (intro w hSw; (try dsimp only at hSw); go_simp; try with_reducible rfl)); try simp only [Act.put, List.setIfInBounds_toArray, List.set_cons_zero, List.set_cons_succ])
    first | (refine wpAnyH_take (i := 14) (v := undef) (by exact gE rfl) (by kernel_rfl) (by kernel_rfl) (by kernel_rfl) (fun _ _ _ h => h) (Or.inr ⟨?_, rfl⟩) (by assumption) ?_; (rfl); try simp only [Act.put, List.setIfInBounds_toArray, List.set_cons_zero, List.set_cons_succ]) | (refine wpAnyH_take (i := 14) (v := ?_) (by exact gE rfl) (by kernel_rfl) (by kernel_rfl) (by kernel_rfl) (fun _ _ _ h => h) (Or.inl ⟨?_, ?_⟩) (by assumption) ?_; rotate_left; (rfl); (focus (intro w hSw; (try dsimp only at hSw); go_simp; try with_reducible rfl)); try simp only [Act.put, List.setIfInBounds_toArray, List.set_cons_zero, List.set_cons_succ])
    refine wpAnyH_ready (rs := [15]) (by kernel_rfl) (by simp) ?_
    refine AllReadyH.cons rfl (fun K hK => ?_) AllReadyH.nil
    have y1 : w9.cell? ⟨T, 37, none⟩ = some (.slice qe sn ce) := TBc.out.cell 37
    have f1 : w9.frozen? ⟨T, 37, none⟩ = false := TBc.out.free 37
    go_simp
    have HOWN2 := hidB (own_eq (w' := w9.setCell ⟨T, 37, none⟩ (.slice q2 (sn + 1) c2)) HOWN.out (fun k hk => Below.heap_setCell w9 _ _ k (own_neB HOWN.out TBc.out (by decide) hk)))
    replace TBc := hidB (TBc.out.set 37 (.slice q2 (sn + 1) c2))
    replace hHeld := hHeld.setCell (p := ⟨T, 37, none⟩) (.inl (.inl rfl)) (.slice q2 (sn + 1) c2)
    clear y1 f1 HOWN
    refine hK.out _ _ hHeld (fun _ => ?_)
    clear hK K
    try simp only [Act.put, List.setIfInBounds_toArray, List.set_cons_zero, List.set_cons_succ]
    refine wpAnyH_done (by kernel_rfl) ?_ _
    refine NoPanic.normal ?_
    generalize hWn : (w9.setCell ⟨T, 37, none⟩ (.slice q2 (sn + 1) c2)) = w10 at *
    clear hWn
    replace R := hidB (R.out.kept hHeld (show ¬ (w.heap.size + 1 = T ∨ (Value.slice qe sn ce).ownBlock = some (w.heap.size + 1)) from fun e => e.elim (fun e => by have h1 := HTL.out; have h2 := HG5.out; omega) (fun e => by have h1 := (HSL.out _ e).2; have h2 := HG5.out; omega)))
    replace X5 := hidB (X5.out.kept hHeld (show ¬ (g5 = T ∨ (Value.slice qe sn ce).ownBlock = some (g5)) from fun e => e.elim (fun e => by have h1 := HTL.out; have h2 := HG5.out; omega) (fun e => by have h1 := (HSL.out _ e).2; have h2 := HG5.out; omega)))
    replace Y := hidB (Y.out.kept hHeld (show ¬ (w.heap.size = T ∨ (Value.slice qe sn ce).ownBlock = some (w.heap.size)) from fun e => e.elim (fun e => by have h1 := HTL.out; have h2 := HG5.out; omega) (fun e => by have h1 := (HSL.out _ e).2; have h2 := HG5.out; omega)))
    replace KW := hidB (KW.out.trans hHeld)
    replace HQW := hidB ((hHeld.block gq HGQ1.out (fun e => e.elim (fun e => HTQ.out e) (fun e => HSQ.out e))).trans HQW.out)
    have HL10 := hidB (Nat.le_trans HL5.out hHeld.size)
    replace HGQ1 := hidB (Nat.lt_of_lt_of_le HGQ1.out hHeld.size)
    clear hHeld HE TB
    have t2 : w10.cell? ⟨T, 2, none⟩ = some (.int .i64 mn) := TBc.out.cell 2
    have tf : w10.frozen? ⟨T, 2, none⟩ = false := TBc.out.free 2
    go_upto_region 6 with fail
    have hfar : ∀ k, k ≠ T → (w10.setCell ⟨T, 2, none⟩ (.int .i64 (mn + 1))).heap[k]? = w10.heap[k]? := fun k hk => Below.heap_setCell w10 _ _ k hk
    replace R := hidB (show Bk (w10.setCell ⟨T, 2, none⟩ (.int .i64 (mn + 1))) (w.heap.size + 1) 49 (OI.zero.cs) from (hfar _ (by have h1 := HTL.out; have h2 := HG5.out; omega)).trans R.out)
    replace X5 := hidB (show Bk (w10.setCell ⟨T, 2, none⟩ (.int .i64 (mn + 1))) (g5) 95 ((entC iv a lv bg0)) from (hfar _ (by have h1 := HTL.out; have h2 := HG5.out; omega)).trans X5.out)
    replace Y := hidB (show Bk (w10.setCell ⟨T, 2, none⟩ (.int .i64 (mn + 1))) (w.heap.size) 49 (o.cs) from (hfar _ (by have h1 := HTL.out; have h2 := HG5.out; omega)).trans Y.out)
    replace HOWN2 := hidB (show (w10.setCell ⟨T, 2, none⟩ (.int .i64 (mn + 1))).ownsRow B1 121 32 (.slice q2 (sn + 1) c2) (sn + 1) (ys ++ (seenC bg0 a kk tx).toList) from own_eq HOWN2.out (fun k hk => hfar k (own_neB HOWN2.out TBc.out (by decide) hk)))
    replace TBc := hidB (show Bk (w10.setCell ⟨T, 2, none⟩ (.int .i64 (mn + 1))) T 68 (tkC gw (.slice (some ⟨gq, 0, none⟩) n cs) (mn + 1) bg fa flv wn ov hd (.slice q2 (sn + 1) c2)) from TBc.out.set 2 _)
    replace KW := hidB (show Kept (fun k => k = T ∨ (Value.slice qe sn ce).ownBlock = some k) w (w10.setCell ⟨T, 2, none⟩ (.int .i64 (mn + 1))) from KW.out.setCell (p := ⟨T, 2, none⟩) (.inl (.inl rfl)) _)
    replace HQW := hidB (show (w10.setCell ⟨T, 2, none⟩ (.int .i64 (mn + 1))).heap[gq]? = w.heap[gq]? from (hfar gq HTQ.out).trans HQW.out)
    clear t2 tf hfar
    generalize hW : (w10.setCell ⟨T, 2, none⟩ (.int .i64 (mn + 1))) = w11 at *
    clear hW
    have hgl := HGQ1.out
    have HTB := hidB TBc.out.lt
    have HRL := hidB R.out.lt
    have m1 : w11.cell? ⟨g5, 1, none⟩ = some (.int .u8 a.m) := X5.out.cell 1
    go_wp2_with (first | ((with_reducible refine ldId 49 (.tmp 3) ?_); refine wpList_load_row (by rfl) 49 (.tmp 3) (by rfl) (w.heap.size) (by rfl) 49 (o.cs) (0, 0) _ (by exact Y.out) Tryz.underlying49 (by rfl) (by kernel_rfl) ?_))
    refine (toldM_any a.m HM.out o (by rw [HK.out]; decide) _).mono ?_; rintro e w12 ⟨rfl, hb⟩
    have HB12 := hidB hb
    have HTK := hidB (told_key a.m o)
    replace R := hidB (R.out.on hb)
    replace TBc := hidB (TBc.out.on hb)
    replace HOWN2 := hidB (own_on HOWN2.out hb)
    replace KW := hidB (KW.out.trans (Kept.below hb))
    have HQ12 := hidB (show w12.heap[gq]? = w.heap[gq]? from (hb.block gq (by have h1 := HGQ.out.2; have h2 := HRL.out; omega)).trans HQW.out)
    clear hb HQW hgl
    go_wp2_with (first | ((with_reducible refine stId 49 (.tmp 4) (.tmp 64) ?_); refine wpList_store_row (by rfl) 49 (.tmp 4) (.tmp 64) (by rfl) (w.heap.size + 1) ((toldI a.m o).cs) (by rfl) (by rfl) 49 (OI.zero.cs) (by exact R.out) (by kernel_rfl) (by rfl) (by exact OI.one _ HTK.out) ?_))
    refine bodyPost_ret (v := .agg ((toldI a.m o).cs)) (results_cell_row Tryz.results40 _ _ (w.heap.size + 1) 49 ((toldI a.m o).cs) (0, 0) _ rfl (R.out.setRow _) Tryz.underlying49 rfl (by kernel_rfl)) rfl ?_
    exact ⟨.slice q2 (sn + 1) c2, _, rfl, TBc.out.setRow_far (by have := HTL.out; omega) _, HPOP.out (w12.setRow (w.heap.size + 1) (toldI a.m o).cs) ((heap_setRow w12 (by have := HGQ.out.2; omega) _).trans HQ12.out), own_eq HOWN2.out (fun k hk => heap_setRow _ (own_neB HOWN2.out R.out (by decide) hk) _), KW.out.setRow (g := w.heap.size + 1) (.inr (by omega)) _, fun k hk => (HBLK.out k hk).imp id (fun h => by have h1 := HWB.out; have h2 := HL5.out; omega)⟩
  refine AllReadyH.cons rfl (fun K hK => ?_) AllReadyH.nil
  rw [if_pos (by kernel_rfl)]
  refine wp_buildSlice 52 121 1 32 _ (by rfl) [(0, .agg (seenC bg0 a kk tx))] (by kernel_rfl) (.agg #[.int .i64 0, .int .i64 0, .int .u8 0, .string ⟨#[]⟩, .int .i64 0, .bool false, .int .u8 0, .int .u8 0, .float .f64 0, .string ⟨#[]⟩, .int .i64 0, .bool false, .bool false, .int .u8 0, .int .u8 0, .float .f64 0, .string ⟨#[]⟩, .int .i64 0, .int .u8 0, .float .f64 0, .string ⟨#[]⟩, .int .i64 0, .int .u8 0, .float .f64 0, .string ⟨#[]⟩, .int .i64 0, .bool false, .bool false, .bool false, .slice none 0 0, .int .u8 0, .string ⟨#[]⟩]) (seenC bg0 a kk tx) Tryz.underlying52 (by kernel_rfl) (by decide) (by decide) (by kernel_rfl) ?_
  have HNB := hidB (Bk.new wE 121 (seenC bg0 a kk tx))
  replace TBc := hidB (TBc.out.alloc (.cells (seenC bg0 a kk tx) 121))
  replace HEc := hidB (own_on HEc.out (box_one wE (.cells (seenC bg0 a kk tx) 121)))
  have HGN := hidB hHeld.size
  replace hHeld := hHeld.alloc (.cells (seenC bg0 a kk tx) 121)
  refine hK.out _ _ hHeld (fun _ => ?_)
  clear hK K
  try simp only [Act.put, List.setIfInBounds_toArray, List.set_cons_zero, List.set_cons_succ]
  generalize hWn : (wE.alloc (.cells (seenC bg0 a kk tx) 121)) = wb at *
  clear hWn
  generalize hGn : wE.heap.size = gN at *
  clear hGn
  refine wpAnyH_ready (rs := [4]) (by kernel_rfl) (by simp) ?_
  refine AllReadyH.cons rfl (fun K hK => ?_) AllReadyH.nil
  have y1 : wb.cell? ⟨T, 37, none⟩ = some (.slice qe sn ce) := TBc.out.cell 37
  go_simp
  clear y1
  refine hK.out _ _ hHeld (fun _ => ?_)
  clear hK K
  try simp only [Act.put, List.setIfInBounds_toArray, List.set_cons_zero, List.set_cons_succ]
  refine wpAnyH_ready (rs := [12]) (by kernel_rfl) (by simp) ?_
  refine AllReadyH.cons rfl (fun K hK => ?_) AllReadyH.nil
  rw [if_pos (by kernel_rfl)]
  refine wp_append_in (.tmp 42) (.tmp 49) 52 (by rfl) B1 121 i0 _ 32 296 Tryz.underlying52 hi0 hz0 hz1 hz2 (by rfl) (by decide) (.slice qe sn ce) sn _ (by rfl) HEc.out ⟨gN, 0, none⟩ 1 1 (seenC bg0 a kk tx).toList (by rfl) (by rfl) (bk_cells HNB.out) (fun u hu => (Array.all_eq_true_iff_forall_mem.1 HSO.out) u (Array.mem_toList_iff.1 hu)) (by unfold maxLen; have := HSN.out; omega) (by have := HSN.out; omega) (by have h1 := HNB.out.lt; have h2 := HGN.out; have h3 := HB1.out; have h4 := HTL.out; have h5 := HL5.out; omega) ?_
  intro v' w9 hown' hgrow hblk
  have HWB := hidB (show w5.heap.size ≤ wb.heap.size from hHeld.size)
  replace hHeld := hHeld.grown hgrow (fun k hk => .inl (.inr hk))
  replace TBc := hidB (Bk.grown TBc.out hgrow (fun h => HTS.out T h rfl))
  obtain ⟨q2, c2, rfl⟩ := own_slice hown'
  have HOWN := hidB hown'
  have HBLK := hidB hblk
  clear hown' hgrow hblk HEc HNB HGN
  refine hK.out _ _ hHeld (fun _ => ?_)
  clear hK K
  try simp only [Act.put, List.setIfInBounds_toArray, List.set_cons_zero, List.set_cons_succ]
  first | (refine wpAnyH_take (i := 13) (v := undef) (by exact gE rfl) (by kernel_rfl) (by kernel_rfl) (by kernel_rfl) (fun _ _ _ h => h) (Or.inr ⟨?_, rfl⟩) (by assumption) ?_; (rfl); try simp only [Act.put, List.setIfInBounds_toArray, List.set_cons_zero, List.set_cons_succ]) | (refine wpAnyH_take (i := 13) (v := ?_) (by exact gE rfl) (by kernel_rfl) (by kernel_rfl) (by kernel_rfl) (fun _ _ _ h => h) (Or.inl ⟨?_, ?_⟩) (by assumption) ?_; rotate_left; (rfl); (focus (intro w hSw; (try dsimp only at hSw); go_simp; try with_reducible rfl)); try simp only [Act.put, List.setIfInBounds_toArray, List.set_cons_zero, List.set_cons_succ])
  first | (refine wpAnyH_take (i := 14) (v := undef) (by exact gE rfl) (by kernel_rfl) (by kernel_rfl) (by kernel_rfl) (fun _ _ _ h => h) (Or.inr ⟨?_, rfl⟩) (by assumption) ?_; (rfl); try simp only [Act.put, List.setIfInBounds_toArray, List.set_cons_zero, List.set_cons_succ]) | (refine wpAnyH_take (i := 14) (v := ?_) (by exact gE rfl) (by kernel_rfl) (by kernel_rfl) (by kernel_rfl) (fun _ _ _ h => h) (Or.inl ⟨?_, ?_⟩) (by assumption) ?_; rotate_left; (rfl); (focus (intro w hSw; (try dsimp only at hSw); go_simp; try with_reducible rfl)); try simp only [Act.put, List.setIfInBounds_toArray, List.set_cons_zero, List.set_cons_succ])
  refine wpAnyH_ready (rs := [15]) (by kernel_rfl) (by simp) ?_
  refine AllReadyH.cons rfl (fun K hK => ?_) AllReadyH.nil
  have y1 : w9.cell? ⟨T, 37, none⟩ = some (.slice qe sn ce) := TBc.out.cell 37
  have f1 : w9.frozen? ⟨T, 37, none⟩ = false := TBc.out.free 37
  go_simp
  have HOWN2 := hidB (own_eq (w' := w9.setCell ⟨T, 37, none⟩ (.slice q2 (sn + 1) c2)) HOWN.out (fun k hk => Below.heap_setCell w9 _ _ k (own_neB HOWN.out TBc.out (by decide) hk)))
  replace TBc := hidB (TBc.out.set 37 (.slice q2 (sn + 1) c2))
  replace hHeld := hHeld.setCell (p := ⟨T, 37, none⟩) (.inl (.inl rfl)) (.slice q2 (sn + 1) c2)
  clear y1 f1 HOWN
  refine hK.out _ _ hHeld (fun _ => ?_)
  clear hK K
  try simp only [Act.put, List.setIfInBounds_toArray, List.set_cons_zero, List.set_cons_succ]
  refine wpAnyH_done (by kernel_rfl) ?_ _
  refine NoPanic.normal ?_
  generalize hWn : (w9.setCell ⟨T, 37, none⟩ (.slice q2 (sn + 1) c2)) = w10 at *
  clear hWn
  replace R := hidB (R.out.kept hHeld (show ¬ (w.heap.size + 1 = T ∨ (Value.slice qe sn ce).ownBlock = some (w.heap.size + 1)) from fun e => e.elim (fun e => by have h1 := HTL.out; have h2 := HG5.out; omega) (fun e => by have h1 := (HSL.out _ e).2; have h2 := HG5.out; omega)))
  replace X5 := hidB (X5.out.kept hHeld (show ¬ (g5 = T ∨ (Value.slice qe sn ce).ownBlock = some (g5)) from fun e => e.elim (fun e => by have h1 := HTL.out; have h2 := HG5.out; omega) (fun e => by have h1 := (HSL.out _ e).2; have h2 := HG5.out; omega)))
  replace Y := hidB (Y.out.kept hHeld (show ¬ (w.heap.size = T ∨ (Value.slice qe sn ce).ownBlock = some (w.heap.size)) from fun e => e.elim (fun e => by have h1 := HTL.out; have h2 := HG5.out; omega) (fun e => by have h1 := (HSL.out _ e).2; have h2 := HG5.out; omega)))
  replace KW := hidB (KW.out.trans hHeld)
  replace HQW := hidB ((hHeld.block gq HGQ1.out (fun e => e.elim (fun e => HTQ.out e) (fun e => HSQ.out e))).trans HQW.out)
  have HL10 := hidB (Nat.le_trans HL5.out hHeld.size)
  replace HGQ1 := hidB (Nat.lt_of_lt_of_le HGQ1.out hHeld.size)
  clear hHeld HE TB
  have t2 : w10.cell? ⟨T, 2, none⟩ = some (.int .i64 mn) := TBc.out.cell 2
  have tf : w10.frozen? ⟨T, 2, none⟩ = false := TBc.out.free 2
  go_upto_region 6 with fail
  have hfar : ∀ k, k ≠ T → (w10.setCell ⟨T, 2, none⟩ (.int .i64 (mn + 1))).heap[k]? = w10.heap[k]? := fun k hk => Below.heap_setCell w10 _ _ k hk
  replace R := hidB (show Bk (w10.setCell ⟨T, 2, none⟩ (.int .i64 (mn + 1))) (w.heap.size + 1) 49 (OI.zero.cs) from (hfar _ (by have h1 := HTL.out; have h2 := HG5.out; omega)).trans R.out)
  replace X5 := hidB (show Bk (w10.setCell ⟨T, 2, none⟩ (.int .i64 (mn + 1))) (g5) 95 ((entC iv a lv bg0)) from (hfar _ (by have h1 := HTL.out; have h2 := HG5.out; omega)).trans X5.out)
  replace Y := hidB (show Bk (w10.setCell ⟨T, 2, none⟩ (.int .i64 (mn + 1))) (w.heap.size) 49 (o.cs) from (hfar _ (by have h1 := HTL.out; have h2 := HG5.out; omega)).trans Y.out)
  replace HOWN2 := hidB (show (w10.setCell ⟨T, 2, none⟩ (.int .i64 (mn + 1))).ownsRow B1 121 32 (.slice q2 (sn + 1) c2) (sn + 1) (ys ++ (seenC bg0 a kk tx).toList) from own_eq HOWN2.out (fun k hk => hfar k (own_neB HOWN2.out TBc.out (by decide) hk)))
  replace TBc := hidB (show Bk (w10.setCell ⟨T, 2, none⟩ (.int .i64 (mn + 1))) T 68 (tkC gw (.slice (some ⟨gq, 0, none⟩) n cs) (mn + 1) bg fa flv wn ov hd (.slice q2 (sn + 1) c2)) from TBc.out.set 2 _)
  replace KW := hidB (show Kept (fun k => k = T ∨ (Value.slice qe sn ce).ownBlock = some k) w (w10.setCell ⟨T, 2, none⟩ (.int .i64 (mn + 1))) from KW.out.setCell (p := ⟨T, 2, none⟩) (.inl (.inl rfl)) _)
  replace HQW := hidB (show (w10.setCell ⟨T, 2, none⟩ (.int .i64 (mn + 1))).heap[gq]? = w.heap[gq]? from (hfar gq HTQ.out).trans HQW.out)
  clear t2 tf hfar
  generalize hW : (w10.setCell ⟨T, 2, none⟩ (.int .i64 (mn + 1))) = w11 at *
  clear hW
  have hgl := HGQ1.out
  have HTB := hidB TBc.out.lt
  have HRL := hidB R.out.lt
  have m1 : w11.cell? ⟨g5, 1, none⟩ = some (.int .u8 a.m) := X5.out.cell 1
  go_wp2_with (first | ((with_reducible refine ldId 49 (.tmp 3) ?_); refine wpList_load_row (by rfl) 49 (.tmp 3) (by rfl) (w.heap.size) (by rfl) 49 (o.cs) (0, 0) _ (by exact Y.out) Tryz.underlying49 (by rfl) (by kernel_rfl) ?_))
  refine (toldM_any a.m HM.out o (by rw [HK.out]; decide) _).mono ?_; rintro e w12 ⟨rfl, hb⟩
  have HB12 := hidB hb
  have HTK := hidB (told_key a.m o)
  replace R := hidB (R.out.on hb)
  replace TBc := hidB (TBc.out.on hb)
  replace HOWN2 := hidB (own_on HOWN2.out hb)
  replace KW := hidB (KW.out.trans (Kept.below hb))
  have HQ12 := hidB (show w12.heap[gq]? = w.heap[gq]? from (hb.block gq (by have h1 := HGQ.out.2; have h2 := HRL.out; omega)).trans HQW.out)
  clear hb HQW hgl
  go_wp2_with (first | ((with_reducible refine stId 49 (.tmp 4) (.tmp 64) ?_); refine wpList_store_row (by rfl) 49 (.tmp 4) (.tmp 64) (by rfl) (w.heap.size + 1) ((toldI a.m o).cs) (by rfl) (by rfl) 49 (OI.zero.cs) (by exact R.out) (by kernel_rfl) (by rfl) (by exact OI.one _ HTK.out) ?_))
  refine bodyPost_ret (v := .agg ((toldI a.m o).cs)) (results_cell_row Tryz.results40 _ _ (w.heap.size + 1) 49 ((toldI a.m o).cs) (0, 0) _ rfl (R.out.setRow _) Tryz.underlying49 rfl (by kernel_rfl)) rfl ?_
  exact ⟨.slice q2 (sn + 1) c2, _, rfl, TBc.out.setRow_far (by have := HTL.out; omega) _, HPOP.out (w12.setRow (w.heap.size + 1) (toldI a.m o).cs) ((heap_setRow w12 (by have := HGQ.out.2; omega) _).trans HQ12.out), own_eq HOWN2.out (fun k hk => heap_setRow _ (own_neB HOWN2.out R.out (by decide) hk) _), KW.out.setRow (g := w.heap.size + 1) (.inr (by omega)) _, fun k hk => (HBLK.out k hk).imp id (fun h => by have h1 := HWB.out; have h2 := HL5.out; omega)⟩

end Go.Proofs.YtbmaodlghglopaaGreatDoor
