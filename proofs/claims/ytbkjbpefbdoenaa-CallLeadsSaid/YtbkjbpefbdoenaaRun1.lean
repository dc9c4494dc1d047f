/-
  A call, a construction: the walks of the functions that a machine runs.
-/
import Derived.Test.YtbkjbpefbdoenaaWant
namespace Go.Proofs.Ytbkjbpefbdoenaa
open Go.RowKit

/-- What a run comes to: an outcome with its keys, or a want that holds a list of values. -/
inductive Res where
  | out (x : OI) (ks : List KI)
  | want (W : Value → WI) (l : List VI)
/-- The same, in memory. -/
def RunR (r : Res) (p B : Nat) (O : OI) (w' : World) : Prop := match r with
  | .out x ks => x.kd ≠ 0 ∧ ks.length ≤ 1024 ∧ ∃ kv, O = x.put kv ∧ w'.ownsRow B 38 2 kv ks.length (ks.flatMap KI.cells)
  | .want W l => O.kd = 0 ∧ ∃ av ans n, w'.ownsRow B 24 4 av l.length (l.flatMap VI.cells) ∧ Bk w' p 92 (playC ans n (W av))
def onlyR (e : OI × List KI) : Res := if e.1.kd = 1 then .out (doneI e.1.v) [] else .out e.1 e.2
def callA (m : Int) (f th : VI) (av : Value) : AI := { AI.zero with m := m, ob := f.r, v := th, args := av }
def askR (m : Int) (f th : VI) (args : List VI) : List (OI × List KI) → Res
  | [] => .want (fun av => methW (callA m f th av)) args
  | e :: _ => onlyR e
def startS (f th : VI) (args : List VI) (L : List (OI × List KI)) : Res := if isCal f.k = true then askR 12 f th args L else .out typeI []
def makeS (f th : VI) (args : List VI) (L : List (OI × List KI)) : Res := if f.k = 8 then askR 13 f th args L else .out typeI []
theorem WantRes.on {t : WI} {p : Nat} {ans : Value} {k : Nat} {wt : WI} {L : List (OI × List KI)} {B : Nat} {O : OI} {w w' : World} (h : WantRes t p ans k wt L B O w) (hb : Below w.heap.size w w') : WantRes t p ans k wt L B O w' := by
  rcases h with ⟨hl, kv, e, h, h'⟩ | ⟨h1, h2, h3⟩
  · exact .inl ⟨hl, kv, e, own_on h hb, h'.on hb⟩
  · exact .inr ⟨h1, h2, h3.on hb⟩
theorem run_of_ask {m : Int} {f th : VI} {args : List VI} {L : List (OI × List KI)} {p : Nat} {ans av : Value} {wt : WI} {B : Nat} {O : OI} {w w' : World} (h : WantRes (methW (callA m f th av)) p ans 0 wt L B O w') (ho : w'.ownsRow B 24 4 av args.length (args.flatMap VI.cells)) (hA : AnsR p L ans w) : RunR (askR m f th args L) p B (onlyI O) w' := by
  rcases h with ⟨hl, kv, rfl, h, h'⟩ | ⟨h1, rfl, h3⟩
  · cases L with
    | nil => exact absurd hl (by simp)
    | cons e L =>
      have hk := hA.keys e (by simp)
      show RunR (onlyR e) p B (onlyI (e.1.put kv)) w'
      unfold onlyR onlyI
      by_cases h1 : e.1.kd = 1
      · rw [if_pos h1, if_pos (show (OI.put e.1 kv).kd = 1 from h1)]
        exact ⟨by simp [doneI], by simp, vNil, rfl, World.ownsRow_nil _ _ _ _⟩
      · rw [if_neg h1, if_neg (show ¬ (OI.put e.1 kv).kd = 1 from h1)]
        exact ⟨by rcases hk.2.2.2 with h | h <;> omega, hk.2.1, kv, rfl, h⟩
  · cases L with
    | nil => exact ⟨rfl, av, ans, _, ho, h3⟩
    | cons e L => exact absurd h1 (by simp)
theorem RunR.lower {r : Res} {p B B' : Nat} {O : OI} {w' : World} (h : RunR r p B O w') (hB : B' ≤ B) : RunR r p B' O w' := by
  cases r with
  | out x ks => obtain ⟨h1, h2, kv, e, h⟩ := h; exact ⟨h1, h2, kv, e, own_base h fun k hk => Nat.le_trans hB (h.lt k hk).1⟩
  | want W l => obtain ⟨h1, av, ans, n, h, h'⟩ := h; exact ⟨h1, av, ans, n, own_base h fun k hk => Nat.le_trans hB (h.lt k hk).1, h'⟩
theorem WantRes.key {t : WI} {p : Nat} {ans : Value} {k : Nat} {wt : WI} {L : List (OI × List KI)} {B : Nat} {O : OI} {w' : World} (h : WantRes t p ans k wt L B O w') : O.keys.oneCell' = true := by
  rcases h with ⟨_, kv, rfl, h, _⟩ | ⟨_, rfl, _⟩
  · exact own_one h
  · rfl
theorem onlyI_key {O : OI} (h : O.keys.oneCell' = true) : (onlyI O).keys.oneCell' = true := by
  unfold onlyI
  split
  · rfl
  · exact h
/-- What a call or a construction has captured. -/
structure CapS (E : Nat → Prop) (gf gt ga : Nat) (av : Value) (f th : VI) (args : List VI) (w : World) : Prop where
  bf : Bk w gf 24 f.cells.toArray
  bt : Bk w gt 24 th.cells.toArray
  ba : Bk w ga 25 #[av]
  rd : RdL VI.cells 4 args av w
  ef : E gf
  et : E gt
  ea : E ga
  ev : ∀ k, av.ownBlock = some k → E k
  len : args.length ≤ 64
theorem CapS.keep {E : Nat → Prop} {gf gt ga : Nat} {av : Value} {f th : VI} {args : List VI} {w w' : World} (h : CapS E gf gt ga av f th args w) (hs : w.heap.size ≤ w'.heap.size) (hb : ∀ k, E k → k < w.heap.size → w'.heap[k]? = w.heap[k]?) : CapS E gf gt ga av f th args w' :=
  ⟨(hb gf h.ef h.bf.lt).trans h.bf, (hb gt h.et h.bt.lt).trans h.bt, (hb ga h.ea h.ba.lt).trans h.ba, h.rd.keep hs fun k hv hk => hb k (h.ev k hv) hk, h.ef, h.et, h.ea, h.ev, h.len⟩
theorem CapS.kept {E : Nat → Prop} {gf gt ga : Nat} {av : Value} {f th : VI} {args : List VI} {w w' : World} {p : Nat} (h : CapS E gf gt ga av f th args w) (hp : ¬ E p) (hk : Kept (fun q => q = p) w w') : CapS E gf gt ga av f th args w' :=
  h.keep hk.size fun k he hlt => hk.block k hlt (fun e => hp (e ▸ he))

set_option maxHeartbeats 8000000 in
set_option maxRecDepth 100000 in
theorem start1_any (f th : VI) (args : List VI) (E : Nat → Prop) (gf gt ga : Nat) (av : Value) (p : Nat) (ans : Value) (wt : WI) (L : List (OI × List KI)) (w : World) (hC : CapS E gf gt ga av f th args w) (hE : ¬ E p) (hP : Bk w p 92 (playC ans 0 wt)) (hA : AnsR p L ans w) : Calls Try.prog 37 #[.pointer (some ⟨p, 0, none⟩), .pointer (some ⟨gf, 0, none⟩), .pointer (some ⟨gt, 0, none⟩), .pointer (some ⟨ga, 0, none⟩)] w fun e w' => ∃ O : OI, e = .returned O.a ∧ O.keys.oneCell' = true ∧ Kept (fun q => q = p) w w' ∧ RunR (startS f th args L) p w.heap.size O w' := by
  have HPL := hidB hP.lt
  have R := hidB (show Bk (w.alloc (.cells (#[.int .u8 0, .int .u8 0, .float .f64 0, .string ⟨#[]⟩, .int .i64 0, .bool false, .bool false, .int .u8 0, .int .u8 0, .float .f64 0, .string ⟨#[]⟩, .int .i64 0, .int .u8 0, .float .f64 0, .string ⟨#[]⟩, .int .i64 0, .int .u8 0, .float .f64 0, .string ⟨#[]⟩, .int .i64 0, .bool false, .bool false, .bool false, .slice none 0 0, .int .u8 0, .string ⟨#[]⟩]) 36)) (w.heap.size) 36 (OI.zero.cs) from Bk.new w _ _)
  have B := hidB (show Below w.heap.size w (w.alloc (.cells (#[.int .u8 0, .int .u8 0, .float .f64 0, .string ⟨#[]⟩, .int .i64 0, .bool false, .bool false, .int .u8 0, .int .u8 0, .float .f64 0, .string ⟨#[]⟩, .int .i64 0, .int .u8 0, .float .f64 0, .string ⟨#[]⟩, .int .i64 0, .int .u8 0, .float .f64 0, .string ⟨#[]⟩, .int .i64 0, .bool false, .bool false, .bool false, .slice none 0 0, .int .u8 0, .string ⟨#[]⟩]) 36)) from box_one w _)
  have PF := hidB (show Bk (w.alloc (.cells (#[.int .u8 0, .int .u8 0, .float .f64 0, .string ⟨#[]⟩, .int .i64 0, .bool false, .bool false, .int .u8 0, .int .u8 0, .float .f64 0, .string ⟨#[]⟩, .int .i64 0, .int .u8 0, .float .f64 0, .string ⟨#[]⟩, .int .i64 0, .int .u8 0, .float .f64 0, .string ⟨#[]⟩, .int .i64 0, .bool false, .bool false, .bool false, .slice none 0 0, .int .u8 0, .string ⟨#[]⟩]) 36)) p 92 (playC ans 0 wt) from hP.alloc _)
  have KW := hidB (show Kept (fun q => q = p) w (w.alloc (.cells (#[.int .u8 0, .int .u8 0, .float .f64 0, .string ⟨#[]⟩, .int .i64 0, .bool false, .bool false, .int .u8 0, .int .u8 0, .float .f64 0, .string ⟨#[]⟩, .int .i64 0, .int .u8 0, .float .f64 0, .string ⟨#[]⟩, .int .i64 0, .int .u8 0, .float .f64 0, .string ⟨#[]⟩, .int .i64 0, .bool false, .bool false, .bool false, .slice none 0 0, .int .u8 0, .string ⟨#[]⟩]) 36)) from (Kept.refl _ w).alloc _)
  have AF := hidB (fun W (h : Kept (fun q => q = p) w W) => hA.kept h)
  have CF := hidB (fun W (h : Kept (fun q => q = p) w W) => hC.kept hE h)
  obtain ⟨pa, ca, hav, _⟩ := hC.rd
  subst hav
  have HL := hidB hC.len
  have HA := hidB hA
  clear hP hA hC hE
  go_enter Try.func37, Try.ntmps37
  go_upto_region 1 with fail
  generalize hW : (w.alloc (.cells (#[.int .u8 0, .int .u8 0, .float .f64 0, .string ⟨#[]⟩, .int .i64 0, .bool false, .bool false, .int .u8 0, .int .u8 0, .float .f64 0, .string ⟨#[]⟩, .int .i64 0, .int .u8 0, .float .f64 0, .string ⟨#[]⟩, .int .i64 0, .int .u8 0, .float .f64 0, .string ⟨#[]⟩, .int .i64 0, .bool false, .bool false, .bool false, .slice none 0 0, .int .u8 0, .string ⟨#[]⟩]) 36)) = w1 at *
  clear hW
  have C1 := hidB (show Bk w1 gf 24 f.cells.toArray from (CF.out _ KW.out).bf)
  go_wp2_with (first | ((with_reducible refine ldId 24 (.tmp 1) ?_); refine wpList_load_row (by rfl) 24 (.tmp 1) (by rfl) (gf) (by rfl) 24 (f.cells.toArray) (0, 0) _ (by exact C1.out) Try.underlying24 (by rfl) (by kernel_rfl) ?_))
  refine (isCal_any f _).mono ?_; rintro e w2 ⟨rfl, hb⟩
  replace R := hidB (R.out.on hb)
  replace PF := hidB (PF.out.on hb)
  replace KW := hidB (KW.out.trans (Kept.below hb))
  have HSZ := hidB (Nat.le_trans B.out.size hb.size)
  clear hb C1
  cases hc : isCal f.k
  · have hs : startS f th args L = .out typeI [] := if_neg (by rw [hc]; decide)
    have HSP := hidB hs
    clear hs
    go_wp2_with fail
    refine (typeI_any _).mono ?_; rintro e w3 ⟨rfl, hb⟩
    replace R := hidB (R.out.on hb)
    replace KW := hidB (KW.out.trans (Kept.below hb))
    clear hb
    go_wp2_with (first | ((with_reducible refine stId 36 (.tmp 5) (.tmp 9) ?_); refine wpList_store_row (by rfl) 36 (.tmp 5) (.tmp 9) (by rfl) (w.heap.size) (typeI.cs) (by rfl) (by rfl) 36 (OI.zero.cs) (by exact R.out) (by kernel_rfl) (by rfl) (by exact OI.one _ rfl) ?_))
    exact bodyPost_ret (v := .agg (typeI.cs)) (results_cell_row Try.results37 _ _ (w.heap.size) 36 (typeI.cs) (0, 0) _ rfl (R.out.setRow _) Try.underlying36 rfl (by kernel_rfl)) rfl (show ∃ O' : OI, Ending.returned typeI.a = .returned O'.a ∧ _ ∧ _ ∧ _ from ⟨typeI, rfl, rfl, KW.out.setRow (g := w.heap.size) (.inr (Nat.le_refl _)) typeI.cs, by rw [HSP.out]; exact ⟨by decide, by simp, vNil, rfl, World.ownsRow_nil _ _ _ _⟩⟩)
  · have hs : startS f th args L = askR 12 f th args L := if_pos hc
    have HSP := hidB hs
    clear hs
    go_upto_region 3 with fail
    refine wp_region_noPanic ?_
    refine wp_region_held_drew (S := fun W => Kept (fun q => q = p) w W) (by kernel_rfl) ?_ (fun hHeld => ?_)
    · exact KW.out.drew
    replace R := hidB (show Bk w2.drew (w.heap.size) 36 OI.zero.cs from R.out.drew)
    replace PF := hidB (show Bk w2.drew p 92 (playC ans 0 wt) from PF.out.drew)
    have HS1 := hidB (show w.heap.size + 1 ≤ w2.drew.heap.size from R.out.lt)
    generalize hWd : w2.drew = wd at *
    clear hWd
    first | (refine wpAnyH_take (i := 0) (v := undef) (by simp only [List.getElem?_toArray, List.getElem?_cons_zero]; exact rfl) (by kernel_rfl) (by kernel_rfl) (by kernel_rfl) (fun _ _ _ h => h) (Or.inr ⟨?_, rfl⟩) (by assumption) ?_; (rfl); try simp only [Act.put, List.setIfInBounds_toArray, List.set_cons_zero, List.set_cons_succ]) | (refine wpAnyH_take (i := 0) (v := ?_) (by simp only [List.getElem?_toArray, List.getElem?_cons_zero]; exact rfl) (by kernel_rfl) (by kernel_rfl) (by kernel_rfl) (fun _ _ _ h => h) (Or.inl ⟨?_, ?_⟩) (by assumption) ?_; rotate_left; (rfl); (focus (intro w hSw; (try dsimp only at hSw); go_simp; try with_reducible rfl)); try simp only [Act.put, List.setIfInBounds_toArray, List.set_cons_zero, List.set_cons_succ])
    first | (refine wpAnyH_take (i := 1) (v := undef) (by simp only [List.getElem?_toArray, List.getElem?_cons_succ, List.getElem?_cons_zero]; exact rfl) (by kernel_rfl) (by kernel_rfl) (by kernel_rfl) (fun _ _ _ h => h) (Or.inr ⟨?_, rfl⟩) (by assumption) ?_; (rfl); try simp only [Act.put, List.setIfInBounds_toArray, List.set_cons_zero, List.set_cons_succ]) | (refine wpAnyH_take (i := 1) (v := ?_) (by simp only [List.getElem?_toArray, List.getElem?_cons_succ, List.getElem?_cons_zero]; exact rfl) (by kernel_rfl) (by kernel_rfl) (by kernel_rfl) (fun _ _ _ h => h) (Or.inl ⟨?_, ?_⟩) (by assumption) ?_; rotate_left; (rfl); (focus (intro w hSw; (try dsimp only at hSw); go_simp; try with_reducible rfl)); try simp only [Act.put, List.setIfInBounds_toArray, List.set_cons_zero, List.set_cons_succ])
    first | (refine wpAnyH_take (i := 2) (v := undef) (by simp only [List.getElem?_toArray, List.getElem?_cons_succ, List.getElem?_cons_zero]; exact rfl) (by kernel_rfl) (by kernel_rfl) (by kernel_rfl) (fun _ _ _ h => h) (Or.inr ⟨?_, rfl⟩) (by assumption) ?_; (rfl); try simp only [Act.put, List.setIfInBounds_toArray, List.set_cons_zero, List.set_cons_succ]) | (refine wpAnyH_take (i := 2) (v := ?_) (by simp only [List.getElem?_toArray, List.getElem?_cons_succ, List.getElem?_cons_zero]; exact rfl) (by kernel_rfl) (by kernel_rfl) (by kernel_rfl) (fun _ _ _ h => h) (Or.inl ⟨?_, ?_⟩) (by assumption) ?_; rotate_left; (rfl); (focus (intro W hSw; have hc0 := (show W.cell? ⟨gf, 3, none⟩ = some (.int .i64 f.r) from (CF.out W hSw).bf.cell 3); clear hSw; go_simp; try with_reducible rfl)); try simp only [Act.put, List.setIfInBounds_toArray, List.set_cons_zero, List.set_cons_succ])
    (refine wpAnyH_take (i := 3) (v := th.a) (by simp only [List.getElem?_toArray, List.getElem?_cons_succ, List.getElem?_cons_zero]; exact rfl) (by kernel_rfl) (by kernel_rfl) (by kernel_rfl) (fun _ _ _ h => h) (yieldsIf_load_mid (by rfl) 24 (.tmp 2) (by rfl) (gt) (0) (by rfl) (th.cells) _ (fun W hS => Bk.mid (CF.out W hS).bt 0 _ rfl) Try.underlying24 (by rfl) (by kernel_rfl)) (by assumption) ?_; try simp only [Act.put, List.setIfInBounds_toArray, List.set_cons_zero, List.set_cons_succ])
    first | (refine wpAnyH_take (i := 4) (v := undef) (by simp only [List.getElem?_toArray, List.getElem?_cons_succ, List.getElem?_cons_zero]; exact rfl) (by kernel_rfl) (by kernel_rfl) (by kernel_rfl) (fun _ _ _ h => h) (Or.inr ⟨?_, rfl⟩) (by assumption) ?_; (rfl); try simp only [Act.put, List.setIfInBounds_toArray, List.set_cons_zero, List.set_cons_succ]) | (refine wpAnyH_take (i := 4) (v := ?_) (by simp only [List.getElem?_toArray, List.getElem?_cons_succ, List.getElem?_cons_zero]; exact rfl) (by kernel_rfl) (by kernel_rfl) (by kernel_rfl) (fun _ _ _ h => h) (Or.inl ⟨?_, ?_⟩) (by assumption) ?_; rotate_left; (rfl); (focus (intro W hSw; have hc0 := (show W.cell? ⟨ga, 0, none⟩ = some (.slice pa args.length ca) from (CF.out W hSw).ba.cell 0); clear hSw; go_simp; try with_reducible rfl)); try simp only [Act.put, List.setIfInBounds_toArray, List.set_cons_zero, List.set_cons_succ])
    refine wpAnyH_ready (rs := [5]) (by kernel_rfl) (by simp) ?_
    refine AllReadyH.cons rfl (fun K hK => ?_) AllReadyH.nil
    go_simp
    refine (cloneV_any args _ _ ((CF.out _ hHeld).rd) (by have := HL.out; omega)).mono ?_; rintro e v1 ⟨av2, rfl, hown, hb⟩
    obtain ⟨q2, c2, hq⟩ := own_slice hown
    subst hq
    replace R := hidB (R.out.on hb)
    replace PF := hidB (PF.out.on hb)
    have HO := hidB (own_base (base' := w.heap.size + 1) hown (fun k hk => Nat.le_trans (by exact HS1.out) (hown.lt k hk).1))
    replace hHeld := hHeld.trans (Kept.below hb)
    have HSZ2 := hidB (Nat.le_trans HS1.out hb.size)
    clear hb hown
    refine hK.out _ _ hHeld (fun _ => ?_)
    clear hK K
    try simp only [Act.put, List.setIfInBounds_toArray, List.set_cons_zero, List.set_cons_succ]
    (refine wpAnyH_take (i := 6) (v := .agg ((callA 12 f th (.slice q2 args.length c2)).cs)) (by simp only [List.getElem?_toArray, List.getElem?_cons_succ, List.getElem?_cons_zero]; exact rfl) (by kernel_rfl) (by kernel_rfl) (by kernel_rfl) (fun _ _ _ h => h) (yieldsIf_build (by rfl) 40 _ (by rfl) [(0, .int .u8 12), (1, .int .i64 f.r), (4, th.a), (6, .slice q2 args.length c2)] (by kernel_rfl) ((callA 12 f th (.slice q2 args.length c2)).cs) (by kernel_rfl)) (by assumption) ?_; try simp only [Act.put, List.setIfInBounds_toArray, List.set_cons_zero, List.set_cons_succ])
    refine wpAnyH_ready (rs := [7]) (by kernel_rfl) (by simp) ?_
    refine AllReadyH.cons rfl (fun K hK => ?_) AllReadyH.nil
    go_simp
    refine (method_any (callA 12 f th (.slice q2 args.length c2)) rfl p ans 0 wt L v1 (by decide) PF.out (AF.out _ hHeld)).mono ?_; rintro e v2 ⟨O, rfl, hkp, hres⟩
    have HRES := hidB (hres.lower HSZ2.out)
    replace HO := hidB (own_kept HO.out hkp (fun k hk e => by have := (HO.out.lt k hk).1; have := HPL.out; omega))
    replace R := hidB (R.out.kept hkp (by have := HPL.out; omega))
    replace hHeld := hHeld.trans hkp
    have HONE := hidB hres.one
    have HK1 := hidB (show O.keys.oneCell' = true from hres.key)
    clear hres hkp PF
    refine hK.out _ _ hHeld (fun _ => ?_)
    clear hK K
    try simp only [Act.put, List.setIfInBounds_toArray, List.set_cons_zero, List.set_cons_succ]
    refine wpAnyH_ready (rs := [8]) (by kernel_rfl) (by simp) ?_
    refine AllReadyH.cons rfl (fun K hK => ?_) AllReadyH.nil
    go_simp
    refine (only_any O HK1.out _).mono ?_; rintro e v3 ⟨rfl, hb⟩
    replace HRES := hidB (HRES.out.on hb)
    replace HO := hidB (own_on HO.out hb)
    replace R := hidB (R.out.on hb)
    replace hHeld := hHeld.trans (Kept.below hb)
    have HK2 := hidB (onlyI_key HK1.out)
    clear hb
    refine hK.out _ _ hHeld (fun _ => ?_)
    clear hK K
    try simp only [Act.put, List.setIfInBounds_toArray, List.set_cons_zero, List.set_cons_succ]
    refine wpAnyH_ready (rs := [9]) (by kernel_rfl) (by simp) ?_
    refine AllReadyH.cons rfl (fun K hK => ?_) AllReadyH.nil
    rw [if_pos (by kernel_rfl)]
    refine wp_store_row 36 (.tmp 5) (.tmp 18) (by rfl) (w.heap.size) ((onlyI O).cs) (by rfl) (by rfl) 36 (OI.zero.cs) (by exact R.out) (by kernel_rfl) (by rfl) (by exact OI.one _ HK2.out) ?_
    have HRUN := hidB (run_of_ask (HRES.out.setRow (g := w.heap.size) (Nat.lt_succ_self _) (Nat.ne_of_gt HPL.out) (onlyI O).cs) (own_setRow HO.out (g := w.heap.size) (Nat.lt_succ_self _) (onlyI O).cs) HA.out)
    have RR := hidB (R.out.setRow (onlyI O).cs)
    replace hHeld := hHeld.setRow (g := w.heap.size) (.inr (Nat.le_refl _)) (onlyI O).cs
    refine put_none_K (by first | rfl | kernel_rfl) ?_
    refine hK.out _ _ hHeld (fun _ => ?_)
    clear hK K
    refine wpAnyH_done (by kernel_rfl) ?_ _
    refine NoPanic.normal ?_
    go_wp2_with fail
    exact bodyPost_ret (v := .agg ((onlyI O).cs)) (results_cell_row Try.results37 _ _ (w.heap.size) 36 ((onlyI O).cs) (0, 0) _ rfl (RR.out) Try.underlying36 rfl (by kernel_rfl)) rfl (⟨_, rfl, HK2.out, hHeld, by rw [HSP.out]; exact HRUN.out.lower (Nat.le_succ _)⟩)
set_option maxHeartbeats 8000000 in
set_option maxRecDepth 100000 in
theorem make1_any (f th : VI) (args : List VI) (E : Nat → Prop) (gf gt ga : Nat) (av : Value) (p : Nat) (ans : Value) (wt : WI) (L : List (OI × List KI)) (w : World) (hC : CapS E gf gt ga av f th args w) (hE : ¬ E p) (hP : Bk w p 92 (playC ans 0 wt)) (hA : AnsR p L ans w) : Calls Try.prog 41 #[.pointer (some ⟨p, 0, none⟩), .pointer (some ⟨gf, 0, none⟩), .pointer (some ⟨gt, 0, none⟩), .pointer (some ⟨ga, 0, none⟩)] w fun e w' => ∃ O : OI, e = .returned O.a ∧ O.keys.oneCell' = true ∧ Kept (fun q => q = p) w w' ∧ RunR (makeS f th args L) p w.heap.size O w' := by
  have HPL := hidB hP.lt
  have R := hidB (show Bk (w.alloc (.cells (#[.int .u8 0, .int .u8 0, .float .f64 0, .string ⟨#[]⟩, .int .i64 0, .bool false, .bool false, .int .u8 0, .int .u8 0, .float .f64 0, .string ⟨#[]⟩, .int .i64 0, .int .u8 0, .float .f64 0, .string ⟨#[]⟩, .int .i64 0, .int .u8 0, .float .f64 0, .string ⟨#[]⟩, .int .i64 0, .bool false, .bool false, .bool false, .slice none 0 0, .int .u8 0, .string ⟨#[]⟩]) 36)) (w.heap.size) 36 (OI.zero.cs) from Bk.new w _ _)
  have B := hidB (show Below w.heap.size w (w.alloc (.cells (#[.int .u8 0, .int .u8 0, .float .f64 0, .string ⟨#[]⟩, .int .i64 0, .bool false, .bool false, .int .u8 0, .int .u8 0, .float .f64 0, .string ⟨#[]⟩, .int .i64 0, .int .u8 0, .float .f64 0, .string ⟨#[]⟩, .int .i64 0, .int .u8 0, .float .f64 0, .string ⟨#[]⟩, .int .i64 0, .bool false, .bool false, .bool false, .slice none 0 0, .int .u8 0, .string ⟨#[]⟩]) 36)) from box_one w _)
  have PF := hidB (show Bk (w.alloc (.cells (#[.int .u8 0, .int .u8 0, .float .f64 0, .string ⟨#[]⟩, .int .i64 0, .bool false, .bool false, .int .u8 0, .int .u8 0, .float .f64 0, .string ⟨#[]⟩, .int .i64 0, .int .u8 0, .float .f64 0, .string ⟨#[]⟩, .int .i64 0, .int .u8 0, .float .f64 0, .string ⟨#[]⟩, .int .i64 0, .bool false, .bool false, .bool false, .slice none 0 0, .int .u8 0, .string ⟨#[]⟩]) 36)) p 92 (playC ans 0 wt) from hP.alloc _)
  have KW := hidB (show Kept (fun q => q = p) w (w.alloc (.cells (#[.int .u8 0, .int .u8 0, .float .f64 0, .string ⟨#[]⟩, .int .i64 0, .bool false, .bool false, .int .u8 0, .int .u8 0, .float .f64 0, .string ⟨#[]⟩, .int .i64 0, .int .u8 0, .float .f64 0, .string ⟨#[]⟩, .int .i64 0, .int .u8 0, .float .f64 0, .string ⟨#[]⟩, .int .i64 0, .bool false, .bool false, .bool false, .slice none 0 0, .int .u8 0, .string ⟨#[]⟩]) 36)) from (Kept.refl _ w).alloc _)
  have AF := hidB (fun W (h : Kept (fun q => q = p) w W) => hA.kept h)
  have CF := hidB (fun W (h : Kept (fun q => q = p) w W) => hC.kept hE h)
  obtain ⟨pa, ca, hav, _⟩ := hC.rd
  subst hav
  have HL := hidB hC.len
  have HA := hidB hA
  clear hP hA hC hE
  go_enter Try.func41, Try.ntmps41
  go_upto_region 1 with fail
  generalize hW : (w.alloc (.cells (#[.int .u8 0, .int .u8 0, .float .f64 0, .string ⟨#[]⟩, .int .i64 0, .bool false, .bool false, .int .u8 0, .int .u8 0, .float .f64 0, .string ⟨#[]⟩, .int .i64 0, .int .u8 0, .float .f64 0, .string ⟨#[]⟩, .int .i64 0, .int .u8 0, .float .f64 0, .string ⟨#[]⟩, .int .i64 0, .bool false, .bool false, .bool false, .slice none 0 0, .int .u8 0, .string ⟨#[]⟩]) 36)) = w1 at *
  clear hW
  have C1 := hidB (show Bk w1 gf 24 f.cells.toArray from (CF.out _ KW.out).bf)
  have HSZ := hidB B.out.size
  by_cases hc : f.k = 8
  · have hs : makeS f th args L = askR 13 f th args L := if_pos hc
    have x0 : w1.cell? ⟨gf, 0, none⟩ = some (.int .u8 8) := by rw [← hc]; exact C1.out.cell 0
    have HSP := hidB hs
    clear hs
    go_upto_region 3 with fail
    refine wp_region_noPanic ?_
    refine wp_region_held_drew (S := fun W => Kept (fun q => q = p) w W) (by kernel_rfl) ?_ (fun hHeld => ?_)
    · exact KW.out.drew
    replace R := hidB (show Bk w1.drew (w.heap.size) 36 OI.zero.cs from R.out.drew)
    replace PF := hidB (show Bk w1.drew p 92 (playC ans 0 wt) from PF.out.drew)
    have HS1 := hidB (show w.heap.size + 1 ≤ w1.drew.heap.size from R.out.lt)
    generalize hWd : w1.drew = wd at *
    clear hWd
    first | (refine wpAnyH_take (i := 0) (v := undef) (by simp only [List.getElem?_toArray, List.getElem?_cons_zero]; exact rfl) (by kernel_rfl) (by kernel_rfl) (by kernel_rfl) (fun _ _ _ h => h) (Or.inr ⟨?_, rfl⟩) (by assumption) ?_; (rfl); try simp only [Act.put, List.setIfInBounds_toArray, List.set_cons_zero, List.set_cons_succ]) | (refine wpAnyH_take (i := 0) (v := ?_) (by simp only [List.getElem?_toArray, List.getElem?_cons_zero]; exact rfl) (by kernel_rfl) (by kernel_rfl) (by kernel_rfl) (fun _ _ _ h => h) (Or.inl ⟨?_, ?_⟩) (by assumption) ?_; rotate_left; (rfl); (focus (intro w hSw; (try dsimp only at hSw); go_simp; try with_reducible rfl)); try simp only [Act.put, List.setIfInBounds_toArray, List.set_cons_zero, List.set_cons_succ])
    first | (refine wpAnyH_take (i := 1) (v := undef) (by simp only [List.getElem?_toArray, List.getElem?_cons_succ, List.getElem?_cons_zero]; exact rfl) (by kernel_rfl) (by kernel_rfl) (by kernel_rfl) (fun _ _ _ h => h) (Or.inr ⟨?_, rfl⟩) (by assumption) ?_; (rfl); try simp only [Act.put, List.setIfInBounds_toArray, List.set_cons_zero, List.set_cons_succ]) | (refine wpAnyH_take (i := 1) (v := ?_) (by simp only [List.getElem?_toArray, List.getElem?_cons_succ, List.getElem?_cons_zero]; exact rfl) (by kernel_rfl) (by kernel_rfl) (by kernel_rfl) (fun _ _ _ h => h) (Or.inl ⟨?_, ?_⟩) (by assumption) ?_; rotate_left; (rfl); (focus (intro w hSw; (try dsimp only at hSw); go_simp; try with_reducible rfl)); try simp only [Act.put, List.setIfInBounds_toArray, List.set_cons_zero, List.set_cons_succ])
    first | (refine wpAnyH_take (i := 2) (v := undef) (by simp only [List.getElem?_toArray, List.getElem?_cons_succ, List.getElem?_cons_zero]; exact rfl) (by kernel_rfl) (by kernel_rfl) (by kernel_rfl) (fun _ _ _ h => h) (Or.inr ⟨?_, rfl⟩) (by assumption) ?_; (rfl); try simp only [Act.put, List.setIfInBounds_toArray, List.set_cons_zero, List.set_cons_succ]) | (refine wpAnyH_take (i := 2) (v := ?_) (by simp only [List.getElem?_toArray, List.getElem?_cons_succ, List.getElem?_cons_zero]; exact rfl) (by kernel_rfl) (by kernel_rfl) (by kernel_rfl) (fun _ _ _ h => h) (Or.inl ⟨?_, ?_⟩) (by assumption) ?_; rotate_left; (rfl); (focus (intro W hSw; have hc0 := (show W.cell? ⟨gf, 3, none⟩ = some (.int .i64 f.r) from (CF.out W hSw).bf.cell 3); clear hSw; go_simp; try with_reducible rfl)); try simp only [Act.put, List.setIfInBounds_toArray, List.set_cons_zero, List.set_cons_succ])
    (refine wpAnyH_take (i := 3) (v := th.a) (by simp only [List.getElem?_toArray, List.getElem?_cons_succ, List.getElem?_cons_zero]; exact rfl) (by kernel_rfl) (by kernel_rfl) (by kernel_rfl) (fun _ _ _ h => h) (yieldsIf_load_mid (by rfl) 24 (.tmp 2) (by rfl) (gt) (0) (by rfl) (th.cells) _ (fun W hS => Bk.mid (CF.out W hS).bt 0 _ rfl) Try.underlying24 (by rfl) (by kernel_rfl)) (by assumption) ?_; try simp only [Act.put, List.setIfInBounds_toArray, List.set_cons_zero, List.set_cons_succ])
    first | (refine wpAnyH_take (i := 4) (v := undef) (by simp only [List.getElem?_toArray, List.getElem?_cons_succ, List.getElem?_cons_zero]; exact rfl) (by kernel_rfl) (by kernel_rfl) (by kernel_rfl) (fun _ _ _ h => h) (Or.inr ⟨?_, rfl⟩) (by assumption) ?_; (rfl); try simp only [Act.put, List.setIfInBounds_toArray, List.set_cons_zero, List.set_cons_succ]) | (refine wpAnyH_take (i := 4) (v := ?_) (by simp only [List.getElem?_toArray, List.getElem?_cons_succ, List.getElem?_cons_zero]; exact rfl) (by kernel_rfl) (by kernel_rfl) (by kernel_rfl) (fun _ _ _ h => h) (Or.inl ⟨?_, ?_⟩) (by assumption) ?_; rotate_left; (rfl); (focus (intro W hSw; have hc0 := (show W.cell? ⟨ga, 0, none⟩ = some (.slice pa args.length ca) from (CF.out W hSw).ba.cell 0); clear hSw; go_simp; try with_reducible rfl)); try simp only [Act.put, List.setIfInBounds_toArray, List.set_cons_zero, List.set_cons_succ])
    refine wpAnyH_ready (rs := [5]) (by kernel_rfl) (by simp) ?_
    refine AllReadyH.cons rfl (fun K hK => ?_) AllReadyH.nil
    go_simp
    refine (cloneV_any args _ _ ((CF.out _ hHeld).rd) (by have := HL.out; omega)).mono ?_; rintro e v1 ⟨av2, rfl, hown, hb⟩
    obtain ⟨q2, c2, hq⟩ := own_slice hown
    subst hq
    replace R := hidB (R.out.on hb)
    replace PF := hidB (PF.out.on hb)
    have HO := hidB (own_base (base' := w.heap.size + 1) hown (fun k hk => Nat.le_trans (by exact HS1.out) (hown.lt k hk).1))
    replace hHeld := hHeld.trans (Kept.below hb)
    have HSZ2 := hidB (Nat.le_trans HS1.out hb.size)
    clear hb hown
    refine hK.out _ _ hHeld (fun _ => ?_)
    clear hK K
    try simp only [Act.put, List.setIfInBounds_toArray, List.set_cons_zero, List.set_cons_succ]
    (refine wpAnyH_take (i := 6) (v := .agg ((callA 13 f th (.slice q2 args.length c2)).cs)) (by simp only [List.getElem?_toArray, List.getElem?_cons_succ, List.getElem?_cons_zero]; exact rfl) (by kernel_rfl) (by kernel_rfl) (by kernel_rfl) (fun _ _ _ h => h) (yieldsIf_build (by rfl) 40 _ (by rfl) [(0, .int .u8 13), (1, .int .i64 f.r), (4, th.a), (6, .slice q2 args.length c2)] (by kernel_rfl) ((callA 13 f th (.slice q2 args.length c2)).cs) (by kernel_rfl)) (by assumption) ?_; try simp only [Act.put, List.setIfInBounds_toArray, List.set_cons_zero, List.set_cons_succ])
    refine wpAnyH_ready (rs := [7]) (by kernel_rfl) (by simp) ?_
    refine AllReadyH.cons rfl (fun K hK => ?_) AllReadyH.nil
    go_simp
    refine (method_any (callA 13 f th (.slice q2 args.length c2)) rfl p ans 0 wt L v1 (by decide) PF.out (AF.out _ hHeld)).mono ?_; rintro e v2 ⟨O, rfl, hkp, hres⟩
    have HRES := hidB (hres.lower HSZ2.out)
    replace HO := hidB (own_kept HO.out hkp (fun k hk e => by have := (HO.out.lt k hk).1; have := HPL.out; omega))
    replace R := hidB (R.out.kept hkp (by have := HPL.out; omega))
    replace hHeld := hHeld.trans hkp
    have HONE := hidB hres.one
    have HK1 := hidB (show O.keys.oneCell' = true from hres.key)
    clear hres hkp PF
    refine hK.out _ _ hHeld (fun _ => ?_)
    clear hK K
    try simp only [Act.put, List.setIfInBounds_toArray, List.set_cons_zero, List.set_cons_succ]
    refine wpAnyH_ready (rs := [8]) (by kernel_rfl) (by simp) ?_
    refine AllReadyH.cons rfl (fun K hK => ?_) AllReadyH.nil
    go_simp
    refine (only_any O HK1.out _).mono ?_; rintro e v3 ⟨rfl, hb⟩
    replace HRES := hidB (HRES.out.on hb)
    replace HO := hidB (own_on HO.out hb)
    replace R := hidB (R.out.on hb)
    replace hHeld := hHeld.trans (Kept.below hb)
    have HK2 := hidB (onlyI_key HK1.out)
    clear hb
    refine hK.out _ _ hHeld (fun _ => ?_)
    clear hK K
    try simp only [Act.put, List.setIfInBounds_toArray, List.set_cons_zero, List.set_cons_succ]
    refine wpAnyH_ready (rs := [9]) (by kernel_rfl) (by simp) ?_
    refine AllReadyH.cons rfl (fun K hK => ?_) AllReadyH.nil
    rw [if_pos (by kernel_rfl)]
    refine wp_store_row 36 (.tmp 5) (.tmp 18) (by rfl) (w.heap.size) ((onlyI O).cs) (by rfl) (by rfl) 36 (OI.zero.cs) (by exact R.out) (by kernel_rfl) (by rfl) (by exact OI.one _ HK2.out) ?_
    have HRUN := hidB (run_of_ask (HRES.out.setRow (g := w.heap.size) (Nat.lt_succ_self _) (Nat.ne_of_gt HPL.out) (onlyI O).cs) (own_setRow HO.out (g := w.heap.size) (Nat.lt_succ_self _) (onlyI O).cs) HA.out)
    have RR := hidB (R.out.setRow (onlyI O).cs)
    replace hHeld := hHeld.setRow (g := w.heap.size) (.inr (Nat.le_refl _)) (onlyI O).cs
    refine put_none_K (by first | rfl | kernel_rfl) ?_
    refine hK.out _ _ hHeld (fun _ => ?_)
    clear hK K
    refine wpAnyH_done (by kernel_rfl) ?_ _
    refine NoPanic.normal ?_
    go_wp2_with fail
    exact bodyPost_ret (v := .agg ((onlyI O).cs)) (results_cell_row Try.results41 _ _ (w.heap.size) 36 ((onlyI O).cs) (0, 0) _ rfl (RR.out) Try.underlying36 rfl (by kernel_rfl)) rfl (⟨_, rfl, HK2.out, hHeld, by rw [HSP.out]; exact HRUN.out.lower (Nat.le_succ _)⟩)
  · have hs : makeS f th args L = .out typeI [] := if_neg hc
    have x0 : w1.cell? ⟨gf, 0, none⟩ = some (.int .u8 f.k) := C1.out.cell 0
    have HSP := hidB hs
    clear hs
    go_wp2_with fail
    refine (typeI_any _).mono ?_; rintro e w3 ⟨rfl, hb⟩
    replace R := hidB (R.out.on hb)
    replace KW := hidB (KW.out.trans (Kept.below hb))
    clear hb
    go_wp2_with (first | ((with_reducible refine stId 36 (.tmp 5) (.tmp 9) ?_); refine wpList_store_row (by rfl) 36 (.tmp 5) (.tmp 9) (by rfl) (w.heap.size) (typeI.cs) (by rfl) (by rfl) 36 (OI.zero.cs) (by exact R.out) (by kernel_rfl) (by rfl) (by exact OI.one _ rfl) ?_))
    exact bodyPost_ret (v := .agg (typeI.cs)) (results_cell_row Try.results41 _ _ (w.heap.size) 36 (typeI.cs) (0, 0) _ rfl (R.out.setRow _) Try.underlying36 rfl (by kernel_rfl)) rfl (show ∃ O' : OI, Ending.returned typeI.a = .returned O'.a ∧ _ ∧ _ ∧ _ from ⟨typeI, rfl, rfl, KW.out.setRow (g := w.heap.size) (.inr (Nat.le_refl _)) typeI.cs, by rw [HSP.out]; exact ⟨by decide, by simp, vNil, rfl, World.ownsRow_nil _ _ _ _⟩⟩)

end Go.Proofs.Ytbkjbpefbdoenaa
