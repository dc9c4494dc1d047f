/-
  A construction's body: the walk of call.built.
-/
import Derived.Test.YtbkjbpefbdoenaaRun1
namespace Go.Proofs.Ytbkjbpefbdoenaa
open Go.RowKit

theorem VI.one (v : VI) : v.cells.toArray.all (·.oneCell') = true := all_oneCell_toArray (VI.cells_one v)
def objI (v : VI) : JI := { JI.zero with kd := 1, pr := v, ext := true }
def protoK : KI := ⟨⟨#[112, 114, 111, 116, 111, 116, 121, 112, 101]⟩, 0⟩
def orV (v d : VI) : VI := if isObj v.k = true then v else d
def stepS (L : List (OI × List KI)) (k : Nat) (W : Value → WI) (l : List VI) (c : VI → Res) : Res := match L[k]? with | none => .want W l | some e => if e.1.kd = 1 then c e.1.v else .out e.1 e.2
def bodyS (f tg pr : VI) (args : List VI) (L : List (OI × List KI)) : Res :=
  stepS L 0 (fun _ => methW (getA tg protoK)) [] fun a => stepS L 1 (fun _ => madeW (objI (orV a pr))) [] fun b => stepS L 2 (fun av => callW f b av) args fun c => .out (doneI (orV c b)) []
theorem step_no {L : List (OI × List KI)} {k : Nat} {W : Value → WI} {l : List VI} {c : VI → Res} {p : Nat} {ans av ans0 : Value} {wt : WI} {B : Nat} {O : OI} {w w0 : World} (h : WantRes (W av) p ans k wt L B O w) (ho : w.ownsRow B 24 4 av l.length (l.flatMap VI.cells)) (hA : AnsR p L ans0 w0) (hk : ¬ O.kd = 1) : RunR (stepS L k W l c) p B O w := by
  unfold stepS
  rcases h with ⟨hl, kv, rfl, h, h'⟩ | ⟨h1, rfl, h3⟩
  · rw [List.getElem?_eq_getElem hl]
    have hh := hA.keys L[k] (List.getElem_mem hl)
    show RunR (if L[k].1.kd = 1 then _ else _) p B _ w
    rw [if_neg (show ¬ L[k].1.kd = 1 from hk)]
    exact ⟨by rcases hh.2.2.2 with h | h <;> omega, hh.2.1, kv, rfl, h⟩
  · rw [List.getElem?_eq_none h1]
    exact ⟨rfl, av, ans, _, ho, h3⟩
theorem step_yes {L : List (OI × List KI)} {k : Nat} {W : Value → WI} {l : List VI} {c : VI → Res} {p : Nat} {t : WI} {ans : Value} {wt : WI} {B : Nat} {O : OI} {w : World} (h : WantRes t p ans k wt L B O w) (hk : O.kd = 1) : stepS L k W l c = c O.v ∧ Bk w p 92 (playC ans (k + 1) wt) := by
  unfold stepS
  rcases h with ⟨hl, kv, rfl, h, h'⟩ | ⟨h1, rfl, h3⟩
  · rw [List.getElem?_eq_getElem hl]
    refine ⟨?_, h'⟩
    show (if L[k].1.kd = 1 then _ else _) = _
    rw [if_pos (show L[k].1.kd = 1 from hk)]
  · exact absurd hk (by decide)
/-- The blocks of a body: f, the result, the way; the player's is p. -/
structure BW (f : VI) (p B gW : Nat) (way : Array Value) (w wx : World) : Prop where
  F : Bk wx B 24 f.cells.toArray
  R : Bk wx (B + 3) 36 OI.zero.cs
  Y : Bk wx gW 83 way
  K : Kept (fun q => q = p) w wx
  hp : p < B
  hB : B = w.heap.size
  hg : B + 3 < gW
theorem BW.far {f : VI} {p B gW g : Nat} {way : Array Value} {w wx wy : World} (h : BW f p B gW way w wx) (hk : Kept (fun q => q = p ∨ q = g) wx wy) (h1 : g ≠ B) (h2 : g ≠ B + 3) (h3 : g ≠ gW) (h4 : B ≤ g) : BW f p B gW way w wy := by
  have hp := h.hp
  have hg := h.hg
  have hB := h.hB
  refine ⟨h.F.kept hk (by omega), h.R.kept hk (by omega), h.Y.kept hk (by omega), ⟨hk.os.trans h.K.os, hk.tape.trans h.K.tape, hk.output.trans h.K.output, Nat.le_trans h.K.size hk.size, fun k hlt hn => ?_⟩, hp, hB, hg⟩
  exact (hk.block k (Nat.lt_of_lt_of_le hlt h.K.size) (by omega)).trans (h.K.block k hlt hn)
theorem BW.kept {f : VI} {p B gW : Nat} {way : Array Value} {w wx wy : World} (h : BW f p B gW way w wx) (hk : Kept (fun q => q = p) wx wy) : BW f p B gW way w wy := by
  have hp := h.hp
  have hg := h.hg
  exact ⟨h.F.kept hk (by omega), h.R.kept hk (by omega), h.Y.kept hk (by omega), h.K.trans hk, hp, h.hB, hg⟩
theorem BW.on {f : VI} {p B gW : Nat} {way : Array Value} {w wx wy : World} (h : BW f p B gW way w wx) (hb : Below wx.heap.size wx wy) : BW f p B gW way w wy := h.kept (Kept.below hb)
theorem BW.drew {f : VI} {p B gW : Nat} {way : Array Value} {w wx : World} (h : BW f p B gW way w wx) : BW f p B gW way w wx.drew := ⟨h.F, h.R, h.Y, h.K.drew, h.hp, h.hB, h.hg⟩
theorem BW.setWay {f : VI} {p B gW : Nat} {way way' : Array Value} {w wx : World} (h : BW f p B gW way w wx) (vs : List Value) (o : Nat) (hs : o + vs.length ≤ way.size) (e : way.toList.take o ++ (vs ++ way.toList.drop (o + vs.length)) = way'.toList) : BW f p B gW way' w (wx.setCells gW o vs) := by
  have hp := h.hp
  have hg := h.hg
  have hB := h.hB
  have hk : Kept (fun q => q = gW) wx (wx.setCells gW o vs) := Kept.setCells (S := fun q => q = gW) (.inl rfl) _ _ (Kept.refl _ _)
  refine ⟨h.F.kept hk (by omega), h.R.kept hk (by omega), h.Y.setCells2 vs o hs e, ⟨hk.os.trans h.K.os, hk.tape.trans h.K.tape, hk.output.trans h.K.output, Nat.le_trans h.K.size hk.size, fun k hlt hn => ?_⟩, hp, hB, hg⟩
  exact (hk.block k (Nat.lt_of_lt_of_le hlt h.K.size) (by omega)).trans (h.K.block k hlt hn)
theorem RunR.setRow {r : Res} {p B g : Nat} {O : OI} {w' : World} (h : RunR r p B O w') (hg : g < B) (hp : g ≠ p) (ds : Array Value) : RunR r p B O (w'.setRow g ds) := by
  cases r with
  | out x ks => obtain ⟨h1, h2, kv, e, h⟩ := h; exact ⟨h1, h2, kv, e, own_setRow h hg ds⟩
  | want W l => obtain ⟨h1, av, ans, n, h, h'⟩ := h; exact ⟨h1, av, ans, n, own_setRow h hg ds, h'.setRow_far hp ds⟩
theorem keptR {p g : Nat} {w : World} (cs : Array Value) : Kept (fun q => q = p ∨ q = g) w (w.setRow g cs) := (Kept.refl _ w).setRow (.inl (.inr rfl)) cs
abbrev wayC (a b : VI) : Array Value := #[.int .u8 a.k, .float .f64 a.x, .string a.s, .int .i64 a.r, .int .u8 b.k, .float .f64 b.x, .string b.s, .int .i64 b.r]

set_option maxHeartbeats 8000000 in
set_option maxRecDepth 100000 in
theorem built_any (f tg pr : VI) (args : List VI) (p : Nat) (av ans : Value) (wt : WI) (L : List (OI × List KI)) (w : World) (hlen : args.length ≤ 64) (hV : RdL VI.cells 4 args av w) (hv : ∀ k, av.ownBlock = some k → k ≠ p) (hP : Bk w p 92 (playC ans 0 wt)) (hA : AnsR p L ans w) : Calls Try.prog 28 #[.pointer (some ⟨p, 0, none⟩), f.a, av, tg.a, pr.a] w fun e w' => ∃ O : OI, e = .returned O.a ∧ O.keys.oneCell' = true ∧ Kept (fun q => q = p) w w' ∧ RunR (bodyS f tg pr args L) p w.heap.size O w' := by
  have HPL := hidB hP.lt
  have XF := hidB (show Bk ((((w.alloc (.cells (f.cells.toArray) 24)).alloc (.cells (tg.cells.toArray) 24)).alloc (.cells (pr.cells.toArray) 24)).alloc (.cells (#[.int .u8 0, .int .u8 0, .float .f64 0, .string ⟨#[]⟩, .int .i64 0, .bool false, .bool false, .int .u8 0, .int .u8 0, .float .f64 0, .string ⟨#[]⟩, .int .i64 0, .int .u8 0, .float .f64 0, .string ⟨#[]⟩, .int .i64 0, .int .u8 0, .float .f64 0, .string ⟨#[]⟩, .int .i64 0, .bool false, .bool false, .bool false, .slice none 0 0, .int .u8 0, .string ⟨#[]⟩]) 36)) (w.heap.size) 24 (f.cells.toArray) from (((Bk.new w _ _).alloc _).alloc _).alloc _)
  have XT := hidB (show Bk ((((w.alloc (.cells (f.cells.toArray) 24)).alloc (.cells (tg.cells.toArray) 24)).alloc (.cells (pr.cells.toArray) 24)).alloc (.cells (#[.int .u8 0, .int .u8 0, .float .f64 0, .string ⟨#[]⟩, .int .i64 0, .bool false, .bool false, .int .u8 0, .int .u8 0, .float .f64 0, .string ⟨#[]⟩, .int .i64 0, .int .u8 0, .float .f64 0, .string ⟨#[]⟩, .int .i64 0, .int .u8 0, .float .f64 0, .string ⟨#[]⟩, .int .i64 0, .bool false, .bool false, .bool false, .slice none 0 0, .int .u8 0, .string ⟨#[]⟩]) 36)) (w.heap.size + 1) 24 (tg.cells.toArray) from ((Bk.new2 w _ _ _).alloc _).alloc _)
  have XP := hidB (show Bk ((((w.alloc (.cells (f.cells.toArray) 24)).alloc (.cells (tg.cells.toArray) 24)).alloc (.cells (pr.cells.toArray) 24)).alloc (.cells (#[.int .u8 0, .int .u8 0, .float .f64 0, .string ⟨#[]⟩, .int .i64 0, .bool false, .bool false, .int .u8 0, .int .u8 0, .float .f64 0, .string ⟨#[]⟩, .int .i64 0, .int .u8 0, .float .f64 0, .string ⟨#[]⟩, .int .i64 0, .int .u8 0, .float .f64 0, .string ⟨#[]⟩, .int .i64 0, .bool false, .bool false, .bool false, .slice none 0 0, .int .u8 0, .string ⟨#[]⟩]) 36)) (w.heap.size + 1 + 1) 24 (pr.cells.toArray) from (Bk.new3 w _ _ _ _).alloc _)
  have R := hidB (show Bk ((((w.alloc (.cells (f.cells.toArray) 24)).alloc (.cells (tg.cells.toArray) 24)).alloc (.cells (pr.cells.toArray) 24)).alloc (.cells (#[.int .u8 0, .int .u8 0, .float .f64 0, .string ⟨#[]⟩, .int .i64 0, .bool false, .bool false, .int .u8 0, .int .u8 0, .float .f64 0, .string ⟨#[]⟩, .int .i64 0, .int .u8 0, .float .f64 0, .string ⟨#[]⟩, .int .i64 0, .int .u8 0, .float .f64 0, .string ⟨#[]⟩, .int .i64 0, .bool false, .bool false, .bool false, .slice none 0 0, .int .u8 0, .string ⟨#[]⟩]) 36)) (w.heap.size + 1 + 1 + 1) 36 (OI.zero.cs) from Bk.new4 w _ _ _ _ _)
  have B := hidB (show Below w.heap.size w ((((w.alloc (.cells (f.cells.toArray) 24)).alloc (.cells (tg.cells.toArray) 24)).alloc (.cells (pr.cells.toArray) 24)).alloc (.cells (#[.int .u8 0, .int .u8 0, .float .f64 0, .string ⟨#[]⟩, .int .i64 0, .bool false, .bool false, .int .u8 0, .int .u8 0, .float .f64 0, .string ⟨#[]⟩, .int .i64 0, .int .u8 0, .float .f64 0, .string ⟨#[]⟩, .int .i64 0, .int .u8 0, .float .f64 0, .string ⟨#[]⟩, .int .i64 0, .bool false, .bool false, .bool false, .slice none 0 0, .int .u8 0, .string ⟨#[]⟩]) 36)) from (((box_one w _).alloc (by simp) _).alloc (by simp <;> omega) _).alloc (by simp <;> omega) _)
  have PF := hidB (show Bk ((((w.alloc (.cells (f.cells.toArray) 24)).alloc (.cells (tg.cells.toArray) 24)).alloc (.cells (pr.cells.toArray) 24)).alloc (.cells (#[.int .u8 0, .int .u8 0, .float .f64 0, .string ⟨#[]⟩, .int .i64 0, .bool false, .bool false, .int .u8 0, .int .u8 0, .float .f64 0, .string ⟨#[]⟩, .int .i64 0, .int .u8 0, .float .f64 0, .string ⟨#[]⟩, .int .i64 0, .int .u8 0, .float .f64 0, .string ⟨#[]⟩, .int .i64 0, .bool false, .bool false, .bool false, .slice none 0 0, .int .u8 0, .string ⟨#[]⟩]) 36)) p 92 (playC ans 0 wt) from (((hP.alloc _).alloc _).alloc _).alloc _)
  have KW := hidB (show Kept (fun q => q = p) w ((((w.alloc (.cells (f.cells.toArray) 24)).alloc (.cells (tg.cells.toArray) 24)).alloc (.cells (pr.cells.toArray) 24)).alloc (.cells (#[.int .u8 0, .int .u8 0, .float .f64 0, .string ⟨#[]⟩, .int .i64 0, .bool false, .bool false, .int .u8 0, .int .u8 0, .float .f64 0, .string ⟨#[]⟩, .int .i64 0, .int .u8 0, .float .f64 0, .string ⟨#[]⟩, .int .i64 0, .int .u8 0, .float .f64 0, .string ⟨#[]⟩, .int .i64 0, .bool false, .bool false, .bool false, .slice none 0 0, .int .u8 0, .string ⟨#[]⟩]) 36)) from ((((Kept.refl _ w).alloc _).alloc _).alloc _).alloc _)
  have HZ : Hid (((((w.alloc (.cells (f.cells.toArray) 24)).alloc (.cells (tg.cells.toArray) 24)).alloc (.cells (pr.cells.toArray) 24)).alloc (.cells (#[.int .u8 0, .int .u8 0, .float .f64 0, .string ⟨#[]⟩, .int .i64 0, .bool false, .bool false, .int .u8 0, .int .u8 0, .float .f64 0, .string ⟨#[]⟩, .int .i64 0, .int .u8 0, .float .f64 0, .string ⟨#[]⟩, .int .i64 0, .int .u8 0, .float .f64 0, .string ⟨#[]⟩, .int .i64 0, .bool false, .bool false, .bool false, .slice none 0 0, .int .u8 0, .string ⟨#[]⟩]) 36)).heap.size = w.heap.size + 4) := hidB (by simp)
  have AF := hidB (fun W (h : Kept (fun q => q = p) w W) => hA.kept h)
  have VF := hidB (fun W (h : Kept (fun q => q = p) w W) => hV.kept h hv)
  obtain ⟨pa, ca, hav, _⟩ := hV
  subst hav
  have HL := hidB hlen
  have HA := hidB hA
  clear hP hA hlen hv
  go_enter Try.func28, Try.ntmps28
  go_upto_region 1 with fail
  generalize hW : ((((w.alloc (.cells (f.cells.toArray) 24)).alloc (.cells (tg.cells.toArray) 24)).alloc (.cells (pr.cells.toArray) 24)).alloc (.cells (#[.int .u8 0, .int .u8 0, .float .f64 0, .string ⟨#[]⟩, .int .i64 0, .bool false, .bool false, .int .u8 0, .int .u8 0, .float .f64 0, .string ⟨#[]⟩, .int .i64 0, .int .u8 0, .float .f64 0, .string ⟨#[]⟩, .int .i64 0, .int .u8 0, .float .f64 0, .string ⟨#[]⟩, .int .i64 0, .bool false, .bool false, .bool false, .slice none 0 0, .int .u8 0, .string ⟨#[]⟩]) 36)) = w1 at *
  clear hW B
  have BW1 := hidB (show BW f p w.heap.size w1.heap.size (wayC pr VI.zero) w (w1.alloc (.cells (wayC pr VI.zero) 83)) from ⟨XF.out.alloc _, R.out.alloc _, Bk.new w1 _ _, KW.out.alloc _, HPL.out, rfl, by rw [HZ.out]; exact Nat.lt_succ_self _⟩)
  have T1 := hidB (show Bk (w1.alloc (.cells (wayC pr VI.zero) 83)) (w.heap.size + 1) 24 tg.cells.toArray from XT.out.alloc _)
  have PF1 := hidB (show Bk (w1.alloc (.cells (wayC pr VI.zero) 83)) p 92 (playC ans 0 wt) from PF.out.alloc _)
  go_upto_region 3 with (first | ((with_reducible refine ldId 24 (.tmp 9) ?_); refine wpList_load_row (by rfl) 24 (.tmp 9) (by rfl) (w.heap.size + 1 + 1) (by rfl) 24 (pr.cells.toArray) (0, 0) _ (by exact XP.out) Try.underlying24 (by rfl) (by kernel_rfl) ?_) | ((with_reducible refine wpId ?_); refine wpList_build_to (by rfl) 83 _ (by rfl) ((wayC pr VI.zero)) (by kernel_rfl) ?_))
  clear XF XT XP R PF KW
  generalize hW : (w1.alloc (.cells (wayC pr VI.zero) 83)) = w2 at *
  clear hW
  generalize hG : w1.heap.size = gW at *
  clear hG HZ
  go_cut [13] from 13 to 77 (fun s13 wx => ∃ g O, s13 = .pointer (some ⟨g, 0, none⟩) ∧ Bk wx g 36 (OI.cs O) ∧ gW < g ∧ O.keys.oneCell' = true ∧ WantRes (methW (getA tg protoK)) p ans 0 wt L (gW + 1) O wx ∧ BW f p w.heap.size gW (wayC pr VI.zero) w wx)
  case first =>
    refine wp_region_noPanic ?_
    refine wp_region_held_drew (S := fun W => Kept (fun q => q = p) w2 W) (by kernel_rfl) ?_ (fun hHeld => ?_)
    · exact (Kept.refl _ _).drew
    have HH0 := hidB (show w2.heap.size ≤ w2.drew.heap.size from Nat.le_refl _)
    have BWx := hidB BW1.out.drew
    have PFx := hidB (show Bk w2.drew p 92 (playC ans 0 wt) from PF1.out.drew)
    generalize hWd : w2.drew = wd at *
    clear hWd
    first | (refine wpAnyH_take (i := 0) (v := undef) (by simp only [List.getElem?_toArray, List.getElem?_cons_zero]; exact rfl) (by kernel_rfl) (by kernel_rfl) (by kernel_rfl) (fun _ _ _ h => h) (Or.inr ⟨?_, rfl⟩) (by assumption) ?_; (rfl); try simp only [Act.put, List.setIfInBounds_toArray, List.set_cons_zero, List.set_cons_succ]) | (refine wpAnyH_take (i := 0) (v := ?_) (by simp only [List.getElem?_toArray, List.getElem?_cons_zero]; exact rfl) (by kernel_rfl) (by kernel_rfl) (by kernel_rfl) (fun _ _ _ h => h) (Or.inl ⟨?_, ?_⟩) (by assumption) ?_; rotate_left; (rfl); (focus (intro w hSw; (try dsimp only at hSw); go_simp; try with_reducible rfl)); try simp only [Act.put, List.setIfInBounds_toArray, List.set_cons_zero, List.set_cons_succ])
    (refine wpAnyH_take (i := 1) (v := tg.a) (by simp only [List.getElem?_toArray, List.getElem?_cons_succ, List.getElem?_cons_zero]; exact rfl) (by kernel_rfl) (by kernel_rfl) (by kernel_rfl) (fun _ _ _ h => h) (yieldsIf_load_mid (by rfl) 24 (.tmp 8) (by rfl) (w.heap.size + 1) (0) (by rfl) (tg.cells) _ (fun W hS => Bk.mid (T1.out.kept hS (by have := HPL.out; omega)) 0 _ rfl) Try.underlying24 (by rfl) (by kernel_rfl)) (by assumption) ?_; try simp only [Act.put, List.setIfInBounds_toArray, List.set_cons_zero, List.set_cons_succ])
    refine wpAnyH_ready (rs := [2, 4]) (by kernel_rfl) (by simp) ?_
    refine AllReadyH.cons rfl (fun K hK => ?_) ?_
    · skip
      go_simp
      refine (keyOf_any _ _).mono ?_; rintro e v1 ⟨rfl, hb⟩
      replace BWx := hidB (BWx.out.on hb)
      replace PFx := hidB (PFx.out.on hb)
      replace hHeld := hHeld.trans (Kept.below hb)
      clear hb
      refine hK.out _ _ hHeld (fun _ => ?_)
      clear hK K
      try simp only [Act.put, List.setIfInBounds_toArray, List.set_cons_zero, List.set_cons_succ]
      refine wpAnyH_ready (rs := [3, 4]) (by kernel_rfl) (by simp) ?_
      refine AllReadyH.cons rfl (fun K hK => ?_) ?_
      · skip
        go_simp
        refine (get_any tg protoK p ans 0 wt L v1 (by decide) PFx.out (AF.out _ BWx.out.K)).mono ?_; rintro e v2 ⟨O, rfl, hkp, hres⟩
        have HRES := hidB hres
        have HK1 := hidB hres.key
        have HLOW := hidB (show gW + 1 ≤ v1.heap.size from BWx.out.Y.lt)
        replace BWx := hidB (BWx.out.kept hkp)
        replace hHeld := hHeld.trans hkp
        clear hres hkp PFx
        refine hK.out _ _ hHeld (fun _ => ?_)
        clear hK K
        try simp only [Act.put, List.setIfInBounds_toArray, List.set_cons_zero, List.set_cons_succ]
        refine wpAnyH_ready (rs := [4]) (by kernel_rfl) (by simp) ?_
        refine AllReadyH.cons rfl (fun K hK => ?_) AllReadyH.nil
        go_simp
        have HGG := hidB (show gW < v2.heap.size from BWx.out.Y.lt)
        have HHL := hidB (show w2.heap.size ≤ v2.heap.size from hHeld.size)
        have RR := hidB (show Bk (v2.alloc (.cells #[.int .u8 0, .int .u8 0, .float .f64 0, .string ⟨#[]⟩, .int .i64 0, .bool false, .bool false, .int .u8 0, .int .u8 0, .float .f64 0, .string ⟨#[]⟩, .int .i64 0, .int .u8 0, .float .f64 0, .string ⟨#[]⟩, .int .i64 0, .int .u8 0, .float .f64 0, .string ⟨#[]⟩, .int .i64 0, .bool false, .bool false, .bool false, .slice none 0 0, .int .u8 0, .string ⟨#[]⟩] 36)) v2.heap.size 36 OI.zero.cs from Bk.new _ _ _)
        replace BWx := hidB (show BW f p w.heap.size gW (wayC pr VI.zero) w (v2.alloc (.cells #[.int .u8 0, .int .u8 0, .float .f64 0, .string ⟨#[]⟩, .int .i64 0, .bool false, .bool false, .int .u8 0, .int .u8 0, .float .f64 0, .string ⟨#[]⟩, .int .i64 0, .int .u8 0, .float .f64 0, .string ⟨#[]⟩, .int .i64 0, .int .u8 0, .float .f64 0, .string ⟨#[]⟩, .int .i64 0, .bool false, .bool false, .bool false, .slice none 0 0, .int .u8 0, .string ⟨#[]⟩] 36)) from BWx.out.on (box_one _ _))
        have HBA := hidB (show Below v2.heap.size v2 (v2.alloc (.cells #[.int .u8 0, .int .u8 0, .float .f64 0, .string ⟨#[]⟩, .int .i64 0, .bool false, .bool false, .int .u8 0, .int .u8 0, .float .f64 0, .string ⟨#[]⟩, .int .i64 0, .int .u8 0, .float .f64 0, .string ⟨#[]⟩, .int .i64 0, .int .u8 0, .float .f64 0, .string ⟨#[]⟩, .int .i64 0, .bool false, .bool false, .bool false, .slice none 0 0, .int .u8 0, .string ⟨#[]⟩] 36)) from box_one _ _)
        replace hHeld := hHeld.alloc (.cells #[.int .u8 0, .int .u8 0, .float .f64 0, .string ⟨#[]⟩, .int .i64 0, .bool false, .bool false, .int .u8 0, .int .u8 0, .float .f64 0, .string ⟨#[]⟩, .int .i64 0, .int .u8 0, .float .f64 0, .string ⟨#[]⟩, .int .i64 0, .int .u8 0, .float .f64 0, .string ⟨#[]⟩, .int .i64 0, .bool false, .bool false, .bool false, .slice none 0 0, .int .u8 0, .string ⟨#[]⟩] 36)
        refine hK.out _ _ hHeld (fun _ => ?_)
        clear hK K
        try simp only [Act.put, List.setIfInBounds_toArray, List.set_cons_zero, List.set_cons_succ]
        generalize hWn : (v2.alloc (.cells #[.int .u8 0, .int .u8 0, .float .f64 0, .string ⟨#[]⟩, .int .i64 0, .bool false, .bool false, .int .u8 0, .int .u8 0, .float .f64 0, .string ⟨#[]⟩, .int .i64 0, .int .u8 0, .float .f64 0, .string ⟨#[]⟩, .int .i64 0, .int .u8 0, .float .f64 0, .string ⟨#[]⟩, .int .i64 0, .bool false, .bool false, .bool false, .slice none 0 0, .int .u8 0, .string ⟨#[]⟩] 36)) = v3 at *
        clear hWn
        refine wpAnyH_ready (rs := [5]) (by kernel_rfl) (by simp) ?_
        refine AllReadyH.cons rfl (fun K hK => ?_) AllReadyH.nil
        rw [if_pos (by kernel_rfl)]
        refine wp_store_row 36 (.tmp 13) (.tmp 22) (by rfl) (v2.heap.size) O.cs (by rfl) (by rfl) 36 OI.zero.cs (by exact RR.out) (by kernel_rfl) (by rfl) (by exact OI.one _ HK1.out) ?_
        replace HRES := hidB (HRES.out.on (below_setRow HBA.out (Nat.le_refl _) O.cs))
        replace RR := hidB (RR.out.setRow O.cs)
        replace BWx := hidB (BWx.out.far (keptR (g := v2.heap.size) O.cs) (by have := HGG.out; have h2 := BWx.out.hg; omega) (by have := HGG.out; have h2 := BWx.out.hg; omega) (Nat.ne_of_gt HGG.out) (by have := HGG.out; have h2 := BWx.out.hg; omega))
        replace hHeld := Kept.setRow (S := fun q => q = p) hHeld (g := v2.heap.size) (.inr (HHL.out)) O.cs
        refine put_none_K (by first | rfl | kernel_rfl) ?_
        refine hK.out _ _ hHeld (fun _ => ?_)
        clear hK K
        generalize hWn : v3.setRow (v2.heap.size) O.cs = v4 at *
        clear hWn
        refine wpAnyH_done (by kernel_rfl) ?_ _
        refine NoPanic.normal ?_
        go_wp2_with fail
        go_meet
        case rel => exact ⟨_, O, rfl, RR.out, HGG.out, HK1.out, HRES.out.lower HLOW.out, BWx.out⟩
      refine AllReadyH.cons rfl (fun K hK => ?_) AllReadyH.nil
      go_simp
      have HGG := hidB (show gW < v1.heap.size from BWx.out.Y.lt)
      have HHL := hidB (show w2.heap.size ≤ v1.heap.size from hHeld.size)
      have RR := hidB (show Bk (v1.alloc (.cells #[.int .u8 0, .int .u8 0, .float .f64 0, .string ⟨#[]⟩, .int .i64 0, .bool false, .bool false, .int .u8 0, .int .u8 0, .float .f64 0, .string ⟨#[]⟩, .int .i64 0, .int .u8 0, .float .f64 0, .string ⟨#[]⟩, .int .i64 0, .int .u8 0, .float .f64 0, .string ⟨#[]⟩, .int .i64 0, .bool false, .bool false, .bool false, .slice none 0 0, .int .u8 0, .string ⟨#[]⟩] 36)) v1.heap.size 36 OI.zero.cs from Bk.new _ _ _)
      replace BWx := hidB (show BW f p w.heap.size gW (wayC pr VI.zero) w (v1.alloc (.cells #[.int .u8 0, .int .u8 0, .float .f64 0, .string ⟨#[]⟩, .int .i64 0, .bool false, .bool false, .int .u8 0, .int .u8 0, .float .f64 0, .string ⟨#[]⟩, .int .i64 0, .int .u8 0, .float .f64 0, .string ⟨#[]⟩, .int .i64 0, .int .u8 0, .float .f64 0, .string ⟨#[]⟩, .int .i64 0, .bool false, .bool false, .bool false, .slice none 0 0, .int .u8 0, .string ⟨#[]⟩] 36)) from BWx.out.on (box_one _ _))
      replace PFx := hidB (show Bk (v1.alloc (.cells #[.int .u8 0, .int .u8 0, .float .f64 0, .string ⟨#[]⟩, .int .i64 0, .bool false, .bool false, .int .u8 0, .int .u8 0, .float .f64 0, .string ⟨#[]⟩, .int .i64 0, .int .u8 0, .float .f64 0, .string ⟨#[]⟩, .int .i64 0, .int .u8 0, .float .f64 0, .string ⟨#[]⟩, .int .i64 0, .bool false, .bool false, .bool false, .slice none 0 0, .int .u8 0, .string ⟨#[]⟩] 36)) p 92 (playC ans 0 wt) from PFx.out.alloc _)
      replace hHeld := hHeld.alloc (.cells #[.int .u8 0, .int .u8 0, .float .f64 0, .string ⟨#[]⟩, .int .i64 0, .bool false, .bool false, .int .u8 0, .int .u8 0, .float .f64 0, .string ⟨#[]⟩, .int .i64 0, .int .u8 0, .float .f64 0, .string ⟨#[]⟩, .int .i64 0, .int .u8 0, .float .f64 0, .string ⟨#[]⟩, .int .i64 0, .bool false, .bool false, .bool false, .slice none 0 0, .int .u8 0, .string ⟨#[]⟩] 36)
      refine hK.out _ _ hHeld (fun _ => ?_)
      clear hK K
      try simp only [Act.put, List.setIfInBounds_toArray, List.set_cons_zero, List.set_cons_succ]
      generalize hWn : (v1.alloc (.cells #[.int .u8 0, .int .u8 0, .float .f64 0, .string ⟨#[]⟩, .int .i64 0, .bool false, .bool false, .int .u8 0, .int .u8 0, .float .f64 0, .string ⟨#[]⟩, .int .i64 0, .int .u8 0, .float .f64 0, .string ⟨#[]⟩, .int .i64 0, .int .u8 0, .float .f64 0, .string ⟨#[]⟩, .int .i64 0, .bool false, .bool false, .bool false, .slice none 0 0, .int .u8 0, .string ⟨#[]⟩] 36)) = v2 at *
      clear hWn
      generalize hGn : v1.heap.size = g13 at *
      clear hGn
      refine wpAnyH_ready (rs := [3]) (by kernel_rfl) (by simp) ?_
      refine AllReadyH.cons rfl (fun K hK => ?_) AllReadyH.nil
      go_simp
      refine (get_any tg protoK p ans 0 wt L v2 (by decide) PFx.out (AF.out _ BWx.out.K)).mono ?_; rintro e v3 ⟨O, rfl, hkp, hres⟩
      have HRES := hidB hres
      have HK1 := hidB hres.key
      have HLOW := hidB (show gW + 1 ≤ v2.heap.size from BWx.out.Y.lt)
      have HGB := hidB RR.out.lt
      replace RR := hidB (RR.out.kept hkp (by have := HGG.out; have h1 := BWx.out.hp; have h2 := BWx.out.hg; omega))
      replace BWx := hidB (BWx.out.kept hkp)
      replace hHeld := hHeld.trans hkp
      clear hres hkp PFx
      refine hK.out _ _ hHeld (fun _ => ?_)
      clear hK K
      try simp only [Act.put, List.setIfInBounds_toArray, List.set_cons_zero, List.set_cons_succ]
      refine wpAnyH_ready (rs := [5]) (by kernel_rfl) (by simp) ?_
      refine AllReadyH.cons rfl (fun K hK => ?_) AllReadyH.nil
      rw [if_pos (by kernel_rfl)]
      refine wp_store_row 36 (.tmp 13) (.tmp 22) (by rfl) (g13) O.cs (by rfl) (by rfl) 36 OI.zero.cs (by exact RR.out) (by kernel_rfl) (by rfl) (by exact OI.one _ HK1.out) ?_
      replace HRES := hidB (HRES.out.setRow HGB.out (by have := HGG.out; have h1 := BWx.out.hp; have h2 := BWx.out.hg; omega) O.cs)
      replace RR := hidB (RR.out.setRow O.cs)
      replace BWx := hidB (BWx.out.far (keptR (g := g13) O.cs) (by have := HGG.out; have h2 := BWx.out.hg; omega) (by have := HGG.out; have h2 := BWx.out.hg; omega) (Nat.ne_of_gt HGG.out) (by have := HGG.out; have h2 := BWx.out.hg; omega))
      replace hHeld := Kept.setRow (S := fun q => q = p) hHeld (g := g13) (.inr (HHL.out)) O.cs
      refine put_none_K (by first | rfl | kernel_rfl) ?_
      refine hK.out _ _ hHeld (fun _ => ?_)
      clear hK K
      generalize hWn : v3.setRow (g13) O.cs = v4 at *
      clear hWn
      refine wpAnyH_done (by kernel_rfl) ?_ _
      refine NoPanic.normal ?_
      go_wp2_with fail
      go_meet
      case rel => exact ⟨_, O, rfl, RR.out, HGG.out, HK1.out, HRES.out.lower HLOW.out, BWx.out⟩
    refine AllReadyH.cons rfl (fun K hK => ?_) AllReadyH.nil
    go_simp
    have HGG := hidB (show gW < wd.heap.size from BWx.out.Y.lt)
    have HHL := hidB (show w2.heap.size ≤ wd.heap.size from hHeld.size)
    have RR := hidB (show Bk (wd.alloc (.cells #[.int .u8 0, .int .u8 0, .float .f64 0, .string ⟨#[]⟩, .int .i64 0, .bool false, .bool false, .int .u8 0, .int .u8 0, .float .f64 0, .string ⟨#[]⟩, .int .i64 0, .int .u8 0, .float .f64 0, .string ⟨#[]⟩, .int .i64 0, .int .u8 0, .float .f64 0, .string ⟨#[]⟩, .int .i64 0, .bool false, .bool false, .bool false, .slice none 0 0, .int .u8 0, .string ⟨#[]⟩] 36)) wd.heap.size 36 OI.zero.cs from Bk.new _ _ _)
    replace BWx := hidB (show BW f p w.heap.size gW (wayC pr VI.zero) w (wd.alloc (.cells #[.int .u8 0, .int .u8 0, .float .f64 0, .string ⟨#[]⟩, .int .i64 0, .bool false, .bool false, .int .u8 0, .int .u8 0, .float .f64 0, .string ⟨#[]⟩, .int .i64 0, .int .u8 0, .float .f64 0, .string ⟨#[]⟩, .int .i64 0, .int .u8 0, .float .f64 0, .string ⟨#[]⟩, .int .i64 0, .bool false, .bool false, .bool false, .slice none 0 0, .int .u8 0, .string ⟨#[]⟩] 36)) from BWx.out.on (box_one _ _))
    replace PFx := hidB (show Bk (wd.alloc (.cells #[.int .u8 0, .int .u8 0, .float .f64 0, .string ⟨#[]⟩, .int .i64 0, .bool false, .bool false, .int .u8 0, .int .u8 0, .float .f64 0, .string ⟨#[]⟩, .int .i64 0, .int .u8 0, .float .f64 0, .string ⟨#[]⟩, .int .i64 0, .int .u8 0, .float .f64 0, .string ⟨#[]⟩, .int .i64 0, .bool false, .bool false, .bool false, .slice none 0 0, .int .u8 0, .string ⟨#[]⟩] 36)) p 92 (playC ans 0 wt) from PFx.out.alloc _)
    replace hHeld := hHeld.alloc (.cells #[.int .u8 0, .int .u8 0, .float .f64 0, .string ⟨#[]⟩, .int .i64 0, .bool false, .bool false, .int .u8 0, .int .u8 0, .float .f64 0, .string ⟨#[]⟩, .int .i64 0, .int .u8 0, .float .f64 0, .string ⟨#[]⟩, .int .i64 0, .int .u8 0, .float .f64 0, .string ⟨#[]⟩, .int .i64 0, .bool false, .bool false, .bool false, .slice none 0 0, .int .u8 0, .string ⟨#[]⟩] 36)
    refine hK.out _ _ hHeld (fun _ => ?_)
    clear hK K
    try simp only [Act.put, List.setIfInBounds_toArray, List.set_cons_zero, List.set_cons_succ]
    generalize hWn : (wd.alloc (.cells #[.int .u8 0, .int .u8 0, .float .f64 0, .string ⟨#[]⟩, .int .i64 0, .bool false, .bool false, .int .u8 0, .int .u8 0, .float .f64 0, .string ⟨#[]⟩, .int .i64 0, .int .u8 0, .float .f64 0, .string ⟨#[]⟩, .int .i64 0, .int .u8 0, .float .f64 0, .string ⟨#[]⟩, .int .i64 0, .bool false, .bool false, .bool false, .slice none 0 0, .int .u8 0, .string ⟨#[]⟩] 36)) = v1 at *
    clear hWn
    generalize hGn : wd.heap.size = g13 at *
    clear hGn
    refine wpAnyH_ready (rs := [2]) (by kernel_rfl) (by simp) ?_
    refine AllReadyH.cons rfl (fun K hK => ?_) AllReadyH.nil
    go_simp
    refine (keyOf_any _ _).mono ?_; rintro e v2 ⟨rfl, hb⟩
    replace BWx := hidB (BWx.out.on hb)
    replace PFx := hidB (PFx.out.on hb)
    replace RR := hidB (RR.out.on hb)
    replace hHeld := hHeld.trans (Kept.below hb)
    clear hb
    refine hK.out _ _ hHeld (fun _ => ?_)
    clear hK K
    try simp only [Act.put, List.setIfInBounds_toArray, List.set_cons_zero, List.set_cons_succ]
    refine wpAnyH_ready (rs := [3]) (by kernel_rfl) (by simp) ?_
    refine AllReadyH.cons rfl (fun K hK => ?_) AllReadyH.nil
    go_simp
    refine (get_any tg protoK p ans 0 wt L v2 (by decide) PFx.out (AF.out _ BWx.out.K)).mono ?_; rintro e v3 ⟨O, rfl, hkp, hres⟩
    have HRES := hidB hres
    have HK1 := hidB hres.key
    have HLOW := hidB (show gW + 1 ≤ v2.heap.size from BWx.out.Y.lt)
    have HGB := hidB RR.out.lt
    replace RR := hidB (RR.out.kept hkp (by have := HGG.out; have h1 := BWx.out.hp; have h2 := BWx.out.hg; omega))
    replace BWx := hidB (BWx.out.kept hkp)
    replace hHeld := hHeld.trans hkp
    clear hres hkp PFx
    refine hK.out _ _ hHeld (fun _ => ?_)
    clear hK K
    try simp only [Act.put, List.setIfInBounds_toArray, List.set_cons_zero, List.set_cons_succ]
    refine wpAnyH_ready (rs := [5]) (by kernel_rfl) (by simp) ?_
    refine AllReadyH.cons rfl (fun K hK => ?_) AllReadyH.nil
    rw [if_pos (by kernel_rfl)]
    refine wp_store_row 36 (.tmp 13) (.tmp 22) (by rfl) (g13) O.cs (by rfl) (by rfl) 36 OI.zero.cs (by exact RR.out) (by kernel_rfl) (by rfl) (by exact OI.one _ HK1.out) ?_
    replace HRES := hidB (HRES.out.setRow HGB.out (by have := HGG.out; have h1 := BWx.out.hp; have h2 := BWx.out.hg; omega) O.cs)
    replace RR := hidB (RR.out.setRow O.cs)
    replace BWx := hidB (BWx.out.far (keptR (g := g13) O.cs) (by have := HGG.out; have h2 := BWx.out.hg; omega) (by have := HGG.out; have h2 := BWx.out.hg; omega) (Nat.ne_of_gt HGG.out) (by have := HGG.out; have h2 := BWx.out.hg; omega))
    replace hHeld := Kept.setRow (S := fun q => q = p) hHeld (g := g13) (.inr (HHL.out)) O.cs
    refine put_none_K (by first | rfl | kernel_rfl) ?_
    refine hK.out _ _ hHeld (fun _ => ?_)
    clear hK K
    generalize hWn : v3.setRow (g13) O.cs = v4 at *
    clear hWn
    refine wpAnyH_done (by kernel_rfl) ?_ _
    refine NoPanic.normal ?_
    go_wp2_with fail
    go_meet
    case rel => exact ⟨_, O, rfl, RR.out, HGG.out, HK1.out, HRES.out.lower HLOW.out, BWx.out⟩
  case rest =>
  obtain ⟨g, O0, rfl, hR, hgg, hk1, hres, hbw⟩ := hcut
  have RR := hidB hR
  have HGG := hidB hgg
  have HK1 := hidB hk1
  have HRES := hidB hres
  have BWx := hidB hbw
  clear hR hgg hk1 hres hbw BW1 T1 PF1
  have x0 : wc.cell? ⟨g, 0, none⟩ = some (.int .u8 O0.kd) := RR.out.cell 0
  by_cases hk : O0.kd = 1
  · replace x0 : wc.cell? ⟨g, 0, none⟩ = some (.int .u8 1) := by rw [← hk]; exact RR.out.cell 0
    have hy := step_yes (W := fun _ => (methW (getA tg protoK))) (l := []) (c := fun a => stepS L 1 (fun _ => madeW (objI (orV a pr))) [] (fun b => stepS L 2 (fun av => callW f b av) args fun c => .out (doneI (orV c b)) [])) HRES.out hk
    have HE0 : Hid (bodyS f tg pr args L = stepS L 1 (fun _ => madeW (objI (orV O0.v pr))) [] (fun b => stepS L 2 (fun av => callW f b av) args fun c => .out (doneI (orV c b)) [])) := hidB hy.1
    have PF := hidB (show Bk wc p 92 (playC ans ((1 : Nat) : Int) wt) from hy.2)
    clear hy HRES HK1
    go_wp2_with (first | ((with_reducible refine ldId 24 (.tmp 27) ?_); refine wpList_load_mid (by rfl) 24 (.tmp 27) (by rfl) (g) 1 (by rfl) (O0.v.cells) _ (by exact Bk.mid RR.out 1 _ rfl) Try.underlying24 (by rfl) (by kernel_rfl) ?_))
    refine (isObjB_any O0.v _).mono ?_; rintro e w5 ⟨rfl, hb⟩
    replace RR := hidB (RR.out.on hb)
    replace PF := hidB (PF.out.on hb)
    replace BWx := hidB (BWx.out.on hb)
    clear hb x0 hk
    cases hio : isObj O0.v.k
    · rw [show orV O0.v pr = pr from if_neg (by rw [hio]; decide)] at HE0
      have BY := hidB BWx.out.Y
      go_wp2_with (first | ((with_reducible refine ldId 24 (.tmp 38) ?_); refine wpList_load_mid (by rfl) 24 (.tmp 38) (by rfl) (gW) 0 (by rfl) (pr.cells) _ (by exact Bk.mid BY.out 0 _ rfl) Try.underlying24 (by rfl) (by kernel_rfl) ?_) | ((with_reducible refine wpId ?_); refine wpList_build_to (by rfl) 43 _ (by rfl) ((objI pr).cs) (by kernel_rfl) ?_))
      refine (made_any (objI pr) rfl p ans 1 wt L _ (by decide) PF.out (AF.out _ BWx.out.K)).mono ?_; rintro e w7 ⟨O1, rfl, hkp, hres⟩
      have HRES := hidB (hres.lower (B' := g + 1) RR.out.lt)
      have HK2 := hidB hres.key
      replace RR := hidB (RR.out.kept hkp (by have h1 := BWx.out.hp; have h2 := BWx.out.hg; have h3 := HGG.out; omega))
      replace BWx := hidB (BWx.out.kept hkp)
      clear hres hkp PF BY
      have RR8 := hidB (show Bk (w7.setRow g O1.cs) g 36 O1.cs from RR.out.setRow O1.cs)
      have BW8 := hidB (show BW f p w.heap.size gW (wayC pr VI.zero) w (w7.setRow g O1.cs) from BWx.out.far (keptR O1.cs) (by have h1 := BWx.out.hp; have h2 := BWx.out.hg; have h3 := HGG.out; omega) (by have h1 := BWx.out.hp; have h2 := BWx.out.hg; have h3 := HGG.out; omega) (by have h1 := BWx.out.hp; have h2 := BWx.out.hg; have h3 := HGG.out; omega) (by have h1 := BWx.out.hp; have h2 := BWx.out.hg; have h3 := HGG.out; omega))
      have HRES8 := hidB (show WantRes (madeW (objI pr)) p ans 1 wt L (g + 1) O1 (w7.setRow g O1.cs) from HRES.out.setRow (Nat.lt_succ_self g) (by have h1 := BWx.out.hp; have h2 := BWx.out.hg; have h3 := HGG.out; omega) O1.cs)
      clear HRES BWx
      go_upto_region 9 with (first | ((with_reducible refine stId 36 (.tmp 13) (.tmp 41) ?_); refine wpList_store_row (by rfl) 36 (.tmp 13) (.tmp 41) (by rfl) (g) (O1.cs) (by rfl) (by rfl) 36 (O0.cs) (by exact RR.out) (by kernel_rfl) (by rfl) (by exact OI.one _ HK2.out) ?_))
      clear RR
      generalize hW : (w7.setRow g O1.cs) = w8 at *
      clear hW
      have RR := hidB RR8.out
      have BWx := hidB BW8.out
      have HRES := hidB HRES8.out
      clear RR8 BW8 HRES8
      have x0 : w8.cell? ⟨g, 0, none⟩ = some (.int .u8 O1.kd) := RR.out.cell 0
      by_cases hk : O1.kd = 1
      · replace x0 : w8.cell? ⟨g, 0, none⟩ = some (.int .u8 1) := by rw [← hk]; exact RR.out.cell 0
        have hy := step_yes (W := fun _ => madeW (objI pr)) (l := []) (c := (fun b => stepS L 2 (fun av => callW f b av) args fun c => .out (doneI (orV c b)) [])) HRES.out hk
        have HE1 : Hid (bodyS f tg pr args L = stepS L 2 (fun av => callW f O1.v av) args (fun c => .out (doneI (orV c O1.v)) [])) := hidB (HE0.out.trans hy.1)
        have PF := hidB (show Bk w8 p 92 (playC ans ((2 : Nat) : Int) wt) from hy.2)
        clear hy HRES HK2 HE0 hk
        have BY := hidB BWx.out.Y
        have BW11 := hidB (show BW f p w.heap.size gW (wayC pr O1.v) w (w8.setCells gW 4 O1.v.cells.toArray.toList) from BWx.out.setWay O1.v.cells.toArray.toList 4 (Nat.le_refl _) rfl)
        have RR11 := hidB (show Bk (w8.setCells gW 4 O1.v.cells.toArray.toList) g 36 O1.cs from Bk.setCells_far (Nat.ne_of_gt HGG.out) _ _ RR.out)
        have PF11 := hidB (show Bk (w8.setCells gW 4 O1.v.cells.toArray.toList) p 92 (playC ans ((2 : Nat) : Int) wt) from Bk.setCells_far (by have h1 := BWx.out.hp; have h2 := BWx.out.hg; have h3 := HGG.out; omega) _ _ PF.out)
        go_upto_region 12 with (first | ((with_reducible refine ldId 24 (.tmp 47) ?_); refine wpList_load_mid (by rfl) 24 (.tmp 47) (by rfl) (g) 1 (by rfl) (O1.v.cells) _ (by exact Bk.mid RR.out 1 _ rfl) Try.underlying24 (by rfl) (by kernel_rfl) ?_) | ((with_reducible refine stId 24 (.tmp 50) (.tmp 48) ?_); refine wpList_store_mid (by rfl) 24 (.tmp 50) (.tmp 48) (by rfl) gW 4 O1.v.cells.toArray (by rfl) (by rfl) (by exact BY.out.there 4 4 (Nat.le_refl _)) (by kernel_rfl) (by exact VI.one _) ?_))
        clear RR BWx PF BY x0
        generalize hW : (w8.setCells gW 4 O1.v.cells.toArray.toList) = w9 at *
        clear hW
        have RR := hidB RR11.out
        have BWx := hidB BW11.out
        have PF := hidB PF11.out
        clear RR11 BW11 PF11
        refine wp_region_noPanic ?_
        refine wp_region_held_drew (S := fun W => BW f p w.heap.size gW (wayC pr O1.v) w W) (by kernel_rfl) ?_ (fun hHeld => ?_)
        · exact BWx.out.drew
        replace RR := hidB (show Bk w9.drew g 36 O1.cs from RR.out.drew)
        replace PF := hidB (show Bk w9.drew p 92 (playC ans ((2 : Nat) : Int) wt) from PF.out.drew)
        generalize hWd : w9.drew = wd at *
        clear hWd
        first | (refine wpAnyH_take (i := 0) (v := undef) (by simp only [List.getElem?_toArray, List.getElem?_cons_zero]; exact rfl) (by kernel_rfl) (by kernel_rfl) (by kernel_rfl) (fun _ _ _ h => h) (Or.inr ⟨?_, rfl⟩) (by assumption) ?_; (rfl); try simp only [Act.put, List.setIfInBounds_toArray, List.set_cons_zero, List.set_cons_succ]) | (refine wpAnyH_take (i := 0) (v := ?_) (by simp only [List.getElem?_toArray, List.getElem?_cons_zero]; exact rfl) (by kernel_rfl) (by kernel_rfl) (by kernel_rfl) (fun _ _ _ h => h) (Or.inl ⟨?_, ?_⟩) (by assumption) ?_; rotate_left; (rfl); (focus (intro w hSw; (try dsimp only at hSw); go_simp; try with_reducible rfl)); try simp only [Act.put, List.setIfInBounds_toArray, List.set_cons_zero, List.set_cons_succ])
        (refine wpAnyH_take (i := 1) (v := f.a) (by simp only [List.getElem?_toArray, List.getElem?_cons_succ, List.getElem?_cons_zero]; exact rfl) (by kernel_rfl) (by kernel_rfl) (by kernel_rfl) (fun _ _ _ h => h) (yieldsIf_load_mid (by rfl) 24 (.tmp 6) (by rfl) (w.heap.size) (0) (by rfl) (f.cells) _ (fun W hS => Bk.mid hS.F 0 _ rfl) Try.underlying24 (by rfl) (by kernel_rfl)) (by assumption) ?_; try simp only [Act.put, List.setIfInBounds_toArray, List.set_cons_zero, List.set_cons_succ])
        first | (refine wpAnyH_take (i := 2) (v := undef) (by simp only [List.getElem?_toArray, List.getElem?_cons_succ, List.getElem?_cons_zero]; exact rfl) (by kernel_rfl) (by kernel_rfl) (by kernel_rfl) (fun _ _ _ h => h) (Or.inr ⟨?_, rfl⟩) (by assumption) ?_; (rfl); try simp only [Act.put, List.setIfInBounds_toArray, List.set_cons_zero, List.set_cons_succ]) | (refine wpAnyH_take (i := 2) (v := ?_) (by simp only [List.getElem?_toArray, List.getElem?_cons_succ, List.getElem?_cons_zero]; exact rfl) (by kernel_rfl) (by kernel_rfl) (by kernel_rfl) (fun _ _ _ h => h) (Or.inl ⟨?_, ?_⟩) (by assumption) ?_; rotate_left; (rfl); (focus (intro w hSw; (try dsimp only at hSw); go_simp; try with_reducible rfl)); try simp only [Act.put, List.setIfInBounds_toArray, List.set_cons_zero, List.set_cons_succ])
        first | (refine wpAnyH_take (i := 3) (v := undef) (by simp only [List.getElem?_toArray, List.getElem?_cons_succ, List.getElem?_cons_zero]; exact rfl) (by kernel_rfl) (by kernel_rfl) (by kernel_rfl) (fun _ _ _ h => h) (Or.inr ⟨?_, rfl⟩) (by assumption) ?_; (rfl); try simp only [Act.put, List.setIfInBounds_toArray, List.set_cons_zero, List.set_cons_succ]) | (refine wpAnyH_take (i := 3) (v := ?_) (by simp only [List.getElem?_toArray, List.getElem?_cons_succ, List.getElem?_cons_zero]; exact rfl) (by kernel_rfl) (by kernel_rfl) (by kernel_rfl) (fun _ _ _ h => h) (Or.inl ⟨?_, ?_⟩) (by assumption) ?_; rotate_left; (rfl); (focus (intro w hSw; (try dsimp only at hSw); go_simp; try with_reducible rfl)); try simp only [Act.put, List.setIfInBounds_toArray, List.set_cons_zero, List.set_cons_succ])
        first | (refine wpAnyH_take (i := 4) (v := undef) (by simp only [List.getElem?_toArray, List.getElem?_cons_succ, List.getElem?_cons_zero]; exact rfl) (by kernel_rfl) (by kernel_rfl) (by kernel_rfl) (fun _ _ _ h => h) (Or.inr ⟨?_, rfl⟩) (by assumption) ?_; (rfl); try simp only [Act.put, List.setIfInBounds_toArray, List.set_cons_zero, List.set_cons_succ]) | (refine wpAnyH_take (i := 4) (v := ?_) (by simp only [List.getElem?_toArray, List.getElem?_cons_succ, List.getElem?_cons_zero]; exact rfl) (by kernel_rfl) (by kernel_rfl) (by kernel_rfl) (fun _ _ _ h => h) (Or.inl ⟨?_, ?_⟩) (by assumption) ?_; rotate_left; (rfl); (focus (intro w hSw; (try dsimp only at hSw); go_simp; try with_reducible rfl)); try simp only [Act.put, List.setIfInBounds_toArray, List.set_cons_zero, List.set_cons_succ])
        (refine wpAnyH_take (i := 5) (v := O1.v.a) (by simp only [List.getElem?_toArray, List.getElem?_cons_succ, List.getElem?_cons_zero]; exact rfl) (by kernel_rfl) (by kernel_rfl) (by kernel_rfl) (fun _ _ _ h => h) (yieldsIf_load_mid (by rfl) 24 (.tmp 55) (by rfl) (gW) (4) (by rfl) (O1.v.cells) _ (fun W hS => Bk.mid hS.Y 4 _ rfl) Try.underlying24 (by rfl) (by kernel_rfl)) (by assumption) ?_; try simp only [Act.put, List.setIfInBounds_toArray, List.set_cons_zero, List.set_cons_succ])
        first | (refine wpAnyH_take (i := 6) (v := undef) (by simp only [List.getElem?_toArray, List.getElem?_cons_succ, List.getElem?_cons_zero]; exact rfl) (by kernel_rfl) (by kernel_rfl) (by kernel_rfl) (fun _ _ _ h => h) (Or.inr ⟨?_, rfl⟩) (by assumption) ?_; (rfl); try simp only [Act.put, List.setIfInBounds_toArray, List.set_cons_zero, List.set_cons_succ]) | (refine wpAnyH_take (i := 6) (v := ?_) (by simp only [List.getElem?_toArray, List.getElem?_cons_succ, List.getElem?_cons_zero]; exact rfl) (by kernel_rfl) (by kernel_rfl) (by kernel_rfl) (fun _ _ _ h => h) (Or.inl ⟨?_, ?_⟩) (by assumption) ?_; rotate_left; (rfl); (focus (intro w hSw; (try dsimp only at hSw); go_simp; try with_reducible rfl)); try simp only [Act.put, List.setIfInBounds_toArray, List.set_cons_zero, List.set_cons_succ])
        refine wpAnyH_ready (rs := [7]) (by kernel_rfl) (by simp) ?_
        refine AllReadyH.cons rfl (fun K hK => ?_) AllReadyH.nil
        go_simp
        refine (cloneV_any args _ _ (VF.out _ hHeld.K) (by have := HL.out; omega)).mono ?_; rintro e u1 ⟨av2, rfl, hown, hb⟩
        obtain ⟨q2, c2, hq⟩ := own_slice hown
        subst hq
        have HO := hidB (own_base (base' := g + 1) hown (fun k hk => Nat.le_trans (RR.out.lt) (hown.lt k hk).1))
        replace RR := hidB (RR.out.on hb)
        replace PF := hidB (PF.out.on hb)
        replace hHeld := hHeld.on hb
        clear hb hown
        refine hK.out _ _ hHeld (fun _ => ?_)
        clear hK K
        try simp only [Act.put, List.setIfInBounds_toArray, List.set_cons_zero, List.set_cons_succ]
        refine wpAnyH_ready (rs := [8]) (by kernel_rfl) (by simp) ?_
        refine AllReadyH.cons rfl (fun K hK => ?_) AllReadyH.nil
        go_simp
        refine (callW_any f O1.v q2 args.length c2 p ans 2 wt L u1 (by decide) PF.out (AF.out _ hHeld.K)).mono ?_; rintro e u2 ⟨O2, rfl, hkp, hres⟩
        have HRES := hidB (hres.lower (B' := g + 1) RR.out.lt)
        have HK3 := hidB hres.key
        replace HO := hidB (own_kept HO.out hkp (fun k hk e => by have h0 := (HO.out.lt k hk).1; have h1 := hHeld.hp; have h2 := hHeld.hg; have h3 := HGG.out; omega))
        replace RR := hidB (RR.out.kept hkp (by have h1 := hHeld.hp; have h2 := hHeld.hg; have h3 := HGG.out; omega))
        replace hHeld := hHeld.kept hkp
        clear hres hkp PF
        refine hK.out _ _ hHeld (fun _ => ?_)
        clear hK K
        try simp only [Act.put, List.setIfInBounds_toArray, List.set_cons_zero, List.set_cons_succ]
        refine wpAnyH_ready (rs := [9]) (by kernel_rfl) (by simp) ?_
        refine AllReadyH.cons rfl (fun K hK => ?_) AllReadyH.nil
        rw [if_pos (by kernel_rfl)]
        refine wp_store_row 36 (.tmp 13) (.tmp 59) (by rfl) (g) (O2.cs) (by rfl) (by rfl) 36 (O1.cs) (by exact RR.out) (by kernel_rfl) (by rfl) (by exact OI.one _ HK3.out) ?_
        replace HRES := hidB (HRES.out.setRow (Nat.lt_succ_self g) (by have h1 := hHeld.hp; have h2 := hHeld.hg; have h3 := HGG.out; omega) O2.cs)
        replace HO := hidB (own_setRow HO.out (Nat.lt_succ_self g) O2.cs)
        replace RR := hidB (RR.out.setRow O2.cs)
        replace hHeld := hHeld.far (keptR (g := g) O2.cs) (by have h1 := hHeld.hp; have h2 := hHeld.hg; have h3 := HGG.out; omega) (by have h1 := hHeld.hp; have h2 := hHeld.hg; have h3 := HGG.out; omega) (by have h1 := hHeld.hp; have h2 := hHeld.hg; have h3 := HGG.out; omega) (by have h1 := hHeld.hp; have h2 := hHeld.hg; have h3 := HGG.out; omega)
        refine put_none_K (by first | rfl | kernel_rfl) ?_
        refine hK.out _ _ hHeld (fun _ => ?_)
        clear hK K
        refine wpAnyH_done (by kernel_rfl) ?_ _
        refine NoPanic.normal ?_
        replace BWx := hidB hHeld
        clear hHeld
        generalize hW : u2.setRow g O2.cs = w10 at *
        clear hW
        have x0 : w10.cell? ⟨g, 0, none⟩ = some (.int .u8 O2.kd) := RR.out.cell 0
        by_cases hk : O2.kd = 1
        · replace x0 : w10.cell? ⟨g, 0, none⟩ = some (.int .u8 1) := by rw [← hk]; exact RR.out.cell 0
          have HE2 : Hid (bodyS f tg pr args L = .out (doneI (orV O2.v O1.v)) []) := hidB (HE1.out.trans (step_yes (W := fun av => callW f O1.v av) (l := args) (c := fun c => .out (doneI (orV c O1.v)) []) HRES.out hk).1)
          clear HRES HO HK3 HE1 hk
          go_wp2_with (first | ((with_reducible refine ldId 24 (.tmp 64) ?_); refine wpList_load_mid (by rfl) 24 (.tmp 64) (by rfl) (g) 1 (by rfl) (O2.v.cells) _ (by exact Bk.mid RR.out 1 _ rfl) Try.underlying24 (by rfl) (by kernel_rfl) ?_))
          refine (isObjB_any O2.v _).mono ?_; rintro e w11 ⟨rfl, hb⟩
          replace RR := hidB (RR.out.on hb)
          replace BWx := hidB (BWx.out.on hb)
          clear hb x0
          cases hio2 : isObj O2.v.k
          · skip
            have HE3 : Hid (bodyS f tg pr args L = .out (doneI O1.v) []) := hidB (by rw [HE2.out]; unfold orV; rw [hio2]; rfl)
            have BY := hidB BWx.out.Y
            go_wp2_with (first | ((with_reducible refine ldId 24 (.tmp 74) ?_); refine wpList_load_mid (by rfl) 24 (.tmp 74) (by rfl) (gW) 4 (by rfl) (O1.v.cells) _ (by exact Bk.mid BY.out 4 _ rfl) Try.underlying24 (by rfl) (by kernel_rfl) ?_))
            refine (doneI_any O1.v _).mono ?_; rintro e w12 ⟨rfl, hb⟩
            replace BWx := hidB (BWx.out.on hb)
            clear hb
            have BR := hidB (show Bk _ (w.heap.size + 1 + 1 + 1) 36 OI.zero.cs from BWx.out.R)
            go_wp2_with (first | ((with_reducible refine stId 36 (.tmp 10) (.tmp 76) ?_); refine wpList_store_row (by rfl) 36 (.tmp 10) (.tmp 76) (by rfl) (w.heap.size + 1 + 1 + 1) ((doneI O1.v).cs) (by rfl) (by rfl) 36 (OI.zero.cs) (by exact BR.out) (by kernel_rfl) (by rfl) (by exact OI.one _ rfl) ?_))
            exact bodyPost_ret (v := .agg ((doneI O1.v).cs)) (results_cell_row Try.results28 _ _ (w.heap.size + 1 + 1 + 1) 36 ((doneI O1.v).cs) (0, 0) _ rfl (BR.out.setRow _) Try.underlying36 rfl (by kernel_rfl)) rfl (show ∃ O' : OI, Ending.returned (doneI O1.v).a = .returned O'.a ∧ _ ∧ _ ∧ _ from ⟨doneI O1.v, rfl, rfl, BWx.out.K.setRow (g := w.heap.size + 1 + 1 + 1) (.inr (by omega)) (doneI O1.v).cs, by rw [HE3.out]; exact ⟨by simp [doneI], by simp, vNil, rfl, World.ownsRow_nil _ _ _ _⟩⟩)
          · have BY := hidB BWx.out.Y
            have BW16 := hidB (show BW f p w.heap.size gW (wayC pr O2.v) w (w11.setCells gW 4 O2.v.cells.toArray.toList) from BWx.out.setWay O2.v.cells.toArray.toList 4 (Nat.le_refl _) rfl)
            go_upto_region 17 with (first | ((with_reducible refine ldId 24 (.tmp 68) ?_); refine wpList_load_mid (by rfl) 24 (.tmp 68) (by rfl) (g) 1 (by rfl) (O2.v.cells) _ (by exact Bk.mid RR.out 1 _ rfl) Try.underlying24 (by rfl) (by kernel_rfl) ?_) | ((with_reducible refine stId 24 (.tmp 71) (.tmp 69) ?_); refine wpList_store_mid (by rfl) 24 (.tmp 71) (.tmp 69) (by rfl) gW 4 O2.v.cells.toArray (by rfl) (by rfl) (by exact BY.out.there 4 4 (Nat.le_refl _)) (by kernel_rfl) (by exact VI.one _) ?_))
            clear RR BWx BY
            generalize hW : (w11.setCells gW 4 O2.v.cells.toArray.toList) = w13 at *
            clear hW
            have BWx := hidB BW16.out
            clear BW16
            have HE3 : Hid (bodyS f tg pr args L = .out (doneI O2.v) []) := hidB (by rw [HE2.out]; unfold orV; rw [hio2]; rfl)
            have BY := hidB BWx.out.Y
            go_wp2_with (first | ((with_reducible refine ldId 24 (.tmp 74) ?_); refine wpList_load_mid (by rfl) 24 (.tmp 74) (by rfl) (gW) 4 (by rfl) (O2.v.cells) _ (by exact Bk.mid BY.out 4 _ rfl) Try.underlying24 (by rfl) (by kernel_rfl) ?_))
            refine (doneI_any O2.v _).mono ?_; rintro e w12 ⟨rfl, hb⟩
            replace BWx := hidB (BWx.out.on hb)
            clear hb
            have BR := hidB (show Bk _ (w.heap.size + 1 + 1 + 1) 36 OI.zero.cs from BWx.out.R)
            go_wp2_with (first | ((with_reducible refine stId 36 (.tmp 10) (.tmp 76) ?_); refine wpList_store_row (by rfl) 36 (.tmp 10) (.tmp 76) (by rfl) (w.heap.size + 1 + 1 + 1) ((doneI O2.v).cs) (by rfl) (by rfl) 36 (OI.zero.cs) (by exact BR.out) (by kernel_rfl) (by rfl) (by exact OI.one _ rfl) ?_))
            exact bodyPost_ret (v := .agg ((doneI O2.v).cs)) (results_cell_row Try.results28 _ _ (w.heap.size + 1 + 1 + 1) 36 ((doneI O2.v).cs) (0, 0) _ rfl (BR.out.setRow _) Try.underlying36 rfl (by kernel_rfl)) rfl (show ∃ O' : OI, Ending.returned (doneI O2.v).a = .returned O'.a ∧ _ ∧ _ ∧ _ from ⟨doneI O2.v, rfl, rfl, BWx.out.K.setRow (g := w.heap.size + 1 + 1 + 1) (.inr (by omega)) (doneI O2.v).cs, by rw [HE3.out]; exact ⟨by simp [doneI], by simp, vNil, rfl, World.ownsRow_nil _ _ _ _⟩⟩)
        · skip
          have HN := hidB (show RunR (bodyS f tg pr args L) p (g + 1) O2 w10 by rw [HE1.out]; exact step_no (W := fun av => callW f O1.v av) (l := args) (c := fun c => .out (doneI (orV c O1.v)) []) HRES.out HO.out HA.out hk)
          have BR := hidB (show Bk _ (w.heap.size + 1 + 1 + 1) 36 OI.zero.cs from BWx.out.R)
          go_wp2_with (first | ((with_reducible refine ldId 36 (.tmp 13) ?_); refine wpList_load_row (by rfl) 36 (.tmp 13) (by rfl) (g) (by rfl) 36 (O2.cs) (0, 0) _ (by exact RR.out) Try.underlying36 (by rfl) (by kernel_rfl) ?_) | ((with_reducible refine stId 36 (.tmp 10) (.tmp 63) ?_); refine wpList_store_row (by rfl) 36 (.tmp 10) (.tmp 63) (by rfl) (w.heap.size + 1 + 1 + 1) (O2.cs) (by rfl) (by rfl) 36 (OI.zero.cs) (by exact BR.out) (by kernel_rfl) (by rfl) (by exact OI.one _ HK3.out) ?_))
          exact bodyPost_ret (v := .agg (O2.cs)) (results_cell_row Try.results28 _ _ (w.heap.size + 1 + 1 + 1) 36 (O2.cs) (0, 0) _ rfl (BR.out.setRow _) Try.underlying36 rfl (by kernel_rfl)) rfl (show ∃ O' : OI, Ending.returned O2.a = .returned O'.a ∧ _ ∧ _ ∧ _ from ⟨O2, rfl, HK3.out, BWx.out.K.setRow (g := w.heap.size + 1 + 1 + 1) (.inr (by omega)) O2.cs, ((HN.out).setRow (g := w.heap.size + 1 + 1 + 1) (by have h1 := BWx.out.hp; have h2 := BWx.out.hg; have h3 := HGG.out; omega) (by have h1 := BWx.out.hp; have h2 := BWx.out.hg; have h3 := HGG.out; omega) O2.cs).lower (by have h1 := BWx.out.hp; have h2 := BWx.out.hg; have h3 := HGG.out; omega)⟩)
      · skip
        have HN := hidB (show RunR (bodyS f tg pr args L) p (g + 1) O1 w8 by rw [HE0.out]; exact step_no (W := fun _ => madeW (objI pr)) (l := []) (c := (fun b => stepS L 2 (fun av => callW f b av) args fun c => .out (doneI (orV c b)) [])) (av := vNil) HRES.out (World.ownsRow_nil _ _ _ _) HA.out hk)
        have BR := hidB (show Bk _ (w.heap.size + 1 + 1 + 1) 36 OI.zero.cs from BWx.out.R)
        go_wp2_with (first | ((with_reducible refine ldId 36 (.tmp 13) ?_); refine wpList_load_row (by rfl) 36 (.tmp 13) (by rfl) (g) (by rfl) 36 (O1.cs) (0, 0) _ (by exact RR.out) Try.underlying36 (by rfl) (by kernel_rfl) ?_) | ((with_reducible refine stId 36 (.tmp 10) (.tmp 45) ?_); refine wpList_store_row (by rfl) 36 (.tmp 10) (.tmp 45) (by rfl) (w.heap.size + 1 + 1 + 1) (O1.cs) (by rfl) (by rfl) 36 (OI.zero.cs) (by exact BR.out) (by kernel_rfl) (by rfl) (by exact OI.one _ HK2.out) ?_))
        exact bodyPost_ret (v := .agg (O1.cs)) (results_cell_row Try.results28 _ _ (w.heap.size + 1 + 1 + 1) 36 (O1.cs) (0, 0) _ rfl (BR.out.setRow _) Try.underlying36 rfl (by kernel_rfl)) rfl (show ∃ O' : OI, Ending.returned O1.a = .returned O'.a ∧ _ ∧ _ ∧ _ from ⟨O1, rfl, HK2.out, BWx.out.K.setRow (g := w.heap.size + 1 + 1 + 1) (.inr (by omega)) O1.cs, ((HN.out).setRow (g := w.heap.size + 1 + 1 + 1) (by have h1 := BWx.out.hp; have h2 := BWx.out.hg; have h3 := HGG.out; omega) (by have h1 := BWx.out.hp; have h2 := BWx.out.hg; have h3 := HGG.out; omega) O1.cs).lower (by have h1 := BWx.out.hp; have h2 := BWx.out.hg; have h3 := HGG.out; omega)⟩)
    · rw [show orV O0.v pr = O0.v from if_pos hio] at HE0
      have BY := hidB BWx.out.Y
      have BW7 := hidB (show BW f p w.heap.size gW (wayC O0.v VI.zero) w (w5.setCells gW 0 O0.v.cells.toArray.toList) from BWx.out.setWay O0.v.cells.toArray.toList 0 (by show 0 + 4 ≤ 8; decide) rfl)
      have RR7 := hidB (show Bk (w5.setCells gW 0 O0.v.cells.toArray.toList) g 36 O0.cs from Bk.setCells_far (Nat.ne_of_gt HGG.out) _ _ RR.out)
      have PF7 := hidB (show Bk (w5.setCells gW 0 O0.v.cells.toArray.toList) p 92 (playC ans ((1 : Nat) : Int) wt) from Bk.setCells_far (by have h1 := BWx.out.hp; have h2 := BWx.out.hg; have h3 := HGG.out; omega) _ _ PF.out)
      go_upto_region 8 with (first | ((with_reducible refine ldId 24 (.tmp 31) ?_); refine wpList_load_mid (by rfl) 24 (.tmp 31) (by rfl) (g) 1 (by rfl) (O0.v.cells) _ (by exact Bk.mid RR.out 1 _ rfl) Try.underlying24 (by rfl) (by kernel_rfl) ?_) | ((with_reducible refine stId 24 (.tmp 34) (.tmp 32) ?_); refine wpList_store_mid (by rfl) 24 (.tmp 34) (.tmp 32) (by rfl) gW 0 O0.v.cells.toArray (by rfl) (by rfl) (by exact BY.out.there 0 4 (by show 0 + 4 ≤ 8; decide)) (by kernel_rfl) (by exact VI.one _) ?_))
      clear RR BWx PF BY
      generalize hW : (w5.setCells gW 0 O0.v.cells.toArray.toList) = w6 at *
      clear hW
      have RR := hidB RR7.out
      have BWx := hidB BW7.out
      have PF := hidB PF7.out
      clear RR7 BW7 PF7
      have BY := hidB BWx.out.Y
      go_wp2_with (first | ((with_reducible refine ldId 24 (.tmp 38) ?_); refine wpList_load_mid (by rfl) 24 (.tmp 38) (by rfl) (gW) 0 (by rfl) (O0.v.cells) _ (by exact Bk.mid BY.out 0 _ rfl) Try.underlying24 (by rfl) (by kernel_rfl) ?_) | ((with_reducible refine wpId ?_); refine wpList_build_to (by rfl) 43 _ (by rfl) ((objI O0.v).cs) (by kernel_rfl) ?_))
      refine (made_any (objI O0.v) rfl p ans 1 wt L _ (by decide) PF.out (AF.out _ BWx.out.K)).mono ?_; rintro e w7 ⟨O1, rfl, hkp, hres⟩
      have HRES := hidB (hres.lower (B' := g + 1) RR.out.lt)
      have HK2 := hidB hres.key
      replace RR := hidB (RR.out.kept hkp (by have h1 := BWx.out.hp; have h2 := BWx.out.hg; have h3 := HGG.out; omega))
      replace BWx := hidB (BWx.out.kept hkp)
      clear hres hkp PF BY
      have RR8 := hidB (show Bk (w7.setRow g O1.cs) g 36 O1.cs from RR.out.setRow O1.cs)
      have BW8 := hidB (show BW f p w.heap.size gW (wayC O0.v VI.zero) w (w7.setRow g O1.cs) from BWx.out.far (keptR O1.cs) (by have h1 := BWx.out.hp; have h2 := BWx.out.hg; have h3 := HGG.out; omega) (by have h1 := BWx.out.hp; have h2 := BWx.out.hg; have h3 := HGG.out; omega) (by have h1 := BWx.out.hp; have h2 := BWx.out.hg; have h3 := HGG.out; omega) (by have h1 := BWx.out.hp; have h2 := BWx.out.hg; have h3 := HGG.out; omega))
      have HRES8 := hidB (show WantRes (madeW (objI O0.v)) p ans 1 wt L (g + 1) O1 (w7.setRow g O1.cs) from HRES.out.setRow (Nat.lt_succ_self g) (by have h1 := BWx.out.hp; have h2 := BWx.out.hg; have h3 := HGG.out; omega) O1.cs)
      clear HRES BWx
      go_upto_region 9 with (first | ((with_reducible refine stId 36 (.tmp 13) (.tmp 41) ?_); refine wpList_store_row (by rfl) 36 (.tmp 13) (.tmp 41) (by rfl) (g) (O1.cs) (by rfl) (by rfl) 36 (O0.cs) (by exact RR.out) (by kernel_rfl) (by rfl) (by exact OI.one _ HK2.out) ?_))
      clear RR
      generalize hW : (w7.setRow g O1.cs) = w8 at *
      clear hW
      have RR := hidB RR8.out
      have BWx := hidB BW8.out
      have HRES := hidB HRES8.out
      clear RR8 BW8 HRES8
      have x0 : w8.cell? ⟨g, 0, none⟩ = some (.int .u8 O1.kd) := RR.out.cell 0
      by_cases hk : O1.kd = 1
      · replace x0 : w8.cell? ⟨g, 0, none⟩ = some (.int .u8 1) := by rw [← hk]; exact RR.out.cell 0
        have hy := step_yes (W := fun _ => madeW (objI O0.v)) (l := []) (c := (fun b => stepS L 2 (fun av => callW f b av) args fun c => .out (doneI (orV c b)) [])) HRES.out hk
        have HE1 : Hid (bodyS f tg pr args L = stepS L 2 (fun av => callW f O1.v av) args (fun c => .out (doneI (orV c O1.v)) [])) := hidB (HE0.out.trans hy.1)
        have PF := hidB (show Bk w8 p 92 (playC ans ((2 : Nat) : Int) wt) from hy.2)
        clear hy HRES HK2 HE0 hk
        have BY := hidB BWx.out.Y
        have BW11 := hidB (show BW f p w.heap.size gW (wayC O0.v O1.v) w (w8.setCells gW 4 O1.v.cells.toArray.toList) from BWx.out.setWay O1.v.cells.toArray.toList 4 (Nat.le_refl _) rfl)
        have RR11 := hidB (show Bk (w8.setCells gW 4 O1.v.cells.toArray.toList) g 36 O1.cs from Bk.setCells_far (Nat.ne_of_gt HGG.out) _ _ RR.out)
        have PF11 := hidB (show Bk (w8.setCells gW 4 O1.v.cells.toArray.toList) p 92 (playC ans ((2 : Nat) : Int) wt) from Bk.setCells_far (by have h1 := BWx.out.hp; have h2 := BWx.out.hg; have h3 := HGG.out; omega) _ _ PF.out)
        go_upto_region 12 with (first | ((with_reducible refine ldId 24 (.tmp 47) ?_); refine wpList_load_mid (by rfl) 24 (.tmp 47) (by rfl) (g) 1 (by rfl) (O1.v.cells) _ (by exact Bk.mid RR.out 1 _ rfl) Try.underlying24 (by rfl) (by kernel_rfl) ?_) | ((with_reducible refine stId 24 (.tmp 50) (.tmp 48) ?_); refine wpList_store_mid (by rfl) 24 (.tmp 50) (.tmp 48) (by rfl) gW 4 O1.v.cells.toArray (by rfl) (by rfl) (by exact BY.out.there 4 4 (Nat.le_refl _)) (by kernel_rfl) (by exact VI.one _) ?_))
        clear RR BWx PF BY x0
        generalize hW : (w8.setCells gW 4 O1.v.cells.toArray.toList) = w9 at *
        clear hW
        have RR := hidB RR11.out
        have BWx := hidB BW11.out
        have PF := hidB PF11.out
        clear RR11 BW11 PF11
        refine wp_region_noPanic ?_
        refine wp_region_held_drew (S := fun W => BW f p w.heap.size gW (wayC O0.v O1.v) w W) (by kernel_rfl) ?_ (fun hHeld => ?_)
        · exact BWx.out.drew
        replace RR := hidB (show Bk w9.drew g 36 O1.cs from RR.out.drew)
        replace PF := hidB (show Bk w9.drew p 92 (playC ans ((2 : Nat) : Int) wt) from PF.out.drew)
        generalize hWd : w9.drew = wd at *
        clear hWd
        first | (refine wpAnyH_take (i := 0) (v := undef) (by simp only [List.getElem?_toArray, List.getElem?_cons_zero]; exact rfl) (by kernel_rfl) (by kernel_rfl) (by kernel_rfl) (fun _ _ _ h => h) (Or.inr ⟨?_, rfl⟩) (by assumption) ?_; (rfl); try simp only [Act.put, List.setIfInBounds_toArray, List.set_cons_zero, List.set_cons_succ]) | (refine wpAnyH_take (i := 0) (v := ?_) (by simp only [List.getElem?_toArray, List.getElem?_cons_zero]; exact rfl) (by kernel_rfl) (by kernel_rfl) (by kernel_rfl) (fun _ _ _ h => h) (Or.inl ⟨?_, ?_⟩) (by assumption) ?_; rotate_left; (rfl); (focus (intro w hSw; (try dsimp only at hSw); go_simp; try with_reducible rfl)); try simp only [Act.put, List.setIfInBounds_toArray, List.set_cons_zero, List.set_cons_succ])
        (refine wpAnyH_take (i := 1) (v := f.a) (by simp only [List.getElem?_toArray, List.getElem?_cons_succ, List.getElem?_cons_zero]; exact rfl) (by kernel_rfl) (by kernel_rfl) (by kernel_rfl) (fun _ _ _ h => h) (yieldsIf_load_mid (by rfl) 24 (.tmp 6) (by rfl) (w.heap.size) (0) (by rfl) (f.cells) _ (fun W hS => Bk.mid hS.F 0 _ rfl) Try.underlying24 (by rfl) (by kernel_rfl)) (by assumption) ?_; try simp only [Act.put, List.setIfInBounds_toArray, List.set_cons_zero, List.set_cons_succ])
        first | (refine wpAnyH_take (i := 2) (v := undef) (by simp only [List.getElem?_toArray, List.getElem?_cons_succ, List.getElem?_cons_zero]; exact rfl) (by kernel_rfl) (by kernel_rfl) (by kernel_rfl) (fun _ _ _ h => h) (Or.inr ⟨?_, rfl⟩) (by assumption) ?_; (rfl); try simp only [Act.put, List.setIfInBounds_toArray, List.set_cons_zero, List.set_cons_succ]) | (refine wpAnyH_take (i := 2) (v := ?_) (by simp only [List.getElem?_toArray, List.getElem?_cons_succ, List.getElem?_cons_zero]; exact rfl) (by kernel_rfl) (by kernel_rfl) (by kernel_rfl) (fun _ _ _ h => h) (Or.inl ⟨?_, ?_⟩) (by assumption) ?_; rotate_left; (rfl); (focus (intro w hSw; (try dsimp only at hSw); go_simp; try with_reducible rfl)); try simp only [Act.put, List.setIfInBounds_toArray, List.set_cons_zero, List.set_cons_succ])
        first | (refine wpAnyH_take (i := 3) (v := undef) (by simp only [List.getElem?_toArray, List.getElem?_cons_succ, List.getElem?_cons_zero]; exact rfl) (by kernel_rfl) (by kernel_rfl) (by kernel_rfl) (fun _ _ _ h => h) (Or.inr ⟨?_, rfl⟩) (by assumption) ?_; (rfl); try simp only [Act.put, List.setIfInBounds_toArray, List.set_cons_zero, List.set_cons_succ]) | (refine wpAnyH_take (i := 3) (v := ?_) (by simp only [List.getElem?_toArray, List.getElem?_cons_succ, List.getElem?_cons_zero]; exact rfl) (by kernel_rfl) (by kernel_rfl) (by kernel_rfl) (fun _ _ _ h => h) (Or.inl ⟨?_, ?_⟩) (by assumption) ?_; rotate_left; (rfl); (focus (intro w hSw; (try dsimp only at hSw); go_simp; try with_reducible rfl)); try simp only [Act.put, List.setIfInBounds_toArray, List.set_cons_zero, List.set_cons_succ])
        first | (refine wpAnyH_take (i := 4) (v := undef) (by simp only [List.getElem?_toArray, List.getElem?_cons_succ, List.getElem?_cons_zero]; exact rfl) (by kernel_rfl) (by kernel_rfl) (by kernel_rfl) (fun _ _ _ h => h) (Or.inr ⟨?_, rfl⟩) (by assumption) ?_; (rfl); try simp only [Act.put, List.setIfInBounds_toArray, List.set_cons_zero, List.set_cons_succ]) | (refine wpAnyH_take (i := 4) (v := ?_) (by simp only [List.getElem?_toArray, List.getElem?_cons_succ, List.getElem?_cons_zero]; exact rfl) (by kernel_rfl) (by kernel_rfl) (by kernel_rfl) (fun _ _ _ h => h) (Or.inl ⟨?_, ?_⟩) (by assumption) ?_; rotate_left; (rfl); (focus (intro w hSw; (try dsimp only at hSw); go_simp; try with_reducible rfl)); try simp only [Act.put, List.setIfInBounds_toArray, List.set_cons_zero, List.set_cons_succ])
        (refine wpAnyH_take (i := 5) (v := O1.v.a) (by simp only [List.getElem?_toArray, List.getElem?_cons_succ, List.getElem?_cons_zero]; exact rfl) (by kernel_rfl) (by kernel_rfl) (by kernel_rfl) (fun _ _ _ h => h) (yieldsIf_load_mid (by rfl) 24 (.tmp 55) (by rfl) (gW) (4) (by rfl) (O1.v.cells) _ (fun W hS => Bk.mid hS.Y 4 _ rfl) Try.underlying24 (by rfl) (by kernel_rfl)) (by assumption) ?_; try simp only [Act.put, List.setIfInBounds_toArray, List.set_cons_zero, List.set_cons_succ])
        first | (refine wpAnyH_take (i := 6) (v := undef) (by simp only [List.getElem?_toArray, List.getElem?_cons_succ, List.getElem?_cons_zero]; exact rfl) (by kernel_rfl) (by kernel_rfl) (by kernel_rfl) (fun _ _ _ h => h) (Or.inr ⟨?_, rfl⟩) (by assumption) ?_; (rfl); try simp only [Act.put, List.setIfInBounds_toArray, List.set_cons_zero, List.set_cons_succ]) | (refine wpAnyH_take (i := 6) (v := ?_) (by simp only [List.getElem?_toArray, List.getElem?_cons_succ, List.getElem?_cons_zero]; exact rfl) (by kernel_rfl) (by kernel_rfl) (by kernel_rfl) (fun _ _ _ h => h) (Or.inl ⟨?_, ?_⟩) (by assumption) ?_; rotate_left; (rfl); (focus (intro w hSw; (try dsimp only at hSw); go_simp; try with_reducible rfl)); try simp only [Act.put, List.setIfInBounds_toArray, List.set_cons_zero, List.set_cons_succ])
        refine wpAnyH_ready (rs := [7]) (by kernel_rfl) (by simp) ?_
        refine AllReadyH.cons rfl (fun K hK => ?_) AllReadyH.nil
        go_simp
        refine (cloneV_any args _ _ (VF.out _ hHeld.K) (by have := HL.out; omega)).mono ?_; rintro e u1 ⟨av2, rfl, hown, hb⟩
        obtain ⟨q2, c2, hq⟩ := own_slice hown
        subst hq
        have HO := hidB (own_base (base' := g + 1) hown (fun k hk => Nat.le_trans (RR.out.lt) (hown.lt k hk).1))
        replace RR := hidB (RR.out.on hb)
        replace PF := hidB (PF.out.on hb)
        replace hHeld := hHeld.on hb
        clear hb hown
        refine hK.out _ _ hHeld (fun _ => ?_)
        clear hK K
        try simp only [Act.put, List.setIfInBounds_toArray, List.set_cons_zero, List.set_cons_succ]
        refine wpAnyH_ready (rs := [8]) (by kernel_rfl) (by simp) ?_
        refine AllReadyH.cons rfl (fun K hK => ?_) AllReadyH.nil
        go_simp
        refine (callW_any f O1.v q2 args.length c2 p ans 2 wt L u1 (by decide) PF.out (AF.out _ hHeld.K)).mono ?_; rintro e u2 ⟨O2, rfl, hkp, hres⟩
        have HRES := hidB (hres.lower (B' := g + 1) RR.out.lt)
        have HK3 := hidB hres.key
        replace HO := hidB (own_kept HO.out hkp (fun k hk e => by have h0 := (HO.out.lt k hk).1; have h1 := hHeld.hp; have h2 := hHeld.hg; have h3 := HGG.out; omega))
        replace RR := hidB (RR.out.kept hkp (by have h1 := hHeld.hp; have h2 := hHeld.hg; have h3 := HGG.out; omega))
        replace hHeld := hHeld.kept hkp
        clear hres hkp PF
        refine hK.out _ _ hHeld (fun _ => ?_)
        clear hK K
        try simp only [Act.put, List.setIfInBounds_toArray, List.set_cons_zero, List.set_cons_succ]
        refine wpAnyH_ready (rs := [9]) (by kernel_rfl) (by simp) ?_
        refine AllReadyH.cons rfl (fun K hK => ?_) AllReadyH.nil
        rw [if_pos (by kernel_rfl)]
        refine wp_store_row 36 (.tmp 13) (.tmp 59) (by rfl) (g) (O2.cs) (by rfl) (by rfl) 36 (O1.cs) (by exact RR.out) (by kernel_rfl) (by rfl) (by exact OI.one _ HK3.out) ?_
        replace HRES := hidB (HRES.out.setRow (Nat.lt_succ_self g) (by have h1 := hHeld.hp; have h2 := hHeld.hg; have h3 := HGG.out; omega) O2.cs)
        replace HO := hidB (own_setRow HO.out (Nat.lt_succ_self g) O2.cs)
        replace RR := hidB (RR.out.setRow O2.cs)
        replace hHeld := hHeld.far (keptR (g := g) O2.cs) (by have h1 := hHeld.hp; have h2 := hHeld.hg; have h3 := HGG.out; omega) (by have h1 := hHeld.hp; have h2 := hHeld.hg; have h3 := HGG.out; omega) (by have h1 := hHeld.hp; have h2 := hHeld.hg; have h3 := HGG.out; omega) (by have h1 := hHeld.hp; have h2 := hHeld.hg; have h3 := HGG.out; omega)
        refine put_none_K (by first | rfl | kernel_rfl) ?_
        refine hK.out _ _ hHeld (fun _ => ?_)
        clear hK K
        refine wpAnyH_done (by kernel_rfl) ?_ _
        refine NoPanic.normal ?_
        replace BWx := hidB hHeld
        clear hHeld
        generalize hW : u2.setRow g O2.cs = w10 at *
        clear hW
        have x0 : w10.cell? ⟨g, 0, none⟩ = some (.int .u8 O2.kd) := RR.out.cell 0
        by_cases hk : O2.kd = 1
        · replace x0 : w10.cell? ⟨g, 0, none⟩ = some (.int .u8 1) := by rw [← hk]; exact RR.out.cell 0
          have HE2 : Hid (bodyS f tg pr args L = .out (doneI (orV O2.v O1.v)) []) := hidB (HE1.out.trans (step_yes (W := fun av => callW f O1.v av) (l := args) (c := fun c => .out (doneI (orV c O1.v)) []) HRES.out hk).1)
          clear HRES HO HK3 HE1 hk
          go_wp2_with (first | ((with_reducible refine ldId 24 (.tmp 64) ?_); refine wpList_load_mid (by rfl) 24 (.tmp 64) (by rfl) (g) 1 (by rfl) (O2.v.cells) _ (by exact Bk.mid RR.out 1 _ rfl) Try.underlying24 (by rfl) (by kernel_rfl) ?_))
          refine (isObjB_any O2.v _).mono ?_; rintro e w11 ⟨rfl, hb⟩
          replace RR := hidB (RR.out.on hb)
          replace BWx := hidB (BWx.out.on hb)
          clear hb x0
          cases hio2 : isObj O2.v.k
          · skip
            have HE3 : Hid (bodyS f tg pr args L = .out (doneI O1.v) []) := hidB (by rw [HE2.out]; unfold orV; rw [hio2]; rfl)
            have BY := hidB BWx.out.Y
            go_wp2_with (first | ((with_reducible refine ldId 24 (.tmp 74) ?_); refine wpList_load_mid (by rfl) 24 (.tmp 74) (by rfl) (gW) 4 (by rfl) (O1.v.cells) _ (by exact Bk.mid BY.out 4 _ rfl) Try.underlying24 (by rfl) (by kernel_rfl) ?_))
            refine (doneI_any O1.v _).mono ?_; rintro e w12 ⟨rfl, hb⟩
            replace BWx := hidB (BWx.out.on hb)
            clear hb
            have BR := hidB (show Bk _ (w.heap.size + 1 + 1 + 1) 36 OI.zero.cs from BWx.out.R)
            go_wp2_with (first | ((with_reducible refine stId 36 (.tmp 10) (.tmp 76) ?_); refine wpList_store_row (by rfl) 36 (.tmp 10) (.tmp 76) (by rfl) (w.heap.size + 1 + 1 + 1) ((doneI O1.v).cs) (by rfl) (by rfl) 36 (OI.zero.cs) (by exact BR.out) (by kernel_rfl) (by rfl) (by exact OI.one _ rfl) ?_))
            exact bodyPost_ret (v := .agg ((doneI O1.v).cs)) (results_cell_row Try.results28 _ _ (w.heap.size + 1 + 1 + 1) 36 ((doneI O1.v).cs) (0, 0) _ rfl (BR.out.setRow _) Try.underlying36 rfl (by kernel_rfl)) rfl (show ∃ O' : OI, Ending.returned (doneI O1.v).a = .returned O'.a ∧ _ ∧ _ ∧ _ from ⟨doneI O1.v, rfl, rfl, BWx.out.K.setRow (g := w.heap.size + 1 + 1 + 1) (.inr (by omega)) (doneI O1.v).cs, by rw [HE3.out]; exact ⟨by simp [doneI], by simp, vNil, rfl, World.ownsRow_nil _ _ _ _⟩⟩)
          · have BY := hidB BWx.out.Y
            have BW16 := hidB (show BW f p w.heap.size gW (wayC O0.v O2.v) w (w11.setCells gW 4 O2.v.cells.toArray.toList) from BWx.out.setWay O2.v.cells.toArray.toList 4 (Nat.le_refl _) rfl)
            go_upto_region 17 with (first | ((with_reducible refine ldId 24 (.tmp 68) ?_); refine wpList_load_mid (by rfl) 24 (.tmp 68) (by rfl) (g) 1 (by rfl) (O2.v.cells) _ (by exact Bk.mid RR.out 1 _ rfl) Try.underlying24 (by rfl) (by kernel_rfl) ?_) | ((with_reducible refine stId 24 (.tmp 71) (.tmp 69) ?_); refine wpList_store_mid (by rfl) 24 (.tmp 71) (.tmp 69) (by rfl) gW 4 O2.v.cells.toArray (by rfl) (by rfl) (by exact BY.out.there 4 4 (Nat.le_refl _)) (by kernel_rfl) (by exact VI.one _) ?_))
            clear RR BWx BY
            generalize hW : (w11.setCells gW 4 O2.v.cells.toArray.toList) = w13 at *
            clear hW
            have BWx := hidB BW16.out
            clear BW16
            have HE3 : Hid (bodyS f tg pr args L = .out (doneI O2.v) []) := hidB (by rw [HE2.out]; unfold orV; rw [hio2]; rfl)
            have BY := hidB BWx.out.Y
            go_wp2_with (first | ((with_reducible refine ldId 24 (.tmp 74) ?_); refine wpList_load_mid (by rfl) 24 (.tmp 74) (by rfl) (gW) 4 (by rfl) (O2.v.cells) _ (by exact Bk.mid BY.out 4 _ rfl) Try.underlying24 (by rfl) (by kernel_rfl) ?_))
            refine (doneI_any O2.v _).mono ?_; rintro e w12 ⟨rfl, hb⟩
            replace BWx := hidB (BWx.out.on hb)
            clear hb
            have BR := hidB (show Bk _ (w.heap.size + 1 + 1 + 1) 36 OI.zero.cs from BWx.out.R)
            go_wp2_with (first | ((with_reducible refine stId 36 (.tmp 10) (.tmp 76) ?_); refine wpList_store_row (by rfl) 36 (.tmp 10) (.tmp 76) (by rfl) (w.heap.size + 1 + 1 + 1) ((doneI O2.v).cs) (by rfl) (by rfl) 36 (OI.zero.cs) (by exact BR.out) (by kernel_rfl) (by rfl) (by exact OI.one _ rfl) ?_))
            exact bodyPost_ret (v := .agg ((doneI O2.v).cs)) (results_cell_row Try.results28 _ _ (w.heap.size + 1 + 1 + 1) 36 ((doneI O2.v).cs) (0, 0) _ rfl (BR.out.setRow _) Try.underlying36 rfl (by kernel_rfl)) rfl (show ∃ O' : OI, Ending.returned (doneI O2.v).a = .returned O'.a ∧ _ ∧ _ ∧ _ from ⟨doneI O2.v, rfl, rfl, BWx.out.K.setRow (g := w.heap.size + 1 + 1 + 1) (.inr (by omega)) (doneI O2.v).cs, by rw [HE3.out]; exact ⟨by simp [doneI], by simp, vNil, rfl, World.ownsRow_nil _ _ _ _⟩⟩)
        · skip
          have HN := hidB (show RunR (bodyS f tg pr args L) p (g + 1) O2 w10 by rw [HE1.out]; exact step_no (W := fun av => callW f O1.v av) (l := args) (c := fun c => .out (doneI (orV c O1.v)) []) HRES.out HO.out HA.out hk)
          have BR := hidB (show Bk _ (w.heap.size + 1 + 1 + 1) 36 OI.zero.cs from BWx.out.R)
          go_wp2_with (first | ((with_reducible refine ldId 36 (.tmp 13) ?_); refine wpList_load_row (by rfl) 36 (.tmp 13) (by rfl) (g) (by rfl) 36 (O2.cs) (0, 0) _ (by exact RR.out) Try.underlying36 (by rfl) (by kernel_rfl) ?_) | ((with_reducible refine stId 36 (.tmp 10) (.tmp 63) ?_); refine wpList_store_row (by rfl) 36 (.tmp 10) (.tmp 63) (by rfl) (w.heap.size + 1 + 1 + 1) (O2.cs) (by rfl) (by rfl) 36 (OI.zero.cs) (by exact BR.out) (by kernel_rfl) (by rfl) (by exact OI.one _ HK3.out) ?_))
          exact bodyPost_ret (v := .agg (O2.cs)) (results_cell_row Try.results28 _ _ (w.heap.size + 1 + 1 + 1) 36 (O2.cs) (0, 0) _ rfl (BR.out.setRow _) Try.underlying36 rfl (by kernel_rfl)) rfl (show ∃ O' : OI, Ending.returned O2.a = .returned O'.a ∧ _ ∧ _ ∧ _ from ⟨O2, rfl, HK3.out, BWx.out.K.setRow (g := w.heap.size + 1 + 1 + 1) (.inr (by omega)) O2.cs, ((HN.out).setRow (g := w.heap.size + 1 + 1 + 1) (by have h1 := BWx.out.hp; have h2 := BWx.out.hg; have h3 := HGG.out; omega) (by have h1 := BWx.out.hp; have h2 := BWx.out.hg; have h3 := HGG.out; omega) O2.cs).lower (by have h1 := BWx.out.hp; have h2 := BWx.out.hg; have h3 := HGG.out; omega)⟩)
      · skip
        have HN := hidB (show RunR (bodyS f tg pr args L) p (g + 1) O1 w8 by rw [HE0.out]; exact step_no (W := fun _ => madeW (objI O0.v)) (l := []) (c := (fun b => stepS L 2 (fun av => callW f b av) args fun c => .out (doneI (orV c b)) [])) (av := vNil) HRES.out (World.ownsRow_nil _ _ _ _) HA.out hk)
        have BR := hidB (show Bk _ (w.heap.size + 1 + 1 + 1) 36 OI.zero.cs from BWx.out.R)
        go_wp2_with (first | ((with_reducible refine ldId 36 (.tmp 13) ?_); refine wpList_load_row (by rfl) 36 (.tmp 13) (by rfl) (g) (by rfl) 36 (O1.cs) (0, 0) _ (by exact RR.out) Try.underlying36 (by rfl) (by kernel_rfl) ?_) | ((with_reducible refine stId 36 (.tmp 10) (.tmp 45) ?_); refine wpList_store_row (by rfl) 36 (.tmp 10) (.tmp 45) (by rfl) (w.heap.size + 1 + 1 + 1) (O1.cs) (by rfl) (by rfl) 36 (OI.zero.cs) (by exact BR.out) (by kernel_rfl) (by rfl) (by exact OI.one _ HK2.out) ?_))
        exact bodyPost_ret (v := .agg (O1.cs)) (results_cell_row Try.results28 _ _ (w.heap.size + 1 + 1 + 1) 36 (O1.cs) (0, 0) _ rfl (BR.out.setRow _) Try.underlying36 rfl (by kernel_rfl)) rfl (show ∃ O' : OI, Ending.returned O1.a = .returned O'.a ∧ _ ∧ _ ∧ _ from ⟨O1, rfl, HK2.out, BWx.out.K.setRow (g := w.heap.size + 1 + 1 + 1) (.inr (by omega)) O1.cs, ((HN.out).setRow (g := w.heap.size + 1 + 1 + 1) (by have h1 := BWx.out.hp; have h2 := BWx.out.hg; have h3 := HGG.out; omega) (by have h1 := BWx.out.hp; have h2 := BWx.out.hg; have h3 := HGG.out; omega) O1.cs).lower (by have h1 := BWx.out.hp; have h2 := BWx.out.hg; have h3 := HGG.out; omega)⟩)
  · skip
    have HN := hidB (show RunR (bodyS f tg pr args L) p (gW + 1) O0 wc from step_no (W := fun _ => (methW (getA tg protoK))) (l := []) (c := fun a => stepS L 1 (fun _ => madeW (objI (orV a pr))) [] (fun b => stepS L 2 (fun av => callW f b av) args fun c => .out (doneI (orV c b)) [])) (av := vNil) HRES.out (World.ownsRow_nil _ _ _ _) HA.out hk)
    have BR := hidB (show Bk _ (w.heap.size + 1 + 1 + 1) 36 OI.zero.cs from BWx.out.R)
    go_wp2_with (first | ((with_reducible refine ldId 36 (.tmp 13) ?_); refine wpList_load_row (by rfl) 36 (.tmp 13) (by rfl) (g) (by rfl) 36 (O0.cs) (0, 0) _ (by exact RR.out) Try.underlying36 (by rfl) (by kernel_rfl) ?_) | ((with_reducible refine stId 36 (.tmp 10) (.tmp 26) ?_); refine wpList_store_row (by rfl) 36 (.tmp 10) (.tmp 26) (by rfl) (w.heap.size + 1 + 1 + 1) (O0.cs) (by rfl) (by rfl) 36 (OI.zero.cs) (by exact BR.out) (by kernel_rfl) (by rfl) (by exact OI.one _ HK1.out) ?_))
    exact bodyPost_ret (v := .agg (O0.cs)) (results_cell_row Try.results28 _ _ (w.heap.size + 1 + 1 + 1) 36 (O0.cs) (0, 0) _ rfl (BR.out.setRow _) Try.underlying36 rfl (by kernel_rfl)) rfl (show ∃ O' : OI, Ending.returned O0.a = .returned O'.a ∧ _ ∧ _ ∧ _ from ⟨O0, rfl, HK1.out, BWx.out.K.setRow (g := w.heap.size + 1 + 1 + 1) (.inr (by omega)) O0.cs, ((HN.out).setRow (g := w.heap.size + 1 + 1 + 1) (by have h1 := BWx.out.hp; have h2 := BWx.out.hg; have h3 := HGG.out; omega) (by have h1 := BWx.out.hp; have h2 := BWx.out.hg; have h3 := HGG.out; omega) O0.cs).lower (by have h1 := BWx.out.hp; have h2 := BWx.out.hg; have h3 := HGG.out; omega)⟩)

end Go.Proofs.Ytbkjbpefbdoenaa
