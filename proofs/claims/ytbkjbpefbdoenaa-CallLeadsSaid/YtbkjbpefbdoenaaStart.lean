/-
  A call, a construction, a body is begun.
-/
import Derived.Test.YtbkjbpefbdoenaaNext
import Derived.Test.YtbkjbpefbdoenaaRun2
namespace Go.Proofs.Ytbkjbpefbdoenaa
open Go.RowKit

theorem wpList_mkSlice {P : Program} {ops : Array Oper} {rest : List Oper} {op : Oper} {a : Act} {w : World} {Q : Exit → Act → World → Prop} (hgd : op.guard = none) (t e : TypeId) (n size : Nat) (parts : Array (Nat × Operand)) (ho : op.op = .buildSlice t n parts) (vals : List (Nat × Value)) (hv : (parts.map fun (i, x) => (i, a.eval x)).toList = vals) (z : Value) (cells : Array Value) (ht : P.underlying t = some (.slice e)) (hi : (P.info? e).map (fun i => (i.zero, i.size)) = some (some z, size)) (hn : ¬ n * size > 2 ^ 24) (h0 : n * size ≠ 0)
    (hf : Instr.fill (fun j => some (j * size, size)) ((Array.range (n * size)).map (z.cells[· % z.cells.size]!)) vals = some cells) (h : wpList P ops Q rest (a.put op.dst (.slice (some ⟨w.heap.size, 0, none⟩) n n)) (w.alloc (.cells cells e))) : wpList P ops Q (op :: rest) a w :=
  wpList_plain hgd fun _ hK => wp_buildSlice t e n size parts ho vals hv z cells ht hi hn h0 hf (hK _ _ h)
def okV (l : List VI) : Prop := ∀ v ∈ l, 0 ≤ v.k
def badL (l : List VI) : Bool := l.any (fun v => !v.may)
def wrongE (args l : List VI) : Int := if badL l then 9 else if 64 < args.length then 4 else if badL args then 9 else 0
/-- A block of values is a slice of them that can be read. -/
theorem rd_bk {α : Type} {f : α → List Value} {n : Nat} (hf : ∀ x, (f x).length = n) {w : World} {g : Nat} {t : TypeId} {l : List α} (h : Bk w g t (l.flatMap f).toArray) (hm : l.length ≤ maxLen) : RdL f n l (.slice (some ⟨g, 0, none⟩) l.length l.length) w := by
  refine ⟨_, _, rfl, Nat.le_refl _, hm, fun _ => ⟨g, 0, rfl, h.lt, fun i hi j u hu => ?_⟩⟩
  have hj : j < n := by have := (List.getElem?_eq_some_iff.1 hu).1; rwa [hf] at this
  rw [h.cell]
  rw [List.getElem?_toArray, show 0 + i * n + j = i * n + j by omega, flat_get f n hf l i hi j hj]
  exact hu

set_option maxHeartbeats 8000000 in
set_option maxRecDepth 100000 in
theorem badV_any (v : VI) (h0 : 0 ≤ v.k) (w : World) : Calls Try.prog 43 #[v.a] w fun e w' => e = .returned (.bool (!v.may)) ∧ Below w.heap.size w w' := by
  have MA := hidB (fun W => vmay_any v.k v.x v.s v.r h0 W)
  clear h0
  have X := hidB (show Bk (w.alloc (.cells (v.cells.toArray) 24)) (w.heap.size) 24 (v.cells.toArray) from Bk.new w _ _)
  have B := hidB (show Below w.heap.size w (w.alloc (.cells (v.cells.toArray) 24)) from box_one w _)
  go_enter Try.func43, Try.ntmps43
  go_upto_region 1 with fail
  generalize hW : (w.alloc (.cells (v.cells.toArray) 24)) = w1 at *
  clear hW
  go_wp2_with (first | ((with_reducible refine ldId 24 (.tmp 1) ?_); refine wpList_load_row (by rfl) 24 (.tmp 1) (by rfl) (w.heap.size) (by rfl) 24 (v.cells.toArray) (0, 0) _ (by exact X.out) Try.underlying24 (by rfl) (by kernel_rfl) ?_))
  refine (MA.out _).mono ?_; rintro e w2 ⟨rfl, hb⟩
  replace B := hidB (B.out.trans (hb.mono B.out.size))
  clear hb
  go_wp2_with fail
  go_ret
  exact ⟨rfl, B.out⟩

def IdxR (l : List VI) (w : World) (e : Ending) (w' : World) : Prop := ∃ n : Int, e = .returned (.int .i64 n) ∧ decide (0 ≤ n) = badL l ∧ Below w.heap.size w w'
set_option maxHeartbeats 8000000 in
set_option maxRecDepth 100000 in
theorem indexF_any (l : List VI) (h0 : okV l) (v : Value) (w : World) (hr : RdL VI.cells 4 l v w) : Calls Try.prog 71 #[v, (.func (.func 43) #[] #[])] w (IdxR l w) := by
  obtain ⟨pa, c, rfl, h1, h2, h3⟩ := hr
  unfold maxLen at h2
  have hlm : l.length ≤ 9223372036854775807 := by omega
  have HC := hidB h3
  have HZ := hidB h0
  clear h3 h0
  go_enter Try.func71, Try.ntmps71
  go_wp2_with fail
  go_loopw [8] (fun i wr => ∃ k : Nat, k ≤ l.length ∧ i = .int .i64 k ∧ badL (l.take k) = false ∧ Below w.heap.size w wr) (fun i _ => l.length - (intOf i).toNat)
  case atStart => exact ⟨0, by omega, rfl, rfl, Below.refl _ _⟩
  case round =>
    obtain ⟨k, hk, rfl, ha, hb⟩ := hrel
    have Ha := hidB ha
    have B := hidB hb
    clear ha hb
    by_cases hlt : k < l.length
    · have hx1 : (k : Int) < (l.length : Int) := by omega
      have hx2 : (0 : Int) ≤ (k : Int) := by omega
      obtain ⟨g, o, rfl, hg, hcell⟩ := HC.out (by omega)
      have HR := hidB (rangeOn B.out hg (hcell k hlt))
      have BV := hidB (badV_any l[k] (HZ.out _ (List.getElem_mem hlt)))
      have HQ := hidB (show badL (l.take (k + 1)) = !(l[k]'hlt).may by unfold badL at *; rw [List.take_succ_eq_append_getElem hlt, List.any_append, Ha.out, Bool.false_or]; simp)
      have HI := hidB (show (l[k]'hlt).may = false → badL l = true from fun h => List.any_eq_true.2 ⟨l[k], List.getElem_mem hlt, by rw [h]; rfl⟩)
      clear HC hcell hg Ha HZ
      generalize l[k]'hlt = kk at *
      go_wp2_with (first | ((with_reducible refine ldId 24 (.tmp 14) ?_); refine wpList_load_mid (by rfl) 24 (.tmp 14) (by rfl) g (o + k * 4) (by rfl) kk.cells _ (by exact HR.out) Try.underlying24 (by rfl) (by kernel_rfl) ?_))
      refine (BV.out _).mono ?_; rintro e w2 ⟨rfl, hb⟩
      replace B := hidB (B.out.trans (hb.mono B.out.size))
      clear hb
      cases hm : kk.may
      · have HQ2 := hidB (HI.out hm)
        clear hm
        go_wp2_with fail
        go_ret
        exact ⟨k, rfl, by rw [HQ2.out]; exact decide_eq_true (by omega), B.out⟩
      · have HQ2 := hidB (show badL (l.take (k + 1)) = false by rw [HQ.out, hm]; rfl)
        clear hm
        go_wp2_with fail
        go_roundw
        case rel => exact ⟨k + 1, by omega, by go_num, HQ2.out, B.out⟩
        case measure => simp [intOf]; omega
    · obtain rfl : k = l.length := by omega
      have hx4 : ¬ ((l.length : Int) < (l.length : Int)) := by omega
      have HE : Hid (badL l = false) := hidB (by have := Ha.out; rwa [List.take_length] at this)
      clear Ha HC hk
      go_wp2_with fail
      go_ret
      exact ⟨-1, rfl, by rw [HE.out]; rfl, B.out⟩
set_option maxHeartbeats 8000000 in
set_option maxRecDepth 100000 in
theorem containsF_any (l : List VI) (h0 : okV l) (v : Value) (w : World) (hr : RdL VI.cells 4 l v w) : Calls Try.prog 44 #[v, (.func (.func 43) #[] #[])] w fun e w' => e = .returned (.bool (badL l)) ∧ Below w.heap.size w w' := by
  have CI := hidB (indexF_any l h0 v w hr)
  clear h0 hr
  go_enter Try.func44, Try.ntmps44
  go_wp2_with fail
  refine CI.out.mono ?_; rintro e w2 ⟨n, rfl, hn, hb⟩
  have HN := hidB hn
  have HB := hidB hb
  clear hn hb CI
  go_wp2_with fail
  go_ret
  exact ⟨ret_bool (by rw [← HN.out]), HB.out⟩
set_option maxHeartbeats 8000000 in
set_option maxRecDepth 100000 in
theorem wrong_any (args l : List VI) (ha : okV args) (hl : okV l) (a v : Value) (w : World) (hra : RdL VI.cells 4 args a w) (hrl : RdL VI.cells 4 l v w) : Calls Try.prog 24 #[a, v] w fun e w' => e = .returned (.int .i64 (wrongE args l)) ∧ Below w.heap.size w w' := by
  have CL := hidB (containsF_any l hl v w hrl)
  have CA := hidB (fun W (hb : Below w.heap.size w W) => containsF_any args ha a W (hra.on hb))
  obtain ⟨pa, c, rfl, h1, h2, _⟩ := hra
  unfold maxLen at h2
  have hlm : args.length ≤ 9223372036854775807 := by omega
  clear ha hl hrl
  go_enter Try.func24, Try.ntmps24
  go_wp2_with fail
  refine CL.out.mono ?_; rintro e w2 ⟨rfl, hb⟩
  have B := hidB hb
  clear hb CL
  cases hbl : badL l
  rotate_left
  · have HBL := hidB hbl
    clear hbl
    go_wp2_with fail
    go_ret
    exact ⟨by rw [show wrongE args l = 9 from by unfold wrongE; rw [HBL.out]; rfl]; rfl, B.out⟩
  have HBL := hidB hbl
  clear hbl
  by_cases hbig : 64 < args.length
  · have hbi : (64 : Int) < (args.length : Int) := by omega
    have HBG := hidB hbig
    clear hbig
    go_wp2_with fail
    go_ret
    exact ⟨by rw [show wrongE args l = 4 from by unfold wrongE; rw [HBL.out, if_neg (by decide), if_pos HBG.out]]; rfl, B.out⟩
  have hbi : ¬ (64 : Int) < (args.length : Int) := by omega
  have HBG := hidB hbig
  clear hbig
  go_wp2_with fail
  refine (CA.out _ B.out).mono ?_; rintro e w3 ⟨rfl, hb⟩
  replace B := hidB (B.out.trans (hb.mono B.out.size))
  clear hb CA
  cases hba : badL args
  all_goals have HBA := hidB hba
  all_goals clear hba
  · go_wp2_with fail
    go_ret
    exact ⟨by rw [show wrongE args l = 0 from by unfold wrongE; rw [HBL.out, if_neg (by decide), if_neg HBG.out, HBA.out, if_neg (by decide)]]; rfl, B.out⟩
  · go_wp2_with fail
    go_ret
    exact ⟨by rw [show wrongE args l = 9 from by unfold wrongE; rw [HBL.out, if_neg (by decide), if_neg HBG.out, HBA.out, if_pos rfl]]; rfl, B.out⟩
set_option maxHeartbeats 8000000 in
set_option maxRecDepth 100000 in
theorem newM_any (fn : Nat) (caps : Array Value) (w : World) : Calls Try.prog 26 #[.func (.func fn) #[] caps] w fun e w' => e = .returned (.pointer (some ⟨w.heap.size, 0, none⟩)) ∧ w' = w.alloc (.cells (machC fn caps vNil 0 0 false false) 82) := by
  go_enter Try.func26, Try.ntmps26
  go_wp2_with (first | ((with_reducible refine wpId ?_); refine wpList_build_to (by rfl) 82 _ (by rfl) ((machC fn caps vNil 0 0 false false)) (by kernel_rfl) ?_))
  go_ret
  exact ⟨rfl, rfl⟩

/-- The blocks that a call or a construction has captured. -/
def ES (gf gt ga : Nat) (av : Value) (k : Nat) : Prop := k = gf ∨ k = gt ∨ k = ga ∨ av.ownBlock = some k
abbrev ptr (g : Nat) : Value := .pointer (some ⟨g, 0, none⟩)
/-- What it holds. -/
def CapE (f th : VI) (args : List VI) (gf gt ga : Nat) (av : Value) (w : World) : Prop := CapS (ES gf gt ga av) gf gt ga av f th args w ∧ w.ownsRow 0 24 4 av args.length (args.flatMap VI.cells)
theorem capE_keep {f th : VI} {args : List VI} {gf gt ga : Nat} {av : Value} {w w' : World} (h : CapE f th args gf gt ga av w) (hs : w.heap.size ≤ w'.heap.size) (hb : ∀ k, ES gf gt ga av k → w'.heap[k]? = w.heap[k]?) : CapE f th args gf gt ga av w' :=
  ⟨h.1.keep hs fun k hk _ => hb k hk, own_eq h.2 fun k hk => hb k (.inr (.inr (.inr hk)))⟩
theorem typ_own {w : World} {base e sz n k : Nat} {v : Value} {xs : List Value} (h : w.ownsRow base e sz v n xs) (hk : v.ownBlock = some k) : ∃ cs, Bk w k e cs := by
  rcases h.2 with ⟨rfl, _⟩ | ⟨b, cap, cur, rfl, _, hb, _⟩
  · cases hk
  · cases hk; exact ⟨cur, hb⟩
theorem capE_typ {f th : VI} {args : List VI} {gf gt ga : Nat} {av : Value} {w : World} (k : Nat) (h : CapE f th args gf gt ga av w) (hk : ES gf gt ga av k) : ∃ cs t x, w.heap[k]? = some (.cells cs t x) ∧ t ≠ 36 ∧ t ≠ 82 ∧ t ≠ 92 := by
  rcases hk with rfl | rfl | rfl | hk
  · exact ⟨_, _, _, h.1.bf, by decide, by decide, by decide⟩
  · exact ⟨_, _, _, h.1.bt, by decide, by decide, by decide⟩
  · exact ⟨_, _, _, h.1.ba, by decide, by decide, by decide⟩
  · obtain ⟨cs, hb⟩ := typ_own h.2 hk
    exact ⟨_, _, _, hb, by decide, by decide, by decide⟩
theorem onlyR_strip (e : OI × List KI) : onlyR (stripE e) = (onlyR e).strip := by
  unfold onlyR
  show (if e.1.kd = 1 then _ else _) = _
  split
  · rfl
  · rfl
theorem askR_strip (m : Int) (f th : VI) (args : List VI) (L : List (OI × List KI)) : askR m f th args (L.map stripE) = (askR m f th args L).strip := by
  cases L with
  | nil => rfl
  | cons e L => exact onlyR_strip e
theorem askR_km (m : Int) (f th : VI) (args : List VI) (L : List (OI × List KI)) (W : Value → WI) (l : List VI) (h : askR m f th args L = .want W l) (av : Value) : (W av).kd = (W vNil).kd ∧ (W av).ask.m = (W vNil).ask.m ∧ (av.oneCell' = true → (W av).one1) := by
  cases L with
  | nil =>
    simp only [askR, Res.want.injEq] at h
    obtain ⟨rfl, rfl⟩ := h
    exact ⟨rfl, rfl, fun h => ⟨h, rfl, rfl, rfl⟩⟩
  | cons e L =>
    exfalso
    simp only [askR, onlyR] at h
    split at h
    · cases h
    · cases h
theorem startS_km (f th : VI) (args : List VI) (L : List (OI × List KI)) (W : Value → WI) (l : List VI) (h : startS f th args L = .want W l) : ∀ av, (W av).kd = (W vNil).kd ∧ (W av).ask.m = (W vNil).ask.m ∧ (av.oneCell' = true → (W av).one1) := by
  unfold startS at h
  split at h
  · exact askR_km _ _ _ _ _ _ _ h
  · cases h
theorem makeS_km (f th : VI) (args : List VI) (L : List (OI × List KI)) (W : Value → WI) (l : List VI) (h : makeS f th args L = .want W l) : ∀ av, (W av).kd = (W vNil).kd ∧ (W av).ask.m = (W vNil).ask.m ∧ (av.oneCell' = true → (W av).one1) := by
  unfold makeS at h
  split at h
  · exact askR_km _ _ _ _ _ _ _ h
  · cases h
theorem runF_start (f th : VI) (args : List VI) (gf gt ga : Nat) (av : Value) : RunF (startS f th args) 37 #[ptr gf, ptr gt, ptr ga] (ES gf gt ga av) (CapE f th args gf gt ga av) where
  run := fun p ans wt L w hC hE hP hA => start1_any f th args _ gf gt ga av p ans wt L w hC.1 hE hP hA
  body := fun args w => by kernel_rfl
  keep := fun _ _ h hs hb => capE_keep h hs hb
  typ := fun _ k h hk => capE_typ k h hk
  strip := fun L => by unfold startS; split; exact askR_strip _ _ _ _ _; rfl
  km := startS_km f th args
theorem runF_make (f th : VI) (args : List VI) (gf gt ga : Nat) (av : Value) : RunF (makeS f th args) 41 #[ptr gf, ptr gt, ptr ga] (ES gf gt ga av) (CapE f th args gf gt ga av) where
  run := fun p ans wt L w hC hE hP hA => make1_any f th args _ gf gt ga av p ans wt L w hC.1 hE hP hA
  body := fun args w => by kernel_rfl
  keep := fun _ _ h hs hb => capE_keep h hs hb
  typ := fun _ k h hk => capE_typ k h hk
  strip := fun L => by unfold makeS; split; exact askR_strip _ _ _ _ _; rfl
  km := makeS_km f th args

/-! ### a body -/
def EB (gf ga gt gp : Nat) (av : Value) (k : Nat) : Prop := k = gf ∨ k = ga ∨ k = gt ∨ k = gp ∨ av.ownBlock = some k
structure CapB (f tg pr : VI) (args : List VI) (gf ga gt gp : Nat) (av : Value) (w : World) : Prop where
  bf : Bk w gf 24 f.cells.toArray
  ba : Bk w ga 25 #[av]
  bt : Bk w gt 24 tg.cells.toArray
  bp : Bk w gp 24 pr.cells.toArray
  own : w.ownsRow 0 24 4 av args.length (args.flatMap VI.cells)
  len : args.length ≤ 64
theorem CapB.keep {f tg pr : VI} {args : List VI} {gf ga gt gp : Nat} {av : Value} {w w' : World} (h : CapB f tg pr args gf ga gt gp av w) (hb : ∀ k, EB gf ga gt gp av k → w'.heap[k]? = w.heap[k]?) : CapB f tg pr args gf ga gt gp av w' :=
  ⟨(hb _ (.inl rfl)).trans h.bf, (hb _ (.inr (.inl rfl))).trans h.ba, (hb _ (.inr (.inr (.inl rfl)))).trans h.bt, (hb _ (.inr (.inr (.inr (.inl rfl))))).trans h.bp, own_eq h.own fun k hk => hb k (.inr (.inr (.inr (.inr hk)))), h.len⟩
theorem CapB.typ {f tg pr : VI} {args : List VI} {gf ga gt gp : Nat} {av : Value} {w : World} (k : Nat) (h : CapB f tg pr args gf ga gt gp av w) (hk : EB gf ga gt gp av k) : ∃ cs t x, w.heap[k]? = some (.cells cs t x) ∧ t ≠ 36 ∧ t ≠ 82 ∧ t ≠ 92 := by
  rcases hk with rfl | rfl | rfl | rfl | hk
  · exact ⟨_, _, _, h.bf, by decide, by decide, by decide⟩
  · exact ⟨_, _, _, h.ba, by decide, by decide, by decide⟩
  · exact ⟨_, _, _, h.bt, by decide, by decide, by decide⟩
  · exact ⟨_, _, _, h.bp, by decide, by decide, by decide⟩
  · obtain ⟨cs, hb⟩ := typ_own h.own hk
    exact ⟨_, _, _, hb, by decide, by decide, by decide⟩
theorem stepS_strip (L : List (OI × List KI)) (k : Nat) (W : Value → WI) (l : List VI) (c : VI → Res) (hc : ∀ v, (c v).strip = c v) : stepS (L.map stripE) k W l c = (stepS L k W l c).strip := by
  unfold stepS
  rw [List.getElem?_map]
  cases L[k]? with
  | none => rfl
  | some e =>
    show (if e.1.kd = 1 then c e.1.v else _) = Res.strip (if e.1.kd = 1 then c e.1.v else _)
    split
    · exact (hc _).symm
    · rfl
theorem stepS_hom (L : List (OI × List KI)) (k : Nat) (W : Value → WI) (l : List VI) (c d : VI → Res) (hc : ∀ v, d v = (c v).strip) : stepS (L.map stripE) k W l d = (stepS L k W l c).strip := by
  unfold stepS
  rw [List.getElem?_map]
  cases L[k]? with
  | none => rfl
  | some e =>
    show (if e.1.kd = 1 then d e.1.v else _) = Res.strip (if e.1.kd = 1 then c e.1.v else _)
    split
    · exact hc _
    · rfl
theorem bodyS_strip (f tg pr : VI) (args : List VI) (L : List (OI × List KI)) : bodyS f tg pr args (L.map stripE) = (bodyS f tg pr args L).strip :=
  stepS_hom L 0 _ _ _ _ fun _ => stepS_hom L 1 _ _ _ _ fun _ => stepS_hom L 2 _ _ _ _ fun _ => rfl
theorem stepS_km (L : List (OI × List KI)) (k : Nat) (W0 : Value → WI) (l0 : List VI) (c : VI → Res) (W : Value → WI) (l : List VI) (h : stepS L k W0 l0 c = .want W l) (h0 : ∀ av, (W0 av).kd = (W0 vNil).kd ∧ (W0 av).ask.m = (W0 vNil).ask.m ∧ (av.oneCell' = true → (W0 av).one1)) (hc : ∀ v, c v = .want W l → ∀ av, (W av).kd = (W vNil).kd ∧ (W av).ask.m = (W vNil).ask.m ∧ (av.oneCell' = true → (W av).one1)) : ∀ av, (W av).kd = (W vNil).kd ∧ (W av).ask.m = (W vNil).ask.m ∧ (av.oneCell' = true → (W av).one1) := by
  unfold stepS at h
  split at h
  · simp only [Res.want.injEq] at h
    obtain ⟨rfl, rfl⟩ := h
    exact h0
  · split at h
    · exact hc _ h
    · cases h
theorem bodyS_km (f tg pr : VI) (args : List VI) (L : List (OI × List KI)) (W : Value → WI) (l : List VI) (h : bodyS f tg pr args L = .want W l) : ∀ av, (W av).kd = (W vNil).kd ∧ (W av).ask.m = (W vNil).ask.m ∧ (av.oneCell' = true → (W av).one1) :=
  stepS_km L 0 _ _ _ W l h (fun av => ⟨rfl, rfl, fun _ => ⟨rfl, rfl, rfl, rfl⟩⟩) fun _ h => stepS_km L 1 _ _ _ W l h (fun av => ⟨rfl, rfl, fun _ => ⟨rfl, rfl, rfl, rfl⟩⟩) fun _ h => stepS_km L 2 _ _ _ W l h (fun av => ⟨rfl, rfl, fun h => ⟨rfl, h, rfl, rfl⟩⟩) fun _ h => by cases h

set_option maxHeartbeats 8000000 in
set_option maxRecDepth 100000 in
theorem body1_any (f tg pr : VI) (args : List VI) (gf ga gt gp : Nat) (av : Value) (p : Nat) (ans : Value) (wt : WI) (L : List (OI × List KI)) (w : World) (hC : CapB f tg pr args gf ga gt gp av w) (hP : Bk w p 92 (playC ans 0 wt)) (hA : AnsR p L ans w) : Calls Try.prog 27 #[ptr p, ptr gf, ptr ga, ptr gt, ptr gp] w fun e w' => ∃ O : OI, e = .returned O.a ∧ O.keys.oneCell' = true ∧ Kept (fun q => q = p) w w' ∧ RunR (bodyS f tg pr args L) p w.heap.size O w' := by
  obtain ⟨qa, ca, hav⟩ := own_slice hC.own
  subst hav
  have R := hidB (show Bk (w.alloc (.cells (#[.int .u8 0, .int .u8 0, .float .f64 0, .string ⟨#[]⟩, .int .i64 0, .bool false, .bool false, .int .u8 0, .int .u8 0, .float .f64 0, .string ⟨#[]⟩, .int .i64 0, .int .u8 0, .float .f64 0, .string ⟨#[]⟩, .int .i64 0, .int .u8 0, .float .f64 0, .string ⟨#[]⟩, .int .i64 0, .bool false, .bool false, .bool false, .slice none 0 0, .int .u8 0, .string ⟨#[]⟩]) 36)) (w.heap.size) 36 (OI.zero.cs) from Bk.new w _ _)
  have B := hidB (show Below w.heap.size w (w.alloc (.cells (#[.int .u8 0, .int .u8 0, .float .f64 0, .string ⟨#[]⟩, .int .i64 0, .bool false, .bool false, .int .u8 0, .int .u8 0, .float .f64 0, .string ⟨#[]⟩, .int .i64 0, .int .u8 0, .float .f64 0, .string ⟨#[]⟩, .int .i64 0, .int .u8 0, .float .f64 0, .string ⟨#[]⟩, .int .i64 0, .bool false, .bool false, .bool false, .slice none 0 0, .int .u8 0, .string ⟨#[]⟩]) 36)) from box_one w _)
  have PF := hidB (show Bk (w.alloc (.cells (#[.int .u8 0, .int .u8 0, .float .f64 0, .string ⟨#[]⟩, .int .i64 0, .bool false, .bool false, .int .u8 0, .int .u8 0, .float .f64 0, .string ⟨#[]⟩, .int .i64 0, .int .u8 0, .float .f64 0, .string ⟨#[]⟩, .int .i64 0, .int .u8 0, .float .f64 0, .string ⟨#[]⟩, .int .i64 0, .bool false, .bool false, .bool false, .slice none 0 0, .int .u8 0, .string ⟨#[]⟩]) 36)) p 92 (playC ans 0 wt) from hP.alloc _)
  have HPL := hidB hP.lt
  have BF := hidB (show Bk (w.alloc (.cells (#[.int .u8 0, .int .u8 0, .float .f64 0, .string ⟨#[]⟩, .int .i64 0, .bool false, .bool false, .int .u8 0, .int .u8 0, .float .f64 0, .string ⟨#[]⟩, .int .i64 0, .int .u8 0, .float .f64 0, .string ⟨#[]⟩, .int .i64 0, .int .u8 0, .float .f64 0, .string ⟨#[]⟩, .int .i64 0, .bool false, .bool false, .bool false, .slice none 0 0, .int .u8 0, .string ⟨#[]⟩]) 36)) gf 24 f.cells.toArray from hC.bf.alloc _)
  have BA := hidB (show Bk (w.alloc (.cells (#[.int .u8 0, .int .u8 0, .float .f64 0, .string ⟨#[]⟩, .int .i64 0, .bool false, .bool false, .int .u8 0, .int .u8 0, .float .f64 0, .string ⟨#[]⟩, .int .i64 0, .int .u8 0, .float .f64 0, .string ⟨#[]⟩, .int .i64 0, .int .u8 0, .float .f64 0, .string ⟨#[]⟩, .int .i64 0, .bool false, .bool false, .bool false, .slice none 0 0, .int .u8 0, .string ⟨#[]⟩]) 36)) ga 25 #[.slice qa args.length ca] from hC.ba.alloc _)
  have BT_ := hidB (show Bk (w.alloc (.cells (#[.int .u8 0, .int .u8 0, .float .f64 0, .string ⟨#[]⟩, .int .i64 0, .bool false, .bool false, .int .u8 0, .int .u8 0, .float .f64 0, .string ⟨#[]⟩, .int .i64 0, .int .u8 0, .float .f64 0, .string ⟨#[]⟩, .int .i64 0, .int .u8 0, .float .f64 0, .string ⟨#[]⟩, .int .i64 0, .bool false, .bool false, .bool false, .slice none 0 0, .int .u8 0, .string ⟨#[]⟩]) 36)) gt 24 tg.cells.toArray from hC.bt.alloc _)
  have BP := hidB (show Bk (w.alloc (.cells (#[.int .u8 0, .int .u8 0, .float .f64 0, .string ⟨#[]⟩, .int .i64 0, .bool false, .bool false, .int .u8 0, .int .u8 0, .float .f64 0, .string ⟨#[]⟩, .int .i64 0, .int .u8 0, .float .f64 0, .string ⟨#[]⟩, .int .i64 0, .int .u8 0, .float .f64 0, .string ⟨#[]⟩, .int .i64 0, .bool false, .bool false, .bool false, .slice none 0 0, .int .u8 0, .string ⟨#[]⟩]) 36)) gp 24 pr.cells.toArray from hC.bp.alloc _)
  have AV := hidB (show AnsR p L ans (w.alloc (.cells (#[.int .u8 0, .int .u8 0, .float .f64 0, .string ⟨#[]⟩, .int .i64 0, .bool false, .bool false, .int .u8 0, .int .u8 0, .float .f64 0, .string ⟨#[]⟩, .int .i64 0, .int .u8 0, .float .f64 0, .string ⟨#[]⟩, .int .i64 0, .int .u8 0, .float .f64 0, .string ⟨#[]⟩, .int .i64 0, .bool false, .bool false, .bool false, .slice none 0 0, .int .u8 0, .string ⟨#[]⟩]) 36)) from hA.kept ((Kept.refl _ w).alloc _))
  have VV := hidB (show RdL VI.cells 4 args (.slice qa args.length ca) (w.alloc (.cells (#[.int .u8 0, .int .u8 0, .float .f64 0, .string ⟨#[]⟩, .int .i64 0, .bool false, .bool false, .int .u8 0, .int .u8 0, .float .f64 0, .string ⟨#[]⟩, .int .i64 0, .int .u8 0, .float .f64 0, .string ⟨#[]⟩, .int .i64 0, .int .u8 0, .float .f64 0, .string ⟨#[]⟩, .int .i64 0, .bool false, .bool false, .bool false, .slice none 0 0, .int .u8 0, .string ⟨#[]⟩]) 36)) from (own_rd VI.cells_len hC.own).on (box_one w _))
  have PF := hidB (show Bk (w.alloc (.cells (#[.int .u8 0, .int .u8 0, .float .f64 0, .string ⟨#[]⟩, .int .i64 0, .bool false, .bool false, .int .u8 0, .int .u8 0, .float .f64 0, .string ⟨#[]⟩, .int .i64 0, .int .u8 0, .float .f64 0, .string ⟨#[]⟩, .int .i64 0, .int .u8 0, .float .f64 0, .string ⟨#[]⟩, .int .i64 0, .bool false, .bool false, .bool false, .slice none 0 0, .int .u8 0, .string ⟨#[]⟩]) 36)) p 92 (playC ans 0 wt) from hP.alloc _)
  have VN := hidB (fun k (hk : (Value.slice qa args.length ca).ownBlock = some k) => own_neB hC.own hP (by decide) hk)
  have HL := hidB hC.len
  clear hC hP hA
  go_enter Try.func27, Try.ntmps27
  go_upto_region 1 with fail
  generalize hW : (w.alloc (.cells (#[.int .u8 0, .int .u8 0, .float .f64 0, .string ⟨#[]⟩, .int .i64 0, .bool false, .bool false, .int .u8 0, .int .u8 0, .float .f64 0, .string ⟨#[]⟩, .int .i64 0, .int .u8 0, .float .f64 0, .string ⟨#[]⟩, .int .i64 0, .int .u8 0, .float .f64 0, .string ⟨#[]⟩, .int .i64 0, .bool false, .bool false, .bool false, .slice none 0 0, .int .u8 0, .string ⟨#[]⟩]) 36)) = w1 at *
  clear hW
  have y0 : w1.cell? ⟨ga, 0, none⟩ = some (.slice qa args.length ca) := BA.out.cell 0
  go_wp2_with (first | ((with_reducible refine ldId 24 (.tmp 1) ?_); refine wpList_load_row (by rfl) 24 (.tmp 1) (by rfl) (gf) (by rfl) 24 (f.cells.toArray) (0, 0) _ (by exact BF.out) Try.underlying24 (by rfl) (by kernel_rfl) ?_) | ((with_reducible refine ldId 24 (.tmp 3) ?_); refine wpList_load_row (by rfl) 24 (.tmp 3) (by rfl) (gt) (by rfl) 24 (tg.cells.toArray) (0, 0) _ (by exact BT_.out) Try.underlying24 (by rfl) (by kernel_rfl) ?_) | ((with_reducible refine ldId 24 (.tmp 4) ?_); refine wpList_load_row (by rfl) 24 (.tmp 4) (by rfl) (gp) (by rfl) 24 (pr.cells.toArray) (0, 0) _ (by exact BP.out) Try.underlying24 (by rfl) (by kernel_rfl) ?_))
  refine (built_any f tg pr args p (.slice qa args.length ca) ans wt L w1 HL.out VV.out VN.out PF.out AV.out).mono ?_; rintro e w2 ⟨O, rfl, hO, hkp, hrun⟩
  have HO := hidB hO
  have HRUN := hidB hrun
  have HSZ := hidB B.out.size
  have HRL := hidB R.out.lt
  have HPN := hidB (show w.heap.size ≠ p from Nat.ne_of_gt HPL.out)
  replace R := hidB (R.out.kept hkp (by exact HPN.out))
  have KW := hidB ((Kept.below B.out).trans hkp)
  clear hO hrun hkp y0
  go_wp2_with (first | ((with_reducible refine stId 36 (.tmp 6) (.tmp 12) ?_); refine wpList_store_row (by rfl) 36 (.tmp 6) (.tmp 12) (by rfl) (w.heap.size) (O.cs) (by rfl) (by rfl) 36 (OI.zero.cs) (by exact R.out) (by kernel_rfl) (by rfl) (by exact OI.one _ HO.out) ?_))
  exact bodyPost_ret (v := .agg (O.cs)) (results_cell_row Try.results27 _ _ (w.heap.size) 36 (O.cs) (0, 0) _ rfl (R.out.setRow _) Try.underlying36 rfl (by kernel_rfl)) rfl (show ∃ O' : OI, Ending.returned O.a = .returned O'.a ∧ _ ∧ _ ∧ _ from ⟨O, rfl, HO.out, KW.out.setRow (g := w.heap.size) (.inr (Nat.le_refl _)) O.cs, (HRUN.out.setRow HRL.out (by exact HPN.out) O.cs).lower HSZ.out⟩)
theorem runF_body (f tg pr : VI) (args : List VI) (gf ga gt gp : Nat) (av : Value) : RunF (bodyS f tg pr args) 27 #[ptr gf, ptr ga, ptr gt, ptr gp] (EB gf ga gt gp av) (CapB f tg pr args gf ga gt gp av) where
  run := fun p ans wt L w hC _ hP hA => body1_any f tg pr args gf ga gt gp av p ans wt L w hC hP hA
  body := fun args w => by kernel_rfl
  keep := fun _ _ h _ hb => h.keep hb
  typ := fun _ k h hk => h.typ k hk
  strip := bodyS_strip f tg pr args
  km := bodyS_km f tg pr args


/-- A task: a block that points to a machine; all of it in blocks of A. -/
structure TaskW (S : List (OI × List KI) → Res) (T : Nat) (q : Q) (A : Nat → Prop) (w : World) : Prop where
  lt : ∀ k, A k → k < w.heap.size
  m : ∃ fn caps E Cap g A', RunF S fn caps E Cap ∧ MachW S fn caps E Cap g q A' w ∧ (∀ k, A' k → A k) ∧ ¬ A' T ∧ A T ∧ Bk w T 70 #[ptr g]
theorem TaskW.keep {S : List (OI × List KI) → Res} {T : Nat} {q : Q} {A : Nat → Prop} {w w' : World} (h : TaskW S T q A w) (hs : w.heap.size ≤ w'.heap.size) (hb : ∀ k, A k → w'.heap[k]? = w.heap[k]?) : TaskW S T q A w' := by
  obtain ⟨h0, fn, caps, E, Cap, g, A', h1, h2, h3, h4, h5, h6⟩ := h
  exact ⟨fun k hk => Nat.lt_of_lt_of_le (h0 k hk) hs, fn, caps, E, Cap, g, A', h1, h2.keep h1 hs fun k hk => hb k (h3 k hk), h3, h4, h5, (hb T h5).trans h6⟩
theorem TaskW.on {S : List (OI × List KI) → Res} {T : Nat} {q : Q} {A : Nat → Prop} {w w' : World} (h : TaskW S T q A w) (hb : Below w.heap.size w w') : TaskW S T q A w' := h.keep hb.size fun k hk => hb.block k (h.lt k hk)
/-- What beginning comes to. -/
def BegunR (S : List (OI × List KI) → Res) (er : Int) (w : World) (e : Ending) (w' : World) : Prop :=
  (er ≠ 0 ∧ e = .returned (.tuple #[.pointer none, .int .i64 er]) ∧ Below w.heap.size w w') ∨ (er = 0 ∧ ∃ T A, e = .returned (.tuple #[ptr T, .int .i64 0]) ∧ TaskW S T .fresh A w' ∧ Below w.heap.size w w' ∧ ∀ k, A k → w.heap.size ≤ k)
theorem wrong_len {args l : List VI} (h : wrongE args l = 0) : args.length ≤ 64 := by
  unfold wrongE at h
  split at h
  · cases h
  · split at h
    · cases h
    · omega
theorem okV_two {a b : VI} (ha : 0 ≤ a.k) (hb : 0 ≤ b.k) : okV [a, b] := by
  intro v hv
  simp only [List.mem_cons, List.not_mem_nil, or_false] at hv
  rcases hv with rfl | rfl
  · exact ha
  · exact hb
theorem okV_three {a b c : VI} (ha : 0 ≤ a.k) (hb : 0 ≤ b.k) (hc : 0 ≤ c.k) : okV [a, b, c] := by
  intro v hv
  simp only [List.mem_cons, List.not_mem_nil, or_false] at hv
  rcases hv with rfl | rfl | rfl
  · exact ha
  · exact hb
  · exact hc
/-- A machine that has not begun. -/
theorem mach_fresh {S : List (OI × List KI) → Res} {fn : Nat} {caps : Array Value} {E : Nat → Prop} {Cap : World → Prop} {g : Nat} {w : World} (hg : Bk w g 82 (machC fn caps vNil 0 0 false false)) (hC : Cap w) (hE : ∀ k, E k → k < w.heap.size) : MachW S fn caps E Cap g .fresh (fun k => E k ∨ k = g) w :=
  ⟨hC, fun _ h => .inl h, .inr rfl, fun k h => by rcases h with h | rfl; exact hE k h; exact hg.lt, hg⟩
theorem task_fresh {S : List (OI × List KI) → Res} {fn : Nat} {caps : Array Value} {E : Nat → Prop} {Cap : World → Prop} {g T : Nat} {w : World} (hF : RunF S fn caps E Cap) (hg : Bk w g 82 (machC fn caps vNil 0 0 false false)) (hC : Cap w) (hE : ∀ k, E k → k < w.heap.size ∧ k ≠ T) (hT : Bk w T 70 #[ptr g]) (hne : T ≠ g) : TaskW S T .fresh (fun k => E k ∨ k = g ∨ k = T) w :=
  ⟨fun k h => by rcases h with h | rfl | rfl; exact (hE k h).1; exact hg.lt; exact hT.lt, fn, caps, E, Cap, g, _, hF, mach_fresh hg hC fun k h => (hE k h).1, fun k h => by rcases h with h | h; exact .inl h; exact .inr (.inl h), fun h => by rcases h with h | h; exact (hE T h).2 rfl; exact hne h, .inr (.inr rfl), hT⟩

set_option maxHeartbeats 8000000 in
set_option maxRecDepth 100000 in
theorem start_any (f th : VI) (args : List VI) (hf : 0 ≤ f.k) (hth : 0 ≤ th.k) (ha : okV args) (v : Value) (w : World) (hr : RdL VI.cells 4 args v w) : Calls Try.prog 20 #[f.a, th.a, v] w (BegunR (startS f th args) (wrongE args [f, th]) w) := by
  have RA := hidB (fun W (hb : Below w.heap.size w W) => hr.on hb)
  obtain ⟨pa, c, rfl, h1, h2, _⟩ := hr
  unfold maxLen at h2
  have hlm : args.length ≤ 9223372036854775807 := by omega
  have HA := hidB ha
  have Hf := hidB hf
  have Hth := hidB hth
  clear ha hf hth
  have X0 := hidB (show Bk (((w.alloc (.cells (f.cells.toArray) 24)).alloc (.cells (th.cells.toArray) 24)).alloc (.cells (#[.slice pa args.length c]) 25)) (w.heap.size) 24 (f.cells.toArray) from ((Bk.new w _ _).alloc _).alloc _)
  have X1 := hidB (show Bk (((w.alloc (.cells (f.cells.toArray) 24)).alloc (.cells (th.cells.toArray) 24)).alloc (.cells (#[.slice pa args.length c]) 25)) (w.heap.size + 1) 24 (th.cells.toArray) from (Bk.new2 w _ _ _).alloc _)
  have X2 := hidB (show Bk (((w.alloc (.cells (f.cells.toArray) 24)).alloc (.cells (th.cells.toArray) 24)).alloc (.cells (#[.slice pa args.length c]) 25)) (w.heap.size + 1 + 1) 25 (#[.slice pa args.length c]) from Bk.new3 w _ _ _ _)
  have B := hidB (show Below w.heap.size w (((w.alloc (.cells (f.cells.toArray) 24)).alloc (.cells (th.cells.toArray) 24)).alloc (.cells (#[.slice pa args.length c]) 25)) from ((box_one w _).alloc (by simp) _).alloc (by simp <;> omega) _)
  go_enter Try.func20, Try.ntmps20
  go_upto_region 1 with fail
  generalize hW : (((w.alloc (.cells (f.cells.toArray) 24)).alloc (.cells (th.cells.toArray) 24)).alloc (.cells (#[.slice pa args.length c]) 25)) = w1 at *
  clear hW
  have y1 : w1.cell? ⟨w.heap.size + 1 + 1, 0, none⟩ = some (.slice pa args.length c) := X2.out.cell 0
  have NL := hidB (show RdL VI.cells 4 [f, th] (.slice (some ⟨w1.heap.size, 0, none⟩) 2 2) (w1.alloc (.cells #[.int .u8 f.k, .float .f64 f.x, .string f.s, .int .i64 f.r, .int .u8 th.k, .float .f64 th.x, .string th.s, .int .i64 th.r] 24)) from rd_bk VI.cells_len (show Bk (w1.alloc (.cells #[.int .u8 f.k, .float .f64 f.x, .string f.s, .int .i64 f.r, .int .u8 th.k, .float .f64 th.x, .string th.s, .int .i64 th.r] 24)) w1.heap.size 24 ([f, th].flatMap VI.cells).toArray from Bk.new w1 24 #[.int .u8 f.k, .float .f64 f.x, .string f.s, .int .i64 f.r, .int .u8 th.k, .float .f64 th.x, .string th.s, .int .i64 th.r]) (show 2 ≤ maxLen by unfold maxLen; decide))
  go_wp2_with (first | ((with_reducible refine ldId 24 (.tmp 3) ?_); refine wpList_load_row (by rfl) 24 (.tmp 3) (by rfl) (w.heap.size) (by rfl) 24 (f.cells.toArray) (0, 0) _ (by exact X0.out) Try.underlying24 (by rfl) (by kernel_rfl) ?_) | ((with_reducible refine ldId 24 (.tmp 4) ?_); refine wpList_load_row (by rfl) 24 (.tmp 4) (by rfl) (w.heap.size + 1) (by rfl) 24 (th.cells.toArray) (0, 0) _ (by exact X1.out) Try.underlying24 (by rfl) (by kernel_rfl) ?_) | ((with_reducible refine wpId ?_); refine wpList_mkSlice (by rfl) 25 24 2 4 _ (by rfl) [(0, f.a), (1, th.a)] (by kernel_rfl) (.agg #[.int .u8 0, .float .f64 0, .string ⟨#[]⟩, .int .i64 0]) #[.int .u8 f.k, .float .f64 f.x, .string f.s, .int .i64 f.r, .int .u8 th.k, .float .f64 th.x, .string th.s, .int .i64 th.r] Try.underlying25 (by kernel_rfl) (by decide) (by decide) (by kernel_rfl) ?_))
  refine (wrong_any args [f, th] HA.out (okV_two Hf.out Hth.out) (.slice pa args.length c) (.slice (some ⟨w1.heap.size, 0, none⟩) 2 2) _ (RA.out _ (B.out.trans ((box_one w1 _).mono B.out.size))) NL.out).mono ?_; rintro e w2 ⟨rfl, hb⟩
  replace X0 := hidB ((X0.out.alloc (.cells #[.int .u8 f.k, .float .f64 f.x, .string f.s, .int .i64 f.r, .int .u8 th.k, .float .f64 th.x, .string th.s, .int .i64 th.r] 24)).on hb)
  replace X1 := hidB ((X1.out.alloc (.cells #[.int .u8 f.k, .float .f64 f.x, .string f.s, .int .i64 f.r, .int .u8 th.k, .float .f64 th.x, .string th.s, .int .i64 th.r] 24)).on hb)
  replace X2 := hidB ((X2.out.alloc (.cells #[.int .u8 f.k, .float .f64 f.x, .string f.s, .int .i64 f.r, .int .u8 th.k, .float .f64 th.x, .string th.s, .int .i64 th.r] 24)).on hb)
  replace B := hidB ((B.out.trans ((box_one w1 (.cells #[.int .u8 f.k, .float .f64 f.x, .string f.s, .int .i64 f.r, .int .u8 th.k, .float .f64 th.x, .string th.s, .int .i64 th.r] 24)).mono B.out.size)).trans (hb.mono (by have := B.out.size; simp; omega)))
  clear hb y1 NL
  obtain ⟨er, HER⟩ : ∃ er, Hid (wrongE args [f, th] = er) := ⟨_, hidB rfl⟩
  rw [HER.out]
  by_cases he : er = 0
  rotate_left
  · have hne : (er != 0) = true := by rw [bne_iff_ne]; exact he
    have hne2 : (er == 0) = false := by rw [beq_eq_false_iff_ne]; exact he
    have HE := hidB he
    clear he
    go_wp2_with fail
    go_ret2
    exact .inl ⟨by rw [show wrongE args [f, th] = er from HER.out]; exact HE.out, by rw [show wrongE args [f, th] = er from HER.out]; rfl, B.out⟩
  subst he
  have y1 : w2.cell? ⟨w.heap.size + 1 + 1, 0, none⟩ = some (.slice pa args.length c) := X2.out.cell 0
  have f1 : w2.frozen? ⟨w.heap.size + 1 + 1, 0, none⟩ = false := X2.out.free 0
  go_wp2_with fail
  refine (cloneV_any args (.slice pa args.length c) w2 (RA.out _ B.out) (by have := wrong_len HER.out; omega)).mono ?_; rintro e w3 ⟨v3, rfl, hown, hb⟩
  obtain ⟨q3, c3, hv3⟩ := own_slice hown
  subst hv3
  have HO := hidB hown
  replace X0 := hidB (X0.out.on hb)
  replace X1 := hidB (X1.out.on hb)
  replace X2 := hidB (X2.out.on hb)
  have HSZ := hidB B.out.size
  replace B := hidB (B.out.trans (hb.mono B.out.size))
  clear hb hown y1 f1 RA
  have y1 : w3.cell? ⟨w.heap.size + 1 + 1, 0, none⟩ = some (.slice pa args.length c) := X2.out.cell 0
  have f1 : w3.frozen? ⟨w.heap.size + 1 + 1, 0, none⟩ = false := X2.out.free 0
  go_upto_region 5 with fail
  have Y0 := hidB (show Bk (w3.setCell ⟨w.heap.size + 1 + 1, 0, none⟩ (.slice q3 args.length c3)) (w.heap.size) 24 (f.cells.toArray) from X0.out.far (p := ⟨w.heap.size + 1 + 1, 0, none⟩) (show w.heap.size ≠ w.heap.size + 1 + 1 by omega) _)
  have Y1 := hidB (show Bk (w3.setCell ⟨w.heap.size + 1 + 1, 0, none⟩ (.slice q3 args.length c3)) (w.heap.size + 1) 24 (th.cells.toArray) from X1.out.far (p := ⟨w.heap.size + 1 + 1, 0, none⟩) (show w.heap.size + 1 ≠ w.heap.size + 1 + 1 by omega) _)
  have Y2 := hidB (show Bk (w3.setCell ⟨w.heap.size + 1 + 1, 0, none⟩ (.slice q3 args.length c3)) (w.heap.size + 1 + 1) 25 #[.slice q3 args.length c3] from X2.out.set 0 _)
  have HO4 := hidB (show (w3.setCell ⟨w.heap.size + 1 + 1, 0, none⟩ (.slice q3 args.length c3)).ownsRow w2.heap.size 24 4 (.slice q3 args.length c3) args.length (args.flatMap VI.cells) from own_eq HO.out (fun k hk => Below.heap_setCell _ _ _ k (own_neB HO.out X2.out (by decide) hk)))
  replace B := hidB (show Below w.heap.size w (w3.setCell ⟨w.heap.size + 1 + 1, 0, none⟩ (.slice q3 args.length c3)) from B.out.setCell (p := ⟨w.heap.size + 1 + 1, 0, none⟩) (show w.heap.size ≤ w.heap.size + 1 + 1 by omega) _)
  clear X0 X1 X2 HO y1 f1
  generalize hW : (w3.setCell ⟨w.heap.size + 1 + 1, 0, none⟩ (.slice q3 args.length c3)) = w4 at *
  clear hW
  go_wp2_with fail
  refine (newM_any 37 #[ptr (w.heap.size), ptr (w.heap.size + 1), ptr (w.heap.size + 1 + 1)] w4).mono ?_; rintro e w5 ⟨rfl, hw5⟩
  have MG := hidB (show Bk w5 w4.heap.size 82 (machC 37 #[ptr (w.heap.size), ptr (w.heap.size + 1), ptr (w.heap.size + 1 + 1)] vNil 0 0 false false) from hw5 ▸ Bk.new w4 _ _)
  have hb : Below w4.heap.size w4 w5 := hw5 ▸ box_one w4 _
  replace Y0 := hidB (Y0.out.on hb)
  replace Y1 := hidB (Y1.out.on hb)
  replace Y2 := hidB (Y2.out.on hb)
  replace HO4 := hidB (own_on HO4.out hb)
  have HS4 := hidB B.out.size
  replace B := hidB (B.out.trans (hb.mono B.out.size))
  clear hb hw5
  generalize hG : w4.heap.size = gm at *
  clear hG
  go_wp2_with (first | ((with_reducible refine wpId ?_); refine wpList_build_to (by rfl) 70 _ (by rfl) (#[ptr gm]) (by kernel_rfl) ?_))
  go_ret2
  have Z0 := hidB (Y0.out.alloc (.cells #[ptr gm] 70))
  have Z1 := hidB (Y1.out.alloc (.cells #[ptr gm] 70))
  have Z2 := hidB (Y2.out.alloc (.cells #[ptr gm] 70))
  have HO6 := hidB (own_on HO4.out (box_one w5 (.cells #[ptr gm] 70)))
  have HT := hidB (Bk.new w5 70 #[ptr gm])
  refine .inr ⟨HER.out, w5.heap.size, _, rfl, task_fresh (runF_start f th args (w.heap.size) (w.heap.size + 1) (w.heap.size + 1 + 1) _) (MG.out.alloc _) (⟨⟨Z0.out, Z1.out, Z2.out, own_rd VI.cells_len HO6.out, .inl rfl, .inr (.inl rfl), .inr (.inr (.inl rfl)), fun k hk => .inr (.inr (.inr hk)), wrong_len HER.out⟩, own_base HO6.out fun k _ => Nat.zero_le k⟩) (fun k hk => ?_) HT.out (Nat.ne_of_gt MG.out.lt), B.out.trans ((box_one w5 _).mono B.out.size), fun k hk => ?_⟩
  · have hk' : k < w5.heap.size := by
      rcases hk with rfl | rfl | rfl | hk
      · exact Y0.out.lt
      · exact Y1.out.lt
      · exact Y2.out.lt
      · exact (HO4.out.lt k hk).2
    exact ⟨by simp; omega, Nat.ne_of_lt hk'⟩
  · rcases hk with (rfl | rfl | rfl | hk) | rfl | rfl
    · omega
    · omega
    · omega
    · exact Nat.le_trans HSZ.out (HO4.out.lt k hk).1
    · exact HS4.out
    · exact B.out.size

def makeE (f tg : VI) (args : List VI) : Int := if tg.k = 8 then wrongE args [f, tg] else 9
def bodyE (f tg pr : VI) (args : List VI) : Int := if f.k = 8 ∧ tg.k = 8 ∧ isObj pr.k = true then wrongE args [f, tg, pr] else 9
set_option maxHeartbeats 8000000 in
set_option maxRecDepth 100000 in
theorem make_any (f tg : VI) (args : List VI) (hf : 0 ≤ f.k) (htg : 0 ≤ tg.k) (ha : okV args) (v : Value) (w : World) (hr : RdL VI.cells 4 args v w) : Calls Try.prog 21 #[f.a, v, tg.a] w (BegunR (makeS f tg args) (makeE f tg args) w) := by
  have RA := hidB (fun W (hb : Below w.heap.size w W) => hr.on hb)
  obtain ⟨pa, c, rfl, h1, h2, _⟩ := hr
  unfold maxLen at h2
  have hlm : args.length ≤ 9223372036854775807 := by omega
  have HA := hidB ha
  have Hf := hidB hf
  have Htg := hidB htg
  clear ha hf htg
  have X0 := hidB (show Bk (((w.alloc (.cells (f.cells.toArray) 24)).alloc (.cells (#[.slice pa args.length c]) 25)).alloc (.cells (tg.cells.toArray) 24)) (w.heap.size) 24 (f.cells.toArray) from ((Bk.new w _ _).alloc _).alloc _)
  have X1 := hidB (show Bk (((w.alloc (.cells (f.cells.toArray) 24)).alloc (.cells (#[.slice pa args.length c]) 25)).alloc (.cells (tg.cells.toArray) 24)) (w.heap.size + 1) 25 (#[.slice pa args.length c]) from (Bk.new2 w _ _ _).alloc _)
  have X2 := hidB (show Bk (((w.alloc (.cells (f.cells.toArray) 24)).alloc (.cells (#[.slice pa args.length c]) 25)).alloc (.cells (tg.cells.toArray) 24)) (w.heap.size + 1 + 1) 24 (tg.cells.toArray) from Bk.new3 w _ _ _ _)
  have B := hidB (show Below w.heap.size w (((w.alloc (.cells (f.cells.toArray) 24)).alloc (.cells (#[.slice pa args.length c]) 25)).alloc (.cells (tg.cells.toArray) 24)) from ((box_one w _).alloc (by simp) _).alloc (by simp <;> omega) _)
  go_enter Try.func21, Try.ntmps21
  go_upto_region 1 with fail
  generalize hW : (((w.alloc (.cells (f.cells.toArray) 24)).alloc (.cells (#[.slice pa args.length c]) 25)).alloc (.cells (tg.cells.toArray) 24)) = w1 at *
  clear hW
  have x0 : w1.cell? ⟨w.heap.size + 1 + 1, 0, none⟩ = some (.int .u8 tg.k) := X2.out.cell 0
  by_cases h8 : tg.k = 8
  rotate_left
  · have H8 := hidB h8
    go_wp2_with fail
    go_ret2
    exact .inl ⟨by rw [show makeE f tg args = 9 from if_neg H8.out]; decide, by rw [show makeE f tg args = 9 from if_neg H8.out]; rfl, B.out⟩
  have HEQ := hidB (show makeE f tg args = wrongE args [f, tg] from if_pos h8)
  replace x0 : w1.cell? ⟨w.heap.size + 1 + 1, 0, none⟩ = some (.int .u8 8) := by rw [← h8]; exact X2.out.cell 0
  clear h8
  go_upto_region 3 with fail
  clear x0
  have y1 : w1.cell? ⟨w.heap.size + 1, 0, none⟩ = some (.slice pa args.length c) := X1.out.cell 0
  have NL := hidB (show RdL VI.cells 4 [f, tg] (.slice (some ⟨w1.heap.size, 0, none⟩) 2 2) (w1.alloc (.cells #[.int .u8 f.k, .float .f64 f.x, .string f.s, .int .i64 f.r, .int .u8 tg.k, .float .f64 tg.x, .string tg.s, .int .i64 tg.r] 24)) from rd_bk VI.cells_len (show Bk (w1.alloc (.cells #[.int .u8 f.k, .float .f64 f.x, .string f.s, .int .i64 f.r, .int .u8 tg.k, .float .f64 tg.x, .string tg.s, .int .i64 tg.r] 24)) w1.heap.size 24 ([f, tg].flatMap VI.cells).toArray from Bk.new w1 24 #[.int .u8 f.k, .float .f64 f.x, .string f.s, .int .i64 f.r, .int .u8 tg.k, .float .f64 tg.x, .string tg.s, .int .i64 tg.r]) (show 2 ≤ maxLen by unfold maxLen; decide))
  go_wp2_with (first | ((with_reducible refine ldId 24 (.tmp 3) ?_); refine wpList_load_row (by rfl) 24 (.tmp 3) (by rfl) (w.heap.size) (by rfl) 24 (f.cells.toArray) (0, 0) _ (by exact X0.out) Try.underlying24 (by rfl) (by kernel_rfl) ?_) | ((with_reducible refine ldId 24 (.tmp 5) ?_); refine wpList_load_row (by rfl) 24 (.tmp 5) (by rfl) (w.heap.size + 1 + 1) (by rfl) 24 (tg.cells.toArray) (0, 0) _ (by exact X2.out) Try.underlying24 (by rfl) (by kernel_rfl) ?_) | ((with_reducible refine wpId ?_); refine wpList_mkSlice (by rfl) 25 24 2 4 _ (by rfl) [(0, f.a), (1, tg.a)] (by kernel_rfl) (.agg #[.int .u8 0, .float .f64 0, .string ⟨#[]⟩, .int .i64 0]) #[.int .u8 f.k, .float .f64 f.x, .string f.s, .int .i64 f.r, .int .u8 tg.k, .float .f64 tg.x, .string tg.s, .int .i64 tg.r] Try.underlying25 (by kernel_rfl) (by decide) (by decide) (by kernel_rfl) ?_))
  refine (wrong_any args [f, tg] HA.out (okV_two Hf.out Htg.out) (.slice pa args.length c) (.slice (some ⟨w1.heap.size, 0, none⟩) 2 2) _ (RA.out _ (B.out.trans ((box_one w1 _).mono B.out.size))) NL.out).mono ?_; rintro e w2 ⟨rfl, hb⟩
  replace X0 := hidB ((X0.out.alloc (.cells #[.int .u8 f.k, .float .f64 f.x, .string f.s, .int .i64 f.r, .int .u8 tg.k, .float .f64 tg.x, .string tg.s, .int .i64 tg.r] 24)).on hb)
  replace X1 := hidB ((X1.out.alloc (.cells #[.int .u8 f.k, .float .f64 f.x, .string f.s, .int .i64 f.r, .int .u8 tg.k, .float .f64 tg.x, .string tg.s, .int .i64 tg.r] 24)).on hb)
  replace X2 := hidB ((X2.out.alloc (.cells #[.int .u8 f.k, .float .f64 f.x, .string f.s, .int .i64 f.r, .int .u8 tg.k, .float .f64 tg.x, .string tg.s, .int .i64 tg.r] 24)).on hb)
  replace B := hidB ((B.out.trans ((box_one w1 (.cells #[.int .u8 f.k, .float .f64 f.x, .string f.s, .int .i64 f.r, .int .u8 tg.k, .float .f64 tg.x, .string tg.s, .int .i64 tg.r] 24)).mono B.out.size)).trans (hb.mono (by have := B.out.size; simp; omega)))
  clear hb y1 NL
  obtain ⟨er, HER⟩ : ∃ er, Hid (wrongE args [f, tg] = er) := ⟨_, hidB rfl⟩
  rw [HER.out]
  by_cases he : er = 0
  rotate_left
  · have hne : (er != 0) = true := by rw [bne_iff_ne]; exact he
    have hne2 : (er == 0) = false := by rw [beq_eq_false_iff_ne]; exact he
    have HE := hidB he
    clear he
    go_wp2_with fail
    go_ret2
    exact .inl ⟨by rw [show makeE f tg args = er from (HEQ.out.trans HER.out)]; exact HE.out, by rw [show makeE f tg args = er from (HEQ.out.trans HER.out)]; rfl, B.out⟩
  subst he
  have y1 : w2.cell? ⟨w.heap.size + 1, 0, none⟩ = some (.slice pa args.length c) := X1.out.cell 0
  have f1 : w2.frozen? ⟨w.heap.size + 1, 0, none⟩ = false := X1.out.free 0
  go_wp2_with fail
  refine (cloneV_any args (.slice pa args.length c) w2 (RA.out _ B.out) (by have := wrong_len HER.out; omega)).mono ?_; rintro e w3 ⟨v3, rfl, hown, hb⟩
  obtain ⟨q3, c3, hv3⟩ := own_slice hown
  subst hv3
  have HO := hidB hown
  replace X0 := hidB (X0.out.on hb)
  replace X1 := hidB (X1.out.on hb)
  replace X2 := hidB (X2.out.on hb)
  have HSZ := hidB B.out.size
  replace B := hidB (B.out.trans (hb.mono B.out.size))
  clear hb hown y1 f1 RA
  have y1 : w3.cell? ⟨w.heap.size + 1, 0, none⟩ = some (.slice pa args.length c) := X1.out.cell 0
  have f1 : w3.frozen? ⟨w.heap.size + 1, 0, none⟩ = false := X1.out.free 0
  go_upto_region 7 with fail
  have Y0 := hidB (show Bk (w3.setCell ⟨w.heap.size + 1, 0, none⟩ (.slice q3 args.length c3)) (w.heap.size) 24 (f.cells.toArray) from X0.out.far (p := ⟨w.heap.size + 1, 0, none⟩) (show w.heap.size ≠ w.heap.size + 1 by omega) _)
  have Y2 := hidB (show Bk (w3.setCell ⟨w.heap.size + 1, 0, none⟩ (.slice q3 args.length c3)) (w.heap.size + 1 + 1) 24 (tg.cells.toArray) from X2.out.far (p := ⟨w.heap.size + 1, 0, none⟩) (show w.heap.size + 1 + 1 ≠ w.heap.size + 1 by omega) _)
  have Y1 := hidB (show Bk (w3.setCell ⟨w.heap.size + 1, 0, none⟩ (.slice q3 args.length c3)) (w.heap.size + 1) 25 #[.slice q3 args.length c3] from X1.out.set 0 _)
  have HO4 := hidB (show (w3.setCell ⟨w.heap.size + 1, 0, none⟩ (.slice q3 args.length c3)).ownsRow w2.heap.size 24 4 (.slice q3 args.length c3) args.length (args.flatMap VI.cells) from own_eq HO.out (fun k hk => Below.heap_setCell _ _ _ k (own_neB HO.out X1.out (by decide) hk)))
  replace B := hidB (show Below w.heap.size w (w3.setCell ⟨w.heap.size + 1, 0, none⟩ (.slice q3 args.length c3)) from B.out.setCell (p := ⟨w.heap.size + 1, 0, none⟩) (show w.heap.size ≤ w.heap.size + 1 by omega) _)
  clear X0 X1 X2 HO y1 f1
  generalize hW : (w3.setCell ⟨w.heap.size + 1, 0, none⟩ (.slice q3 args.length c3)) = w4 at *
  clear hW
  go_wp2_with fail
  refine (newM_any 41 #[ptr (w.heap.size), ptr (w.heap.size + 1 + 1), ptr (w.heap.size + 1)] w4).mono ?_; rintro e w5 ⟨rfl, hw5⟩
  have MG := hidB (show Bk w5 w4.heap.size 82 (machC 41 #[ptr (w.heap.size), ptr (w.heap.size + 1 + 1), ptr (w.heap.size + 1)] vNil 0 0 false false) from hw5 ▸ Bk.new w4 _ _)
  have hb : Below w4.heap.size w4 w5 := hw5 ▸ box_one w4 _
  replace Y0 := hidB (Y0.out.on hb)
  replace Y1 := hidB (Y1.out.on hb)
  replace Y2 := hidB (Y2.out.on hb)
  replace HO4 := hidB (own_on HO4.out hb)
  have HS4 := hidB B.out.size
  replace B := hidB (B.out.trans (hb.mono B.out.size))
  clear hb hw5
  generalize hG : w4.heap.size = gm at *
  clear hG
  go_wp2_with (first | ((with_reducible refine wpId ?_); refine wpList_build_to (by rfl) 70 _ (by rfl) (#[ptr gm]) (by kernel_rfl) ?_))
  go_ret2
  have Z0 := hidB (Y0.out.alloc (.cells #[ptr gm] 70))
  have Z1 := hidB (Y1.out.alloc (.cells #[ptr gm] 70))
  have Z2 := hidB (Y2.out.alloc (.cells #[ptr gm] 70))
  have HO6 := hidB (own_on HO4.out (box_one w5 (.cells #[ptr gm] 70)))
  have HT := hidB (Bk.new w5 70 #[ptr gm])
  refine .inr ⟨(HEQ.out.trans HER.out), w5.heap.size, _, rfl, task_fresh (runF_make f tg args (w.heap.size) (w.heap.size + 1 + 1) (w.heap.size + 1) _) (MG.out.alloc _) (⟨⟨Z0.out, Z2.out, Z1.out, own_rd VI.cells_len HO6.out, .inl rfl, .inr (.inl rfl), .inr (.inr (.inl rfl)), fun k hk => .inr (.inr (.inr hk)), wrong_len HER.out⟩, own_base HO6.out fun k _ => Nat.zero_le k⟩) (fun k hk => ?_) HT.out (Nat.ne_of_gt MG.out.lt), B.out.trans ((box_one w5 _).mono B.out.size), fun k hk => ?_⟩
  · have hk' : k < w5.heap.size := by
      rcases hk with rfl | rfl | rfl | hk
      · exact Y0.out.lt
      · exact Y2.out.lt
      · exact Y1.out.lt
      · exact (HO4.out.lt k hk).2
    exact ⟨by simp; omega, Nat.ne_of_lt hk'⟩
  · rcases hk with (rfl | rfl | rfl | hk) | rfl | rfl
    · omega
    · omega
    · omega
    · exact Nat.le_trans HSZ.out (HO4.out.lt k hk).1
    · exact HS4.out
    · exact B.out.size
set_option maxHeartbeats 8000000 in
set_option maxRecDepth 100000 in
theorem body_any (f tg pr : VI) (args : List VI) (hf : 0 ≤ f.k) (htg : 0 ≤ tg.k) (hpr : 0 ≤ pr.k) (ha : okV args) (v : Value) (w : World) (hr : RdL VI.cells 4 args v w) : Calls Try.prog 8 #[f.a, v, tg.a, pr.a] w (BegunR (bodyS f tg pr args) (bodyE f tg pr args) w) := by
  have RA := hidB (fun W (hb : Below w.heap.size w W) => hr.on hb)
  obtain ⟨pa, c, rfl, h1, h2, _⟩ := hr
  unfold maxLen at h2
  have hlm : args.length ≤ 9223372036854775807 := by omega
  have HA := hidB ha
  have Hf := hidB hf
  have Htg := hidB htg
  have Hpr := hidB hpr
  clear ha hf htg hpr
  have X0 := hidB (show Bk ((((w.alloc (.cells (f.cells.toArray) 24)).alloc (.cells (#[.slice pa args.length c]) 25)).alloc (.cells (tg.cells.toArray) 24)).alloc (.cells (pr.cells.toArray) 24)) (w.heap.size) 24 (f.cells.toArray) from (((Bk.new w _ _).alloc _).alloc _).alloc _)
  have X1 := hidB (show Bk ((((w.alloc (.cells (f.cells.toArray) 24)).alloc (.cells (#[.slice pa args.length c]) 25)).alloc (.cells (tg.cells.toArray) 24)).alloc (.cells (pr.cells.toArray) 24)) (w.heap.size + 1) 25 (#[.slice pa args.length c]) from ((Bk.new2 w _ _ _).alloc _).alloc _)
  have X2 := hidB (show Bk ((((w.alloc (.cells (f.cells.toArray) 24)).alloc (.cells (#[.slice pa args.length c]) 25)).alloc (.cells (tg.cells.toArray) 24)).alloc (.cells (pr.cells.toArray) 24)) (w.heap.size + 1 + 1) 24 (tg.cells.toArray) from (Bk.new3 w _ _ _ _).alloc _)
  have X3 := hidB (show Bk ((((w.alloc (.cells (f.cells.toArray) 24)).alloc (.cells (#[.slice pa args.length c]) 25)).alloc (.cells (tg.cells.toArray) 24)).alloc (.cells (pr.cells.toArray) 24)) (w.heap.size + 1 + 1 + 1) 24 (pr.cells.toArray) from Bk.new4 w _ _ _ _ _)
  have B := hidB (show Below w.heap.size w ((((w.alloc (.cells (f.cells.toArray) 24)).alloc (.cells (#[.slice pa args.length c]) 25)).alloc (.cells (tg.cells.toArray) 24)).alloc (.cells (pr.cells.toArray) 24)) from (((box_one w _).alloc (by simp) _).alloc (by simp <;> omega) _).alloc (by simp <;> omega) _)
  go_enter Try.func8, Try.ntmps8
  go_upto_region 1 with fail
  generalize hW : ((((w.alloc (.cells (f.cells.toArray) 24)).alloc (.cells (#[.slice pa args.length c]) 25)).alloc (.cells (tg.cells.toArray) 24)).alloc (.cells (pr.cells.toArray) 24)) = w1 at *
  clear hW
  have x0 : w1.cell? ⟨w.heap.size, 0, none⟩ = some (.int .u8 f.k) := X0.out.cell 0
  have z0 : w1.cell? ⟨w.heap.size + 1 + 1, 0, none⟩ = some (.int .u8 tg.k) := X2.out.cell 0
  by_cases h8 : f.k = 8
  rotate_left
  · have H8 := hidB h8
    go_wp2_with fail
    go_ret2
    exact .inl ⟨by rw [show bodyE f tg pr args = 9 from if_neg fun h => H8.out h.1]; decide, by rw [show bodyE f tg pr args = 9 from if_neg fun h => H8.out h.1]; rfl, B.out⟩
  have H8 := hidB h8
  replace x0 : w1.cell? ⟨w.heap.size, 0, none⟩ = some (.int .u8 8) := by rw [← h8]; exact X0.out.cell 0
  clear h8
  by_cases h8 : tg.k = 8
  rotate_left
  · have H9 := hidB h8
    go_wp2_with fail
    go_ret2
    exact .inl ⟨by rw [show bodyE f tg pr args = 9 from if_neg fun h => H9.out h.2.1]; decide, by rw [show bodyE f tg pr args = 9 from if_neg fun h => H9.out h.2.1]; rfl, B.out⟩
  have H9 := hidB h8
  replace z0 : w1.cell? ⟨w.heap.size + 1 + 1, 0, none⟩ = some (.int .u8 8) := by rw [← h8]; exact X2.out.cell 0
  clear h8
  obtain ⟨p0, p1, p2, p3, _⟩ := X3.out.four
  go_wp2_with fail
  refine (isObjB_any pr w1).mono ?_; rintro e w1b ⟨rfl, hb⟩
  replace X0 := hidB (X0.out.on hb)
  replace X1 := hidB (X1.out.on hb)
  replace X2 := hidB (X2.out.on hb)
  replace X3 := hidB (X3.out.on hb)
  replace B := hidB (B.out.trans (hb.mono B.out.size))
  clear hb x0 z0 p0 p1 p2 p3
  cases hio : isObj pr.k
  · have HIO := hidB hio
    clear hio
    go_wp2_with fail
    go_ret2
    exact .inl ⟨by rw [show bodyE f tg pr args = 9 from if_neg fun h => by rw [HIO.out] at h; exact absurd h.2.2 (by decide)]; decide, by rw [show bodyE f tg pr args = 9 from if_neg fun h => by rw [HIO.out] at h; exact absurd h.2.2 (by decide)]; rfl, B.out⟩
  have HEQ := hidB (show bodyE f tg pr args = wrongE args [f, tg, pr] from if_pos ⟨H8.out, H9.out, hio⟩)
  clear hio H8 H9
  go_upto_region 3 with fail
  have y1 : w1b.cell? ⟨w.heap.size + 1, 0, none⟩ = some (.slice pa args.length c) := X1.out.cell 0
  have NL := hidB (show RdL VI.cells 4 [f, tg, pr] (.slice (some ⟨w1b.heap.size, 0, none⟩) 3 3) (w1b.alloc (.cells #[.int .u8 f.k, .float .f64 f.x, .string f.s, .int .i64 f.r, .int .u8 tg.k, .float .f64 tg.x, .string tg.s, .int .i64 tg.r, .int .u8 pr.k, .float .f64 pr.x, .string pr.s, .int .i64 pr.r] 24)) from rd_bk VI.cells_len (show Bk (w1b.alloc (.cells #[.int .u8 f.k, .float .f64 f.x, .string f.s, .int .i64 f.r, .int .u8 tg.k, .float .f64 tg.x, .string tg.s, .int .i64 tg.r, .int .u8 pr.k, .float .f64 pr.x, .string pr.s, .int .i64 pr.r] 24)) w1b.heap.size 24 ([f, tg, pr].flatMap VI.cells).toArray from Bk.new w1b 24 #[.int .u8 f.k, .float .f64 f.x, .string f.s, .int .i64 f.r, .int .u8 tg.k, .float .f64 tg.x, .string tg.s, .int .i64 tg.r, .int .u8 pr.k, .float .f64 pr.x, .string pr.s, .int .i64 pr.r]) (show 3 ≤ maxLen by unfold maxLen; decide))
  go_wp2_with (first | ((with_reducible refine ldId 24 (.tmp 4) ?_); refine wpList_load_row (by rfl) 24 (.tmp 4) (by rfl) (w.heap.size) (by rfl) 24 (f.cells.toArray) (0, 0) _ (by exact X0.out) Try.underlying24 (by rfl) (by kernel_rfl) ?_) | ((with_reducible refine ldId 24 (.tmp 6) ?_); refine wpList_load_row (by rfl) 24 (.tmp 6) (by rfl) (w.heap.size + 1 + 1) (by rfl) 24 (tg.cells.toArray) (0, 0) _ (by exact X2.out) Try.underlying24 (by rfl) (by kernel_rfl) ?_) | ((with_reducible refine ldId 24 (.tmp 7) ?_); refine wpList_load_row (by rfl) 24 (.tmp 7) (by rfl) (w.heap.size + 1 + 1 + 1) (by rfl) 24 (pr.cells.toArray) (0, 0) _ (by exact X3.out) Try.underlying24 (by rfl) (by kernel_rfl) ?_) | ((with_reducible refine wpId ?_); refine wpList_mkSlice (by rfl) 25 24 3 4 _ (by rfl) [(0, f.a), (1, tg.a), (2, pr.a)] (by kernel_rfl) (.agg #[.int .u8 0, .float .f64 0, .string ⟨#[]⟩, .int .i64 0]) #[.int .u8 f.k, .float .f64 f.x, .string f.s, .int .i64 f.r, .int .u8 tg.k, .float .f64 tg.x, .string tg.s, .int .i64 tg.r, .int .u8 pr.k, .float .f64 pr.x, .string pr.s, .int .i64 pr.r] Try.underlying25 (by kernel_rfl) (by decide) (by decide) (by kernel_rfl) ?_))
  refine (wrong_any args [f, tg, pr] HA.out (okV_three Hf.out Htg.out Hpr.out) (.slice pa args.length c) (.slice (some ⟨w1b.heap.size, 0, none⟩) 3 3) _ (RA.out _ (B.out.trans ((box_one w1b _).mono B.out.size))) NL.out).mono ?_; rintro e w2 ⟨rfl, hb⟩
  replace X0 := hidB ((X0.out.alloc (.cells #[.int .u8 f.k, .float .f64 f.x, .string f.s, .int .i64 f.r, .int .u8 tg.k, .float .f64 tg.x, .string tg.s, .int .i64 tg.r, .int .u8 pr.k, .float .f64 pr.x, .string pr.s, .int .i64 pr.r] 24)).on hb)
  replace X1 := hidB ((X1.out.alloc (.cells #[.int .u8 f.k, .float .f64 f.x, .string f.s, .int .i64 f.r, .int .u8 tg.k, .float .f64 tg.x, .string tg.s, .int .i64 tg.r, .int .u8 pr.k, .float .f64 pr.x, .string pr.s, .int .i64 pr.r] 24)).on hb)
  replace X2 := hidB ((X2.out.alloc (.cells #[.int .u8 f.k, .float .f64 f.x, .string f.s, .int .i64 f.r, .int .u8 tg.k, .float .f64 tg.x, .string tg.s, .int .i64 tg.r, .int .u8 pr.k, .float .f64 pr.x, .string pr.s, .int .i64 pr.r] 24)).on hb)
  replace X3 := hidB ((X3.out.alloc (.cells #[.int .u8 f.k, .float .f64 f.x, .string f.s, .int .i64 f.r, .int .u8 tg.k, .float .f64 tg.x, .string tg.s, .int .i64 tg.r, .int .u8 pr.k, .float .f64 pr.x, .string pr.s, .int .i64 pr.r] 24)).on hb)
  replace B := hidB ((B.out.trans ((box_one w1b (.cells #[.int .u8 f.k, .float .f64 f.x, .string f.s, .int .i64 f.r, .int .u8 tg.k, .float .f64 tg.x, .string tg.s, .int .i64 tg.r, .int .u8 pr.k, .float .f64 pr.x, .string pr.s, .int .i64 pr.r] 24)).mono B.out.size)).trans (hb.mono (by have := B.out.size; simp; omega)))
  clear hb y1 NL
  obtain ⟨er, HER⟩ : ∃ er, Hid (wrongE args [f, tg, pr] = er) := ⟨_, hidB rfl⟩
  rw [HER.out]
  by_cases he : er = 0
  rotate_left
  · have hne : (er != 0) = true := by rw [bne_iff_ne]; exact he
    have hne2 : (er == 0) = false := by rw [beq_eq_false_iff_ne]; exact he
    have HE := hidB he
    clear he
    go_wp2_with fail
    go_ret2
    exact .inl ⟨by rw [show bodyE f tg pr args = er from (HEQ.out.trans HER.out)]; exact HE.out, by rw [show bodyE f tg pr args = er from (HEQ.out.trans HER.out)]; rfl, B.out⟩
  subst he
  have y1 : w2.cell? ⟨w.heap.size + 1, 0, none⟩ = some (.slice pa args.length c) := X1.out.cell 0
  have f1 : w2.frozen? ⟨w.heap.size + 1, 0, none⟩ = false := X1.out.free 0
  go_wp2_with fail
  refine (cloneV_any args (.slice pa args.length c) w2 (RA.out _ B.out) (by have := wrong_len HER.out; omega)).mono ?_; rintro e w3 ⟨v3, rfl, hown, hb⟩
  obtain ⟨q3, c3, hv3⟩ := own_slice hown
  subst hv3
  have HO := hidB hown
  replace X0 := hidB (X0.out.on hb)
  replace X1 := hidB (X1.out.on hb)
  replace X2 := hidB (X2.out.on hb)
  replace X3 := hidB (X3.out.on hb)
  have HSZ := hidB B.out.size
  replace B := hidB (B.out.trans (hb.mono B.out.size))
  clear hb hown y1 f1 RA
  have y1 : w3.cell? ⟨w.heap.size + 1, 0, none⟩ = some (.slice pa args.length c) := X1.out.cell 0
  have f1 : w3.frozen? ⟨w.heap.size + 1, 0, none⟩ = false := X1.out.free 0
  go_upto_region 7 with fail
  have Y0 := hidB (show Bk (w3.setCell ⟨w.heap.size + 1, 0, none⟩ (.slice q3 args.length c3)) (w.heap.size) 24 (f.cells.toArray) from X0.out.far (p := ⟨w.heap.size + 1, 0, none⟩) (show w.heap.size ≠ w.heap.size + 1 by omega) _)
  have Y2 := hidB (show Bk (w3.setCell ⟨w.heap.size + 1, 0, none⟩ (.slice q3 args.length c3)) (w.heap.size + 1 + 1) 24 (tg.cells.toArray) from X2.out.far (p := ⟨w.heap.size + 1, 0, none⟩) (show w.heap.size + 1 + 1 ≠ w.heap.size + 1 by omega) _)
  have Y3 := hidB (show Bk (w3.setCell ⟨w.heap.size + 1, 0, none⟩ (.slice q3 args.length c3)) (w.heap.size + 1 + 1 + 1) 24 (pr.cells.toArray) from X3.out.far (p := ⟨w.heap.size + 1, 0, none⟩) (show w.heap.size + 1 + 1 + 1 ≠ w.heap.size + 1 by omega) _)
  have Y1 := hidB (show Bk (w3.setCell ⟨w.heap.size + 1, 0, none⟩ (.slice q3 args.length c3)) (w.heap.size + 1) 25 #[.slice q3 args.length c3] from X1.out.set 0 _)
  have HO4 := hidB (show (w3.setCell ⟨w.heap.size + 1, 0, none⟩ (.slice q3 args.length c3)).ownsRow w2.heap.size 24 4 (.slice q3 args.length c3) args.length (args.flatMap VI.cells) from own_eq HO.out (fun k hk => Below.heap_setCell _ _ _ k (own_neB HO.out X1.out (by decide) hk)))
  replace B := hidB (show Below w.heap.size w (w3.setCell ⟨w.heap.size + 1, 0, none⟩ (.slice q3 args.length c3)) from B.out.setCell (p := ⟨w.heap.size + 1, 0, none⟩) (show w.heap.size ≤ w.heap.size + 1 by omega) _)
  clear X0 X1 X2 X3 HO y1 f1
  generalize hW : (w3.setCell ⟨w.heap.size + 1, 0, none⟩ (.slice q3 args.length c3)) = w4 at *
  clear hW
  go_wp2_with fail
  refine (newM_any 27 #[ptr (w.heap.size), ptr (w.heap.size + 1), ptr (w.heap.size + 1 + 1), ptr (w.heap.size + 1 + 1 + 1)] w4).mono ?_; rintro e w5 ⟨rfl, hw5⟩
  have MG := hidB (show Bk w5 w4.heap.size 82 (machC 27 #[ptr (w.heap.size), ptr (w.heap.size + 1), ptr (w.heap.size + 1 + 1), ptr (w.heap.size + 1 + 1 + 1)] vNil 0 0 false false) from hw5 ▸ Bk.new w4 _ _)
  have hb : Below w4.heap.size w4 w5 := hw5 ▸ box_one w4 _
  replace Y0 := hidB (Y0.out.on hb)
  replace Y1 := hidB (Y1.out.on hb)
  replace Y2 := hidB (Y2.out.on hb)
  replace Y3 := hidB (Y3.out.on hb)
  replace HO4 := hidB (own_on HO4.out hb)
  have HS4 := hidB B.out.size
  replace B := hidB (B.out.trans (hb.mono B.out.size))
  clear hb hw5
  generalize hG : w4.heap.size = gm at *
  clear hG
  go_wp2_with (first | ((with_reducible refine wpId ?_); refine wpList_build_to (by rfl) 70 _ (by rfl) (#[ptr gm]) (by kernel_rfl) ?_))
  go_ret2
  have Z0 := hidB (Y0.out.alloc (.cells #[ptr gm] 70))
  have Z1 := hidB (Y1.out.alloc (.cells #[ptr gm] 70))
  have Z2 := hidB (Y2.out.alloc (.cells #[ptr gm] 70))
  have Z3 := hidB (Y3.out.alloc (.cells #[ptr gm] 70))
  have HO6 := hidB (own_on HO4.out (box_one w5 (.cells #[ptr gm] 70)))
  have HT := hidB (Bk.new w5 70 #[ptr gm])
  refine .inr ⟨(HEQ.out.trans HER.out), w5.heap.size, _, rfl, task_fresh (runF_body f tg pr args (w.heap.size) (w.heap.size + 1) (w.heap.size + 1 + 1) (w.heap.size + 1 + 1 + 1) _) (MG.out.alloc _) (⟨Z0.out, Z1.out, Z2.out, Z3.out, own_base HO6.out fun k _ => Nat.zero_le k, wrong_len HER.out⟩) (fun k hk => ?_) HT.out (Nat.ne_of_gt MG.out.lt), B.out.trans ((box_one w5 _).mono B.out.size), fun k hk => ?_⟩
  · have hk' : k < w5.heap.size := by
      rcases hk with rfl | rfl | rfl | rfl | hk
      · exact Y0.out.lt
      · exact Y1.out.lt
      · exact Y2.out.lt
      · exact Y3.out.lt
      · exact (HO4.out.lt k hk).2
    exact ⟨by simp; omega, Nat.ne_of_lt hk'⟩
  · rcases hk with (rfl | rfl | rfl | rfl | hk) | rfl | rfl
    · omega
    · omega
    · omega
    · omega
    · exact Nat.le_trans HSZ.out (HO4.out.lt k hk).1
    · exact HS4.out
    · exact B.out.size

end Go.Proofs.Ytbkjbpefbdoenaa
