/-
  A task led by answers, beside the reference's.
-/
import Derived.Test.YtbkjbpefbdoenaaCZero
import Derived.Test.YtbkjbpefbdoenaaCAlive
namespace Go.Proofs.Ytbkjbpefbdoenaa
open Go.RowKit

/-- What is given first: nothing of the kind. -/
def out77 : OI := { OI.zero with kd := 77 }
theorem task_one {kd : Int} {f v pr : VI} {args : List VI} {L : List (OI × List KI)} {W : Value → WI} {l : List VI} (h : taskS kd f v pr args L = .want W l) {av : Value} (hv : av.oneCell' = true) : (W av).one1 := by
  unfold taskS at h
  split at h
  · exact (startS_km f v args L W l h av).2.2 hv
  · split at h
    · exact (makeS_km f v args L W l h av).2.2 hv
    · exact (bodyS_km f v pr args L W l h av).2.2 hv
theorem last_one {kd : Int} {f v pr : VI} {args : List VI} {L : List (OI × List KI)} {av : Value} (hv : av.oneCell' = true) (hL : ∀ e ∈ L, e.1.keys.oneCell' = true) : (lastW (taskS kd f v pr args L) av).cs.all (·.oneCell') = true := by
  have hf := fair_task kd f v pr args L
  cases h : taskS kd f v pr args L with
  | want W l =>
    obtain ⟨h1, h2, h3, h4⟩ := task_one h hv
    exact WI.one _ h1 h2 h3 h4
  | out y ks =>
    rw [h] at hf
    refine endW_one y ?_
    rcases hf with ⟨h1, _⟩ | h1
    · rw [h1]; rfl
    · exact hL _ h1
/-- The state at the head of a round. -/
structure LdI (kd : Int) (f v pr : VI) (args : List VI) (L0 : List (OI × List KI)) (w0 w : World) (T : Nat) (A : Nat → Prop) (q : Q) (L : List (OI × List KI)) (x : OI) (xs : List KI) (i : Nat) (gv : Value) (wr : World) : Prop where
  B : Below w0.heap.size w0 wr
  XF : Bk wr w.heap.size 24 f.cells.toArray
  XV : Bk wr (w.heap.size + 1) 24 v.cells.toArray
  XP : Bk wr (w.heap.size + 1 + 1) 24 pr.cells.toArray
  GO : Bk wr (w.heap.size + 1 + 1 + 1) 36 x.cs
  GV : wr.ownsRow (w.heap.size + 1 + 1 + 1 + 1) 36 26 gv L.length (L.flatMap fun e => e.1.cs.toList)
  TW : TaskW (taskS kd f v pr args) T q A wr
  lo : ∀ k, A k → w0.heap.size ≤ k
  far : ∀ k, A k → (k < w.heap.size ∨ w.heap.size + 1 + 1 + 1 < k) ∧ gv.ownBlock ≠ some k
  mem : ∀ e ∈ L, e ∈ L0 ∧ (e.1.kd = 1 ∨ e.1.kd = 2)
  len : L.length ≤ i
  pend : Pend (taskS kd f v pr args) L
  few : q.few
  xd : x.d.ok
  xk : 0 ≤ x.v.k
  xr : ∀ W, Below w0.heap.size w0 W → RdL KI.cells 2 xs x.keys W
  nx : i ≤ L0.length → nextQ (taskS kd f v pr args) x xs q = some (L.map stripE)
/-- The state behind a want: over, or waiting for an answer that may be given. -/
theorem state_of (kd : Int) (f v pr : VI) (args : List VI) (L : List (OI × List KI)) (av : Value) : ((lastW (taskS kd f v pr args L) av).kd = 7 ∧ (taskS kd f v pr args L).strip.q (L.map stripE) = .over) ∨ ((lastW (taskS kd f v pr args L) av).kd ≠ 7 ∧ (taskS kd f v pr args L).isWant ∧ (taskS kd f v pr args L).strip.q (L.map stripE) = .wait (L.map stripE) ∧ ∀ x ks, nextQ (taskS kd f v pr args) x ks (.wait (L.map stripE)) = if fitsB (lastW (taskS kd f v pr args L) av).kd (lastW (taskS kd f v pr args L) av).ask.m x ks then some (L.map stripE ++ [(x.put vNil, ks)]) else none) := by
  cases h : taskS kd f v pr args L with
  | out y ks => exact .inl ⟨rfl, rfl⟩
  | want W l =>
    refine .inr ⟨want_kd h av, trivial, rfl, fun x ks => ?_⟩
    have hk := taskS_km kd f v pr args L W l h av
    show (if fitsB (taskS kd f v pr args (L.map stripE)).km.1 (taskS kd f v pr args (L.map stripE)).km.2 x ks then _ else _) = _
    rw [taskS_strip, strip_km, h]
    show (if fitsB (W vNil).kd (W vNil).ask.m x ks then _ else _) = (if fitsB (W av).kd (W av).ask.m x ks then _ else _)
    rw [hk.1, hk.2]
theorem wpList_append_in1 {P : Program} {w : World} {ops : Array Oper} {rest : List Oper} {o : Oper} {a : Act} {Q : Exit → Act → World → Prop} (hgd : o.guard = none) (s x : Operand) (t : TypeId)
    (ho : o.op = .call { callee := .builtin .append, args := #[s, x], argTypes := #[t, t] }) (base : Nat) (e : TypeId) (i : TypeInfo) (z : Value) (size bytes : Nat) (ht : P.underlying t = some (.slice e)) (hi : P.info? e = some i) (hz : i.zero = some z)
    (hsize : i.size = size) (hby : i.bytes = bytes) (hzs : z.cells.size = size) (hsz : 0 < size) (v : Value) (n : Nat) (xs : List Value) (hs : a.eval s = v) (hown : w.ownsRow base e size v n xs)
    (ad : Addr) (m c : Nat) (news : List Value) (hx : a.eval x = .slice (some ad) m c) (hl : news.length = m * size) (hnews : ∀ j u, news[j]? = some u → w.cell? (ad.add j) = some u) (h1 : ∀ u ∈ news, u.oneCell' = true)
    (h63 : n + m ≤ maxLen) (hbytes : (n + m) * bytes ≤ 140737488355328) (hbase : base ≤ w.heap.size)
    (h : ∀ v' w', w'.ownsRow base e size v' (n + m) (xs ++ news) → w.grownBy w' v.ownBlock → (∀ k, v'.ownBlock = some k → v.ownBlock = some k ∨ w.heap.size ≤ k) → wpList P ops Q rest (a.put o.dst v') w') : wpList P ops Q (o :: rest) a w :=
  wpList_plain hgd fun _ hK => wp_append_in s x t ho base e i z size bytes ht hi hz hsize hby hzs hsz v n xs hs hown ad m c news hx hl hnews h1 h63 hbytes hbase fun v' w' a b c => hK _ _ (h v' w' a b c)
def done0 : OI := { OI.zero with kd := 1 }
def LdP (kd : Int) (f v pr : VI) (args : List VI) (L0 : List (OI × List KI)) (w0 w : World) (T : Nat) (i : Nat) (gv : Value) (wr : World) : Prop := ∃ A q L x xs, LdI kd f v pr args L0 w0 w T A q L x xs i gv wr

set_option maxHeartbeats 8000000 in
set_option maxRecDepth 100000 in
theorem leads_any (kd : Int) (hkd : kd = 0 ∨ kd = 1 ∨ kd = 2) (f' v' pr : VI) (args : List VI) (L0 : List (OI × List KI)) (w0 : World) (av lv : Value) (hra : RdL VI.cells 4 args av w0) (hrl : RdO L0 lv w0) (hok : ∀ e ∈ L0, OutOkB e w0) (hl0 : L0.length ≤ 4611686018427387904) (T : Nat) (A0 : Nat → Prop) (w : World) (hb0 : Below w0.heap.size w0 w) (hA0 : ∀ k, A0 k → w0.heap.size ≤ k) (hT0 : TaskW (taskS kd f' v' pr args) T .fresh A0 w) : Calls Try.prog 14 #[ptr T, .int .u8 kd, f'.a, v'.a, pr.a, av, lv] w fun e w' => e = .returned (.bool true) ∧ Below w0.heap.size w0 w' := by
  have RA := hidB (fun W (hb : Below w0.heap.size w0 W) => hra.on hb)
  have RL := hidB (fun W (hb : Below w0.heap.size w0 W) => hrl.on hb)
  have OKS := hidB hok
  have HB0 := hidB hb0
  have HA0 := hidB hA0
  have HT0 := hidB hT0
  have HONEL := hidB (fun e (he : e ∈ L0) => (hok e he).2.2.2.2.one)
  obtain ⟨pa, c, rfl, _, ha2, _⟩ := hra
  obtain ⟨pl, cl, rfl, _, hl2, hl3⟩ := hrl
  have HL3 := hidB hl3
  unfold maxLen at ha2 hl2
  have hla : args.length ≤ 9223372036854775807 := by omega
  have hll : L0.length ≤ 9223372036854775807 := by omega
  clear hok hb0 hA0 hT0 ha2 hl2 hl3
  have XF := hidB (show Bk (((w.alloc (.cells (f'.cells.toArray) 24)).alloc (.cells (v'.cells.toArray) 24)).alloc (.cells (pr.cells.toArray) 24)) (w.heap.size) 24 (f'.cells.toArray) from ((Bk.new w _ _).alloc _).alloc _)
  have XV := hidB (show Bk (((w.alloc (.cells (f'.cells.toArray) 24)).alloc (.cells (v'.cells.toArray) 24)).alloc (.cells (pr.cells.toArray) 24)) (w.heap.size + 1) 24 (v'.cells.toArray) from (Bk.new2 w _ _ _).alloc _)
  have XP := hidB (show Bk (((w.alloc (.cells (f'.cells.toArray) 24)).alloc (.cells (v'.cells.toArray) 24)).alloc (.cells (pr.cells.toArray) 24)) (w.heap.size + 1 + 1) 24 (pr.cells.toArray) from Bk.new3 w _ _ _ _)
  have B := hidB (show Below w.heap.size w (((w.alloc (.cells (f'.cells.toArray) 24)).alloc (.cells (v'.cells.toArray) 24)).alloc (.cells (pr.cells.toArray) 24)) from ((box_one w _).alloc (by simp) _).alloc (by simp <;> omega) _)
  go_enter Try.func14, Try.ntmps14
  go_upto_region 1 with fail
  have R := hidB (show Bk ((((w.alloc (.cells (f'.cells.toArray) 24)).alloc (.cells (v'.cells.toArray) 24)).alloc (.cells (pr.cells.toArray) 24)).alloc (.cells #[.int .u8 0, .int .u8 0, .float .f64 0, .string ⟨#[]⟩, .int .i64 0, .bool false, .bool false, .int .u8 0, .int .u8 0, .float .f64 0, .string ⟨#[]⟩, .int .i64 0, .int .u8 0, .float .f64 0, .string ⟨#[]⟩, .int .i64 0, .int .u8 0, .float .f64 0, .string ⟨#[]⟩, .int .i64 0, .bool false, .bool false, .bool false, .slice none 0 0, .int .u8 0, .string ⟨#[]⟩] 36)) (w.heap.size + 1 + 1 + 1) 36 OI.zero.cs from Bk.new4 w _ _ _ _ _)
  have HB4 := hidB (show Below w.heap.size w (((((w.alloc (.cells (f'.cells.toArray) 24)).alloc (.cells (v'.cells.toArray) 24)).alloc (.cells (pr.cells.toArray) 24)).alloc (.cells #[.int .u8 0, .int .u8 0, .float .f64 0, .string ⟨#[]⟩, .int .i64 0, .bool false, .bool false, .int .u8 0, .int .u8 0, .float .f64 0, .string ⟨#[]⟩, .int .i64 0, .int .u8 0, .float .f64 0, .string ⟨#[]⟩, .int .i64 0, .int .u8 0, .float .f64 0, .string ⟨#[]⟩, .int .i64 0, .bool false, .bool false, .bool false, .slice none 0 0, .int .u8 0, .string ⟨#[]⟩] 36)).setRow (w.heap.size + 1 + 1 + 1) out77.cs) from below_setRow (B.out.alloc B.out.size _) (by omega) _)
  replace XF := hidB (show Bk (((((w.alloc (.cells (f'.cells.toArray) 24)).alloc (.cells (v'.cells.toArray) 24)).alloc (.cells (pr.cells.toArray) 24)).alloc (.cells #[.int .u8 0, .int .u8 0, .float .f64 0, .string ⟨#[]⟩, .int .i64 0, .bool false, .bool false, .int .u8 0, .int .u8 0, .float .f64 0, .string ⟨#[]⟩, .int .i64 0, .int .u8 0, .float .f64 0, .string ⟨#[]⟩, .int .i64 0, .int .u8 0, .float .f64 0, .string ⟨#[]⟩, .int .i64 0, .bool false, .bool false, .bool false, .slice none 0 0, .int .u8 0, .string ⟨#[]⟩] 36)).setRow (w.heap.size + 1 + 1 + 1) out77.cs) (w.heap.size) 24 f'.cells.toArray from (XF.out.alloc _).setRow_far (by omega) _)
  replace XV := hidB (show Bk (((((w.alloc (.cells (f'.cells.toArray) 24)).alloc (.cells (v'.cells.toArray) 24)).alloc (.cells (pr.cells.toArray) 24)).alloc (.cells #[.int .u8 0, .int .u8 0, .float .f64 0, .string ⟨#[]⟩, .int .i64 0, .bool false, .bool false, .int .u8 0, .int .u8 0, .float .f64 0, .string ⟨#[]⟩, .int .i64 0, .int .u8 0, .float .f64 0, .string ⟨#[]⟩, .int .i64 0, .int .u8 0, .float .f64 0, .string ⟨#[]⟩, .int .i64 0, .bool false, .bool false, .bool false, .slice none 0 0, .int .u8 0, .string ⟨#[]⟩] 36)).setRow (w.heap.size + 1 + 1 + 1) out77.cs) (w.heap.size + 1) 24 v'.cells.toArray from (XV.out.alloc _).setRow_far (by omega) _)
  replace XP := hidB (show Bk (((((w.alloc (.cells (f'.cells.toArray) 24)).alloc (.cells (v'.cells.toArray) 24)).alloc (.cells (pr.cells.toArray) 24)).alloc (.cells #[.int .u8 0, .int .u8 0, .float .f64 0, .string ⟨#[]⟩, .int .i64 0, .bool false, .bool false, .int .u8 0, .int .u8 0, .float .f64 0, .string ⟨#[]⟩, .int .i64 0, .int .u8 0, .float .f64 0, .string ⟨#[]⟩, .int .i64 0, .int .u8 0, .float .f64 0, .string ⟨#[]⟩, .int .i64 0, .bool false, .bool false, .bool false, .slice none 0 0, .int .u8 0, .string ⟨#[]⟩] 36)).setRow (w.heap.size + 1 + 1 + 1) out77.cs) (w.heap.size + 1 + 1) 24 pr.cells.toArray from (XP.out.alloc _).setRow_far (by omega) _)
  have GO := hidB (show Bk (((((w.alloc (.cells (f'.cells.toArray) 24)).alloc (.cells (v'.cells.toArray) 24)).alloc (.cells (pr.cells.toArray) 24)).alloc (.cells #[.int .u8 0, .int .u8 0, .float .f64 0, .string ⟨#[]⟩, .int .i64 0, .bool false, .bool false, .int .u8 0, .int .u8 0, .float .f64 0, .string ⟨#[]⟩, .int .i64 0, .int .u8 0, .float .f64 0, .string ⟨#[]⟩, .int .i64 0, .int .u8 0, .float .f64 0, .string ⟨#[]⟩, .int .i64 0, .bool false, .bool false, .bool false, .slice none 0 0, .int .u8 0, .string ⟨#[]⟩] 36)).setRow (w.heap.size + 1 + 1 + 1) out77.cs) (w.heap.size + 1 + 1 + 1) 36 out77.cs from R.out.setRow _)
  go_upto_region 3 with (first | ((with_reducible refine wpId ?_); refine wpList_build_to (by rfl) 36 _ (by rfl) (out77.cs) (by kernel_rfl) ?_) | ((with_reducible refine stId 36 (.tmp 16) (.tmp 28) ?_); refine wpList_store_row (by rfl) 36 (.tmp 16) (.tmp 28) (by rfl) (w.heap.size + 1 + 1 + 1) (out77.cs) (by rfl) (by rfl) 36 (OI.zero.cs) (by exact R.out) (by kernel_rfl) (by rfl) (by exact OI.one _ rfl) ?_))
  generalize hW : (((((w.alloc (.cells (f'.cells.toArray) 24)).alloc (.cells (v'.cells.toArray) 24)).alloc (.cells (pr.cells.toArray) 24)).alloc (.cells #[.int .u8 0, .int .u8 0, .float .f64 0, .string ⟨#[]⟩, .int .i64 0, .bool false, .bool false, .int .u8 0, .int .u8 0, .float .f64 0, .string ⟨#[]⟩, .int .i64 0, .int .u8 0, .float .f64 0, .string ⟨#[]⟩, .int .i64 0, .int .u8 0, .float .f64 0, .string ⟨#[]⟩, .int .i64 0, .bool false, .bool false, .bool false, .slice none 0 0, .int .u8 0, .string ⟨#[]⟩] 36)).setRow (w.heap.size + 1 + 1 + 1) out77.cs) = w1 at *
  clear hW B R
  have I0 := hidB (show LdI kd f' v' pr args L0 w0 w T A0 .fresh [] out77 [] 0 (.slice none 0 0) w1 from ⟨HB0.out.trans (HB4.out.mono HB0.out.size), XF.out, XV.out, XP.out, GO.out, World.ownsRow_nil _ _ _ _, HT0.out.on HB4.out, HA0.out, fun k hk => ⟨.inl (HT0.out.lt k hk), fun h => by cases h⟩, fun e he => by (cases he), Nat.zero_le _, fun n hn => absurd hn (Nat.not_lt_zero n), trivial, ⟨by decide, by decide, by decide⟩, by decide, fun W _ => RdL.nil _ _ _, fun _ => rfl⟩)
  have HWW := hidB HB0.out.size
  clear HB0 HA0 HT0 XF XV XP GO HB4
  go_wp2_with fail
  go_loopw [15, 17] (fun s15 s17 wr => ∃ i : Nat, s17 = .int .i64 i ∧ i ≤ L0.length + 1 ∧ LdP kd f' v' pr args L0 w0 w T i s15 wr) (fun _ s17 _ => L0.length + 1 - (intOf s17).toNat)
  case atStart => exact ⟨0, rfl, by omega, A0, .fresh, [], out77, [], I0.out⟩
  case round =>
    clear I0
    obtain ⟨i, rfl, hi, A, q, L, x, xs, hI⟩ := hrel
    have HI := hidB hI
    clear hI
    by_cases hle : i ≤ L0.length
    rotate_left
    · have hx : ¬ ((i : Int) ≤ (L0.length : Int)) := by omega
      go_wp2_with fail
      all_goals first | (exfalso; omega) | (go_ret; exact ⟨rfl, HI.out.B⟩)
    by_cases h40 : i < 40
    rotate_left
    · have hx : ((i : Int) ≤ (L0.length : Int)) := by omega
      have hy : ¬ ((i : Int) < 40) := by omega
      go_wp2_with fail
      all_goals first | (exfalso; omega) | (go_ret; exact ⟨rfl, HI.out.B⟩)
    have hx : ((i : Int) ≤ (L0.length : Int)) := by omega
    have hy : ((i : Int) < 40) := by omega
    have HLEN := hidB (show L.length < 40 from Nat.lt_of_le_of_lt HI.out.len h40)
    have HLE := hidB hle
    clear h40
    have B := hidB HI.out.B
    have XF := hidB HI.out.XF
    have XV := hidB HI.out.XV
    have XP := hidB HI.out.XP
    have GO := hidB HI.out.GO
    have GV := hidB HI.out.GV
    have TW := hidB HI.out.TW
    obtain ⟨qv, cv, hgv⟩ := own_slice GV.out
    subst hgv
    go_wp2_with (first | ((with_reducible refine ldId 36 (.tmp 16) ?_); refine wpList_load_row (by rfl) 36 (.tmp 16) (by rfl) (w.heap.size + 1 + 1 + 1) (by rfl) 36 (x.cs) (0, 0) _ (by exact GO.out) Try.underlying36 (by rfl) (by kernel_rfl) ?_))
    all_goals first | (exfalso; omega) | skip
    refine (task_next (taskS kd f' v' pr args) T q A x xs wr TW.out HI.out.few HI.out.xd HI.out.xk (HI.out.xr _ B.out)).mono ?_
    rintro e w2 ⟨wt, n, rfl, hone, hnx⟩
    obtain ⟨rfl, mid, hm, hw, hk, hT⟩ : n = 0 ∧ ∃ mid, wr.heap.size ≤ mid ∧ WantR ((taskS kd f' v' pr args) (L.map stripE)) mid wt w2 ∧ Kept A wr w2 ∧ TaskW (taskS kd f' v' pr args) T (((taskS kd f' v' pr args) (L.map stripE)).q (L.map stripE)) (fun k => A k ∨ (wr.heap.size ≤ k ∧ k < mid)) w2 := by unfold TNextC at hnx; rw [HI.out.nx HLE.out] at hnx; exact hnx
    clear hnx
    rw [taskS_strip] at hw hT
    have HONE := hidB hone
    have R := hidB (show Bk (w2.alloc (.cells Try.zeroCells45 45)) w2.heap.size 45 WI.zero.cs from Bk.new _ _ _)
    have WW := hidB (show Bk ((w2.alloc (.cells Try.zeroCells45 45)).setRow w2.heap.size wt.cs) w2.heap.size 45 wt.cs from R.out.setRow _)
    have HB6 := hidB (show Below w2.heap.size w2 ((w2.alloc (.cells Try.zeroCells45 45)).setRow w2.heap.size wt.cs) from below_setRow (box_one _ _) (Nat.le_refl _) _)
    have hmg : mid ≤ w2.heap.size := by rcases Nat.lt_or_ge w2.heap.size mid with h | h; exact absurd (hT.lt _ (.inr ⟨hk.size, h⟩)) (Nat.lt_irrefl _); exact h
    have HRO := hidB (want_rows (fair_task kd f' v' pr args L) hw)
    have BG := hidB HB6.out
    have HFAR := hidB HI.out.far
    have hxx : w.heap.size + 1 + 1 + 1 < wr.heap.size := GO.out.lt
    replace XF := hidB ((XF.out.kept hk (fun h => by have := (HFAR.out _ h).1; omega)).on HB6.out)
    replace XV := hidB ((XV.out.kept hk (fun h => by have := (HFAR.out _ h).1; omega)).on HB6.out)
    replace XP := hidB ((XP.out.kept hk (fun h => by have := (HFAR.out _ h).1; omega)).on HB6.out)
    replace GO := hidB ((GO.out.kept hk (fun h => by have := (HFAR.out _ h).1; omega)).on HB6.out)
    replace GV := hidB (own_on (own_kept GV.out hk (fun k hk' hA => (HFAR.out k hA).2 hk')) HB6.out)
    have HGVL := hidB (fun k hk' => (HI.out.GV.lt k hk').2)
    have hbk : Below w0.heap.size wr w2 := hk.toBelow B.out.size HI.out.lo
    have HMW := hidB (Nat.le_trans B.out.size hm)
    replace B := hidB ((B.out.trans hbk).trans (HB6.out.mono (B.out.trans hbk).size))
    replace TW := hidB (hT.on HB6.out)
    have HW := hidB (show WantR ((taskS kd f' v' pr args) L).strip mid wt ((w2.alloc (.cells Try.zeroCells45 45)).setRow w2.heap.size wt.cs) from WantR.keep hw (fun k hk => HB6.out.block k hk))
    have HM := hidB hm
    have HMG := hidB hmg
    have HSM := hidB hxx
    clear hm hw hk hT hone hmg hbk hxx
    go_upto_region 7 with (first | ((with_reducible refine stId 45 (.tmp 18) (.tmp 43) ?_); refine wpList_store_row (by rfl) 45 (.tmp 18) (.tmp 43) (by rfl) (w2.heap.size) (wt.cs) (by rfl) (by rfl) 45 (WI.zero.cs) (by exact R.out) (by kernel_rfl) (by rfl) (by exact HONE.out) ?_))
    generalize hW : ((w2.alloc (.cells Try.zeroCells45 45)).setRow w2.heap.size wt.cs) = w6 at *
    clear hW R HONE HB6
    generalize hG : w2.heap.size = gW at *
    clear hG
    have HTL := hidB HI.out.TW.lt
    have HBS := hidB HI.out.B.size
    generalize wr.heap.size = s0 at *
    have HLONE := hidB (fun e (he : e ∈ L) => HONEL.out e (HI.out.mem e he).1)
    have HLA := hidB (run_last hkd f' v' pr args (.slice pa args.length c) L (fun e he => (HI.out.mem e he).2) HI.out.pend)
    have HLW := hidB (last_one (kd := kd) (f := f') (v := v') (pr := pr) (args := args) (L := L) (av := (.slice pa args.length c)) rfl HLONE.out)
    go_wp2_with (first | ((with_reducible refine ldId 24 (.tmp 9) ?_); refine wpList_load_row (by rfl) 24 (.tmp 9) (by rfl) (w.heap.size) (by rfl) 24 (f'.cells.toArray) (0, 0) _ (by exact XF.out) Try.underlying24 (by rfl) (by kernel_rfl) ?_) | ((with_reducible refine ldId 24 (.tmp 10) ?_); refine wpList_load_row (by rfl) 24 (.tmp 10) (by rfl) (w.heap.size + 1) (by rfl) 24 (v'.cells.toArray) (0, 0) _ (by exact XV.out) Try.underlying24 (by rfl) (by kernel_rfl) ?_) | ((with_reducible refine ldId 24 (.tmp 11) ?_); refine wpList_load_row (by rfl) 24 (.tmp 11) (by rfl) (w.heap.size + 1 + 1) (by rfl) 24 (pr.cells.toArray) (0, 0) _ (by exact XP.out) Try.underlying24 (by rfl) (by kernel_rfl) ?_))
    refine (rrun_any kd hkd f' v' pr pa args.length c L (.slice qv L.length cv) w6 ⟨own_rd (f := fun e : OI × List KI => e.1.cs.toList) (n := 26) (fun _ => rfl) GV.out, HLONE.out⟩).mono ?_
    rintro e w7 ⟨v20, rfl, hb, hown⟩
    obtain ⟨l, hl⟩ : ∃ l, endF (runF kd f' v' pr (.slice pa args.length c) L) = l := ⟨_, rfl⟩
    have hl2 := HLA.out
    rw [hl] at hl2
    change w7.ownsRow _ _ _ _ (endF (runF kd f' v' pr (.slice pa args.length c) L)).length ((endF (runF kd f' v' pr (.slice pa args.length c) L)).flatMap wF) at hown
    rw [hl] at hown
    obtain ⟨lw, hlw⟩ : ∃ q, lastW ((taskS kd f' v' pr args) L) (.slice pa args.length c) = q := ⟨_, rfl⟩
    have HLWE := hidB hlw
    obtain ⟨hl3, hl4⟩ := hl2
    rw [hlw] at hl4 HLW
    obtain ⟨p20, c20, rfl, hq20, hm20, hr20⟩ := own_rd (f := wF) (n := 87) (fun _ => rfl) hown
    obtain ⟨g20, o20, rfl, hg20, hrow⟩ := hr20 (by omega)
    have hgt : L.length < l.length := by omega
    have HROW := hidB (show w7.rangeAt g20 (o20 + L.length * 87) lw.cs.toList by have h := hrow L.length hgt; rw [List.getElem?_eq_getElem hgt] at hl4; injection hl4 with hl5; rw [hl5] at h; exact h)
    rw [hl3]
    have HWL0 := hidB WW.out.lt
    replace XF := hidB (XF.out.on hb)
    replace XV := hidB (XV.out.on hb)
    replace XP := hidB (XP.out.on hb)
    replace GO := hidB (GO.out.on hb)
    replace WW := hidB (WW.out.on hb)
    replace GV := hidB (own_on GV.out hb)
    replace TW := hidB (TW.out.on hb)
    replace HW := hidB (show WantR ((taskS kd f' v' pr args) L).strip mid wt w7 from WantR.keep HW.out (fun k hk => hb.block k hk))
    replace BG := hidB (BG.out.trans (hb.mono (Nat.le_of_lt HWL0.out)))
    replace B := hidB (B.out.trans (hb.mono B.out.size))
    clear hb hown hrow hr20 hl4 hg20 hm20 hq20 hgt hl3 HLA
    clear hl hlw
    clear l
    have hs1 : (L.length : Int) + 1 - 1 = (L.length : Int) := by omega
    have hs2 : (0 : Int) ≤ (L.length : Int) := by omega
    have hs3 : (L.length : Int) < (L.length : Int) + 1 := by omega
    have hs4 : L.length ≤ 9223372036854775806 := by have := HLEN.out; omega
    have R := hidB (show Bk (w7.alloc (.cells Try.zeroCells45 45)) w7.heap.size 45 WI.zero.cs from Bk.new _ _ _)
    have WL := hidB (show Bk ((w7.alloc (.cells Try.zeroCells45 45)).setRow w7.heap.size lw.cs) w7.heap.size 45 lw.cs from R.out.setRow _)
    have HB8 := hidB (show Below w7.heap.size w7 ((w7.alloc (.cells Try.zeroCells45 45)).setRow w7.heap.size lw.cs) from below_setRow (box_one _ _) (Nat.le_refl _) _)
    have HGW := hidB WW.out.lt
    replace XF := hidB (XF.out.on HB8.out)
    replace XV := hidB (XV.out.on HB8.out)
    replace XP := hidB (XP.out.on HB8.out)
    replace GO := hidB (GO.out.on HB8.out)
    replace WW := hidB (WW.out.on HB8.out)
    replace GV := hidB (own_on GV.out HB8.out)
    replace TW := hidB (TW.out.on HB8.out)
    replace HW := hidB (show WantR ((taskS kd f' v' pr args) L).strip mid wt ((w7.alloc (.cells Try.zeroCells45 45)).setRow w7.heap.size lw.cs) from WantR.keep HW.out (fun k hk => HB8.out.block k hk))
    replace BG := hidB (BG.out.trans (HB8.out.mono (Nat.le_of_lt HGW.out)))
    replace B := hidB (B.out.trans (HB8.out.mono B.out.size))
    go_upto_region 9 with (first | ((with_reducible refine ldId 45 (.tmp 56) ?_); refine wpList_load_mid (by rfl) 45 (.tmp 56) (by rfl) g20 (o20 + L.length * 87) (by rfl) lw.cs.toList _ (by exact HROW.out) Try.underlying45 (by rfl) (by kernel_rfl) ?_) | ((with_reducible refine stId 45 (.tmp 21) (.tmp 57) ?_); refine wpList_store_row (by rfl) 45 (.tmp 21) (.tmp 57) (by rfl) (w7.heap.size) (lw.cs) (by rfl) (by rfl) 45 (WI.zero.cs) (by exact R.out) (by kernel_rfl) (by rfl) (by exact HLW.out) ?_))
    generalize hW : ((w7.alloc (.cells Try.zeroCells45 45)).setRow w7.heap.size lw.cs) = w8 at *
    clear hW R HROW HB8 HLW
    generalize hG : w7.heap.size = gL at *
    clear hG
    have HFA := hidB (fair_task kd f' v' pr args L)
    go_wp2_with (first | ((with_reducible refine ldId 45 (.tmp 18) ?_); refine wpList_wload_mid 45 (.tmp 18) (by rfl) (by rfl) (gW) 0 (by rfl) (wt.cs.toList) _ (by exact Bk.mid WW.out 0 _ rfl) Try.underlying45 (by rfl) (by kernel_rfl) ?_) | ((with_reducible refine ldId 45 (.tmp 21) ?_); refine wpList_wload_mid 45 (.tmp 21) (by rfl) (by rfl) (gL) 0 (by rfl) (lw.cs.toList) _ (by exact Bk.mid WL.out 0 _ rfl) Try.underlying45 (by rfl) (by kernel_rfl) ?_))
    skip
    refine (show Calls _ _ #[wt.a, lw.a] w8 _ from HLWE.out ▸ like_any ((taskS kd f' v' pr args) L) args L (.slice pa args.length c) w8 HFA.out (fun e he => (OKS.out e (HI.out.mem e he).1).2.2.2.2.on B.out) (RA.out _ B.out) HW.out).mono ?_
    rintro e w9 ⟨rfl, hb⟩
    have HW9 := hidB WW.out.lt
    replace XF := hidB (XF.out.on hb)
    replace XV := hidB (XV.out.on hb)
    replace XP := hidB (XP.out.on hb)
    replace GO := hidB (GO.out.on hb)
    replace WW := hidB (WW.out.on hb)
    replace WL := hidB (WL.out.on hb)
    replace GV := hidB (own_on GV.out hb)
    replace TW := hidB (TW.out.on hb)
    replace BG := hidB (BG.out.trans (hb.mono (Nat.le_of_lt HW9.out)))
    replace B := hidB (B.out.trans (hb.mono B.out.size))
    clear hb HW HFA HW9
    obtain ⟨q1, n1, c1, q2, n2, c2, hwa, hwb, hn1, hn2, hz1, hz2⟩ := HRO.out
    have ZZ := hidB (show ZW mid gW n1 q1 n2 q2 w9 w9 from ⟨Kept.refl _ _, hz1.keep (fun k _ h2 => BG.out.block k h2), hz2.keep (fun k _ h2 => BG.out.block k h2)⟩)
    have HWA := hidB hwa
    have HWB := hidB hwb
    have hn1' : n1 ≤ 9223372036854775807 := by omega
    have hn2' : n2 ≤ 9223372036854775807 := by omega
    clear HRO hz1 hz2 hwa hwb hn1 hn2 BG
    go_wp2_with fail
    go_loopw [22] (fun s22 wr => ∃ k : Nat, k ≤ n1 ∧ s22 = .int .i64 k ∧ ZW mid gW n1 q1 n2 q2 w9 wr) (fun s22 _ => n1 - (intOf s22).toNat)
    case atStart => exact ⟨0, Nat.zero_le _, rfl, ZZ.out⟩
    case round =>
      clear ZZ
      obtain ⟨k, hk, rfl, hZ⟩ := hrel
      have ZZ := hidB hZ
      clear hZ
      have WZ := hidB (WW.out.kept ZZ.out.k (fun h => Nat.lt_irrefl _ h.2))
      have y0 : wr.cell? ⟨gW, 42, none⟩ = some (.slice q1 n1 c1) := (WZ.out.cell 42).trans (congrArg some HWA.out)
      have hx2 : (0 : Int) ≤ (k : Int) := by omega
      by_cases hlt : k < n1
      · have hx1 : (k : Int) < (n1 : Int) := by omega
        have HLT := hidB hlt
        obtain ⟨gz, cur, hq, hlo, hhi, hbk, hsz⟩ := ZZ.out.r1 (by omega)
        subst hq
        have TH := hidB (OwnZ.there hbk hsz hlt)
        have HLO := hidB hlo
        have HHI := hidB hhi
        clear hlo hhi hbk hsz
        go_wp2_with (first | ((with_reducible refine wpId ?_); refine wpList_build_to (by rfl) 24 _ (by rfl) (#[.int .u8 77, .float .f64 0, .string ⟨#[]⟩, .int .i64 0]) (by kernel_rfl) ?_) | ((with_reducible refine stId 24 (.tmp 85) (.tmp 84) ?_); refine wpList_store_mid (by rfl) 24 (.tmp 85) (.tmp 84) (by rfl) gz (k * 4) #[.int .u8 77, .float .f64 0, .string ⟨#[]⟩, .int .i64 0] (by rfl) (by rfl) (by exact TH.out) (by kernel_rfl) (by kernel_rfl) ?_))
        go_roundw
        case rel => exact ⟨k + 1, by have := HLT.out; omega, by go_num, ZZ.out.set ⟨HLO.out, HHI.out⟩ _ _⟩
        case measure => have := HLT.out; simp [intOf]; omega
      have hx4 : ¬ ((k : Int) < (n1 : Int)) := by omega
      clear hk hlt
      go_upto_region 15 with fail
      skip
      go_wp2_with fail
      go_loopw [23] (fun s23 wr => ∃ k : Nat, k ≤ n2 ∧ s23 = .int .i64 k ∧ ZW mid gW n1 q1 n2 q2 w9 wr) (fun s23 _ => n2 - (intOf s23).toNat)
      case atStart => exact ⟨0, Nat.zero_le _, rfl, ZZ.out⟩
      case round =>
        clear ZZ
        obtain ⟨k, hk, rfl, hZ⟩ := hrel
        have ZZ := hidB hZ
        clear hZ
        have WZ := hidB (WW.out.kept ZZ.out.k (fun h => Nat.lt_irrefl _ h.2))
        have y0 : wr.cell? ⟨gW, 29, none⟩ = some (.slice q2 n2 c2) := (WZ.out.cell 29).trans (congrArg some HWB.out)
        have hx2 : (0 : Int) ≤ (k : Int) := by omega
        by_cases hlt : k < n2
        · have hx1 : (k : Int) < (n2 : Int) := by omega
          have HLT := hidB hlt
          obtain ⟨gz, cur, hq, hlo, hhi, hbk, hsz⟩ := ZZ.out.r2 (by omega)
          subst hq
          have TH := hidB (OwnZ.there hbk hsz hlt)
          have HLO := hidB hlo
          have HHI := hidB hhi
          clear hlo hhi hbk hsz
          go_wp2_with (first | ((with_reducible refine wpId ?_); refine wpList_build_to (by rfl) 24 _ (by rfl) (#[.int .u8 77, .float .f64 0, .string ⟨#[]⟩, .int .i64 0]) (by kernel_rfl) ?_) | ((with_reducible refine stId 24 (.tmp 99) (.tmp 98) ?_); refine wpList_store_mid (by rfl) 24 (.tmp 99) (.tmp 98) (by rfl) gz (k * 4) #[.int .u8 77, .float .f64 0, .string ⟨#[]⟩, .int .i64 0] (by rfl) (by rfl) (by exact TH.out) (by kernel_rfl) (by kernel_rfl) ?_))
          go_roundw
          case rel => exact ⟨k + 1, by have := HLT.out; omega, by go_num, ZZ.out.set ⟨HLO.out, HHI.out⟩ _ _⟩
          case measure => have := HLT.out; simp [intOf]; omega
        have hx4 : ¬ ((k : Int) < (n2 : Int)) := by omega
        clear hk hlt
        go_wp2_with fail
        have HKK := hidB ZZ.out.k
        clear ZZ y0 hx2 hx4 hn1' hn2'
        replace XF := hidB (XF.out.kept HKK.out (fun h => absurd (show mid ≤ w.heap.size from h.1) (by have h1 := HM.out; have h2 := HSM.out; omega)))
        replace XV := hidB (XV.out.kept HKK.out (fun h => absurd (show mid ≤ w.heap.size + 1 from h.1) (by have h1 := HM.out; have h2 := HSM.out; omega)))
        replace XP := hidB (XP.out.kept HKK.out (fun h => absurd (show mid ≤ w.heap.size + 1 + 1 from h.1) (by have h1 := HM.out; have h2 := HSM.out; omega)))
        replace GO := hidB (GO.out.kept HKK.out (fun h => absurd (show mid ≤ w.heap.size + 1 + 1 + 1 from h.1) (by have h1 := HM.out; have h2 := HSM.out; omega)))
        replace WL := hidB (WL.out.kept HKK.out (fun h => absurd (show gL < gW from h.2) (by have h1 := HGW.out; omega)))
        replace GV := hidB (own_kept GV.out HKK.out (fun k hk' h => absurd (show mid ≤ k from h.1) (by have h1 := HGVL.out k hk'; have h2 := HM.out; omega)))
        replace TW := hidB (TW.out.keep HKK.out.size (fun k hk => HKK.out.block k (TW.out.lt k hk) (fun h => by have h1 : mid ≤ k := h.1; rcases hk with hk | hk; exact absurd (HTL.out k hk) (by have h2 := HM.out; omega); omega)))
        replace B := hidB (B.out.trans (HKK.out.toBelow B.out.size (fun k hk => Nat.le_trans HMW.out (show mid ≤ k from hk.1))))
        clear HKK
        have HST := hidB (state_of kd f' v' pr args L (.slice pa args.length c))
        rw [HLWE.out] at HST
        obtain ⟨q', hq'⟩ : ∃ q', ((taskS kd f' v' pr args) L).strip.q (L.map stripE) = q' := ⟨_, rfl⟩
        rw [hq'] at TW HST
        clear hq'
        have HLO2 := hidB (show ∀ k, (A k ∨ (s0 ≤ k ∧ k < mid)) → w0.heap.size ≤ k from fun k hk => by rcases hk with hk | hk; exact HI.out.lo k hk; exact Nat.le_trans HBS.out hk.1)
        have HFA2 := hidB (show ∀ k, (A k ∨ (s0 ≤ k ∧ k < mid)) → (k < w.heap.size ∨ w.heap.size + 1 + 1 + 1 < k) ∧ (Value.slice qv L.length cv).ownBlock ≠ some k from fun k hk => by rcases hk with hk | hk; exact HI.out.far k hk; exact ⟨.inr (by have := HSM.out; omega), fun h => absurd (HGVL.out k h) (by omega)⟩)
        obtain ⟨wz, hwz⟩ : ∃ z, z = wr := ⟨_, rfl⟩
        subst hwz
        go_loopw [17] (fun s17 wr => ∃ j : Nat, i ≤ j ∧ j ≤ L0.length ∧ s17 = .int .i64 j ∧ Below wz.heap.size wz wr) (fun s17 _ => L0.length - (intOf s17).toNat)
        case atStart => exact ⟨i, Nat.le_refl _, HLE.out, rfl, Below.refl _ _⟩
        case round =>
          obtain ⟨j, hj1, hj2, rfl, hb⟩ := hrel
          have BZ := hidB hb
          have HJ1 := hidB hj1
          have HJ2 := hidB hj2
          clear hb
          replace XF := hidB (XF.out.on BZ.out)
          replace XV := hidB (XV.out.on BZ.out)
          replace XP := hidB (XP.out.on BZ.out)
          replace GO := hidB (GO.out.on BZ.out)
          replace WL := hidB (WL.out.on BZ.out)
          replace GV := hidB (own_on GV.out BZ.out)
          replace TW := hidB (TW.out.on BZ.out)
          replace B := hidB (B.out.trans (BZ.out.mono B.out.size))
          by_cases hjl : j < L0.length
          rotate_left
          · have hjx : ¬ ((j : Int) < (L0.length : Int)) := by omega
            have HJL := hidB hjl
            clear hj1 hjl
            go_upto_region 19 with fail
            refine wp_region_noPanic ?_
            refine wp_region_held_drew (S := fun W => Below w0.heap.size w0 W ∧ Below wr.heap.size wr W ∧ Bk W gL 45 lw.cs) (by kernel_rfl) ?_ (fun hHeld => ?_)
            · exact ⟨B.out.drew, (Below.refl _ _).drew, WL.out.drew⟩
            generalize hWd : wr.drew = wd at *
            clear hWd
            first | (refine wpAnyH_take (i := 0) (v := undef) (by simp only [List.getElem?_toArray, List.getElem?_cons_zero]; exact rfl) (by kernel_rfl) (by kernel_rfl) (by kernel_rfl) (fun _ _ _ h => h) (Or.inr ⟨?_, rfl⟩) (by assumption) ?_; (rfl); try simp only [Act.put, List.setIfInBounds_toArray, List.set_cons_zero, List.set_cons_succ]) | (refine wpAnyH_take (i := 0) (v := ?_) (by simp only [List.getElem?_toArray, List.getElem?_cons_zero]; exact rfl) (by kernel_rfl) (by kernel_rfl) (by kernel_rfl) (fun _ _ _ h => h) (Or.inl ⟨?_, ?_⟩) (by assumption) ?_; rotate_left; (rfl); (focus (intro w hSw; (try dsimp only at hSw); go_simp; try with_reducible rfl)); try simp only [Act.put, List.setIfInBounds_toArray, List.set_cons_zero, List.set_cons_succ])
            first | (refine wpAnyH_take (i := 1) (v := undef) (by simp only [List.getElem?_toArray, List.getElem?_cons_succ, List.getElem?_cons_zero]; exact rfl) (by kernel_rfl) (by kernel_rfl) (by kernel_rfl) (fun _ _ _ h => h) (Or.inr ⟨?_, rfl⟩) (by assumption) ?_; (rfl); try simp only [Act.put, List.setIfInBounds_toArray, List.set_cons_zero, List.set_cons_succ]) | (refine wpAnyH_take (i := 1) (v := ?_) (by simp only [List.getElem?_toArray, List.getElem?_cons_succ, List.getElem?_cons_zero]; exact rfl) (by kernel_rfl) (by kernel_rfl) (by kernel_rfl) (fun _ _ _ h => h) (Or.inl ⟨?_, ?_⟩) (by assumption) ?_; rotate_left; (rfl); (focus (intro w hSw; (try dsimp only at hSw); go_simp; try with_reducible rfl)); try simp only [Act.put, List.setIfInBounds_toArray, List.set_cons_zero, List.set_cons_succ])
            first | (refine wpAnyH_take (i := 2) (v := undef) (by simp only [List.getElem?_toArray, List.getElem?_cons_succ, List.getElem?_cons_zero]; exact rfl) (by kernel_rfl) (by kernel_rfl) (by kernel_rfl) (fun _ _ _ h => h) (Or.inr ⟨?_, rfl⟩) (by assumption) ?_; (rfl); try simp only [Act.put, List.setIfInBounds_toArray, List.set_cons_zero, List.set_cons_succ]) | (refine wpAnyH_take (i := 2) (v := ?_) (by simp only [List.getElem?_toArray, List.getElem?_cons_succ, List.getElem?_cons_zero]; exact rfl) (by kernel_rfl) (by kernel_rfl) (by kernel_rfl) (fun _ _ _ h => h) (Or.inl ⟨?_, ?_⟩) (by assumption) ?_; rotate_left; (rfl); (focus (intro w hSw; (try dsimp only at hSw); go_simp; try with_reducible rfl)); try simp only [Act.put, List.setIfInBounds_toArray, List.set_cons_zero, List.set_cons_succ])
            first | (refine wpAnyH_take (i := 3) (v := undef) (by simp only [List.getElem?_toArray, List.getElem?_cons_succ, List.getElem?_cons_zero]; exact rfl) (by kernel_rfl) (by kernel_rfl) (by kernel_rfl) (fun _ _ _ h => h) (Or.inr ⟨?_, rfl⟩) (by assumption) ?_; (rfl); try simp only [Act.put, List.setIfInBounds_toArray, List.set_cons_zero, List.set_cons_succ]) | (refine wpAnyH_take (i := 3) (v := ?_) (by simp only [List.getElem?_toArray, List.getElem?_cons_succ, List.getElem?_cons_zero]; exact rfl) (by kernel_rfl) (by kernel_rfl) (by kernel_rfl) (fun _ _ _ h => h) (Or.inl ⟨?_, ?_⟩) (by assumption) ?_; rotate_left; (rfl); (focus (intro w hSw; (try dsimp only at hSw); go_simp; try with_reducible rfl)); try simp only [Act.put, List.setIfInBounds_toArray, List.set_cons_zero, List.set_cons_succ])
            first | (refine wpAnyH_take (i := 4) (v := undef) (by simp only [List.getElem?_toArray, List.getElem?_cons_succ, List.getElem?_cons_zero]; exact rfl) (by kernel_rfl) (by kernel_rfl) (by kernel_rfl) (fun _ _ _ h => h) (Or.inr ⟨?_, rfl⟩) (by assumption) ?_; (rfl); try simp only [Act.put, List.setIfInBounds_toArray, List.set_cons_zero, List.set_cons_succ]) | (refine wpAnyH_take (i := 4) (v := ?_) (by simp only [List.getElem?_toArray, List.getElem?_cons_succ, List.getElem?_cons_zero]; exact rfl) (by kernel_rfl) (by kernel_rfl) (by kernel_rfl) (fun _ _ _ h => h) (Or.inl ⟨?_, ?_⟩) (by assumption) ?_; rotate_left; (rfl); (focus (intro w hSw; (try dsimp only at hSw); go_simp; try with_reducible rfl)); try simp only [Act.put, List.setIfInBounds_toArray, List.set_cons_zero, List.set_cons_succ])
            (refine wpAnyH_take (i := 5) (v := undef) (by simp only [List.getElem?_toArray, List.getElem?_cons_succ, List.getElem?_cons_zero]; exact rfl) (by kernel_rfl) (by kernel_rfl) (by kernel_rfl) (fun _ _ _ h => h) (Or.inr ⟨?_, rfl⟩) (by assumption) ?_; (rfl); try simp only [Act.put, List.setIfInBounds_toArray, List.set_cons_zero, List.set_cons_succ])
            (refine wpAnyH_take (i := 6) (v := undef) (by simp only [List.getElem?_toArray, List.getElem?_cons_succ, List.getElem?_cons_zero]; exact rfl) (by kernel_rfl) (by kernel_rfl) (by kernel_rfl) (fun _ _ _ h => h) (Or.inr ⟨?_, rfl⟩) (by assumption) ?_; (rfl); try simp only [Act.put, List.setIfInBounds_toArray, List.set_cons_zero, List.set_cons_succ])
            (refine wpAnyH_take (i := 7) (v := undef) (by simp only [List.getElem?_toArray, List.getElem?_cons_succ, List.getElem?_cons_zero]; exact rfl) (by kernel_rfl) (by kernel_rfl) (by kernel_rfl) (fun _ _ _ h => h) (Or.inr ⟨?_, rfl⟩) (by assumption) ?_; (rfl); try simp only [Act.put, List.setIfInBounds_toArray, List.set_cons_zero, List.set_cons_succ])
            first | (refine wpAnyH_take (i := 8) (v := undef) (by simp only [List.getElem?_toArray, List.getElem?_cons_succ, List.getElem?_cons_zero]; exact rfl) (by kernel_rfl) (by kernel_rfl) (by kernel_rfl) (fun _ _ _ h => h) (Or.inr ⟨?_, rfl⟩) (by assumption) ?_; (rfl); try simp only [Act.put, List.setIfInBounds_toArray, List.set_cons_zero, List.set_cons_succ]) | (refine wpAnyH_take (i := 8) (v := ?_) (by simp only [List.getElem?_toArray, List.getElem?_cons_succ, List.getElem?_cons_zero]; exact rfl) (by kernel_rfl) (by kernel_rfl) (by kernel_rfl) (fun _ _ _ h => h) (Or.inl ⟨?_, ?_⟩) (by assumption) ?_; rotate_left; (rfl); (focus (intro w hSw; (try dsimp only at hSw); go_simp; try with_reducible rfl)); try simp only [Act.put, List.setIfInBounds_toArray, List.set_cons_zero, List.set_cons_succ])
            first | (refine wpAnyH_take (i := 9) (v := undef) (by simp only [List.getElem?_toArray, List.getElem?_cons_succ, List.getElem?_cons_zero]; exact rfl) (by kernel_rfl) (by kernel_rfl) (by kernel_rfl) (fun _ _ _ h => h) (Or.inr ⟨?_, rfl⟩) (by assumption) ?_; (rfl); try simp only [Act.put, List.setIfInBounds_toArray, List.set_cons_zero, List.set_cons_succ]) | (refine wpAnyH_take (i := 9) (v := ?_) (by simp only [List.getElem?_toArray, List.getElem?_cons_succ, List.getElem?_cons_zero]; exact rfl) (by kernel_rfl) (by kernel_rfl) (by kernel_rfl) (fun _ _ _ h => h) (Or.inl ⟨?_, ?_⟩) (by assumption) ?_; rotate_left; (rfl); (focus (intro w hSw; (try dsimp only at hSw); go_simp; try with_reducible rfl)); try simp only [Act.put, List.setIfInBounds_toArray, List.set_cons_zero, List.set_cons_succ])
            (refine wpAnyH_take (i := 10) (v := undef) (by simp only [List.getElem?_toArray, List.getElem?_cons_succ, List.getElem?_cons_zero]; exact rfl) (by kernel_rfl) (by kernel_rfl) (by kernel_rfl) (fun _ _ _ h => h) (Or.inr ⟨?_, rfl⟩) (by assumption) ?_; (rfl); try simp only [Act.put, List.setIfInBounds_toArray, List.set_cons_zero, List.set_cons_succ])
            (refine wpAnyH_take (i := 11) (v := undef) (by simp only [List.getElem?_toArray, List.getElem?_cons_succ, List.getElem?_cons_zero]; exact rfl) (by kernel_rfl) (by kernel_rfl) (by kernel_rfl) (fun _ _ _ h => h) (Or.inr ⟨?_, rfl⟩) (by assumption) ?_; (rfl); try simp only [Act.put, List.setIfInBounds_toArray, List.set_cons_zero, List.set_cons_succ])
            (refine wpAnyH_take (i := 12) (v := undef) (by simp only [List.getElem?_toArray, List.getElem?_cons_succ, List.getElem?_cons_zero]; exact rfl) (by kernel_rfl) (by kernel_rfl) (by kernel_rfl) (fun _ _ _ h => h) (Or.inr ⟨?_, rfl⟩) (by assumption) ?_; (rfl); try simp only [Act.put, List.setIfInBounds_toArray, List.set_cons_zero, List.set_cons_succ])
            (refine wpAnyH_take (i := 13) (v := undef) (by simp only [List.getElem?_toArray, List.getElem?_cons_succ, List.getElem?_cons_zero]; exact rfl) (by kernel_rfl) (by kernel_rfl) (by kernel_rfl) (fun _ _ _ h => h) (Or.inr ⟨?_, rfl⟩) (by assumption) ?_; (rfl); try simp only [Act.put, List.setIfInBounds_toArray, List.set_cons_zero, List.set_cons_succ])
            (refine wpAnyH_take (i := 14) (v := undef) (by simp only [List.getElem?_toArray, List.getElem?_cons_succ, List.getElem?_cons_zero]; exact rfl) (by kernel_rfl) (by kernel_rfl) (by kernel_rfl) (fun _ _ _ h => h) (Or.inr ⟨?_, rfl⟩) (by assumption) ?_; (rfl); try simp only [Act.put, List.setIfInBounds_toArray, List.set_cons_zero, List.set_cons_succ])
            (refine wpAnyH_take (i := 15) (v := undef) (by simp only [List.getElem?_toArray, List.getElem?_cons_succ, List.getElem?_cons_zero]; exact rfl) (by kernel_rfl) (by kernel_rfl) (by kernel_rfl) (fun _ _ _ h => h) (Or.inr ⟨?_, rfl⟩) (by assumption) ?_; (rfl); try simp only [Act.put, List.setIfInBounds_toArray, List.set_cons_zero, List.set_cons_succ])
            (refine wpAnyH_take (i := 16) (v := undef) (by simp only [List.getElem?_toArray, List.getElem?_cons_succ, List.getElem?_cons_zero]; exact rfl) (by kernel_rfl) (by kernel_rfl) (by kernel_rfl) (fun _ _ _ h => h) (Or.inr ⟨?_, rfl⟩) (by assumption) ?_; (rfl); try simp only [Act.put, List.setIfInBounds_toArray, List.set_cons_zero, List.set_cons_succ])
            first | (refine wpAnyH_take (i := 17) (v := undef) (by simp only [List.getElem?_toArray, List.getElem?_cons_succ, List.getElem?_cons_zero]; exact rfl) (by kernel_rfl) (by kernel_rfl) (by kernel_rfl) (fun _ _ _ h => h) (Or.inr ⟨?_, rfl⟩) (by assumption) ?_; (rfl); try simp only [Act.put, List.setIfInBounds_toArray, List.set_cons_zero, List.set_cons_succ]) | (refine wpAnyH_take (i := 17) (v := ?_) (by simp only [List.getElem?_toArray, List.getElem?_cons_succ, List.getElem?_cons_zero]; exact rfl) (by kernel_rfl) (by kernel_rfl) (by kernel_rfl) (fun _ _ _ h => h) (Or.inl ⟨?_, ?_⟩) (by assumption) ?_; rotate_left; (rfl); (focus (intro w hSw; (try dsimp only at hSw); go_simp; try with_reducible rfl)); try simp only [Act.put, List.setIfInBounds_toArray, List.set_cons_zero, List.set_cons_succ])
            refine wpAnyH_done (by kernel_rfl) ?_ _
            refine NoPanic.normal ?_
            replace XF := hidB (XF.out.on hHeld.2.1)
            replace XV := hidB (XV.out.on hHeld.2.1)
            replace XP := hidB (XP.out.on hHeld.2.1)
            replace GO := hidB (GO.out.on hHeld.2.1)
            replace WL := hidB (WL.out.on hHeld.2.1)
            replace GV := hidB (own_on GV.out hHeld.2.1)
            replace TW := hidB (TW.out.on hHeld.2.1)
            replace B := hidB hHeld.1
            replace BZ := hidB (BZ.out.trans (hHeld.2.1.mono BZ.out.size))
            clear hHeld
            have hjl := HJL.out
            rcases HST.out with ⟨h7, hq7⟩ | ⟨h7, hwant, hqw, hnx⟩
            · skip
              have y0 : wd.cell? ⟨gL, 0, none⟩ = some (.int .u8 7) := by rw [← h7]; exact WL.out.cell 0
              rw [hq7] at TW
              go_wp2_with (first | ((with_reducible refine wpId ?_); refine wpList_build_to (by rfl) 36 _ (by rfl) (done0.cs) (by kernel_rfl) ?_))
              refine (task_next (taskS kd f' v' pr args) T .over _ done0 [] wd TW.out trivial ⟨by decide, by decide, by decide⟩ (by decide) (RdL.nil _ _ _)).mono ?_
              rintro e wq ⟨wt2, n2, rfl, _, hnx⟩
              obtain ⟨rfl, rfl, hb⟩ : n2 = 160 ∧ wt2 = WI.zero ∧ Below wd.heap.size wd wq := hnx
              have B9 := hidB (B.out.trans (hb.mono B.out.size))
              have R := hidB (show Bk (wq.alloc (.cells Try.zeroCells45 45)) wq.heap.size 45 WI.zero.cs from Bk.new _ _ _)
              clear hb
              go_wp2_with (first | ((with_reducible refine stId 45 (.tmp 26) (.tmp 143) ?_); refine wpList_store_row (by rfl) 45 (.tmp 26) (.tmp 143) (by rfl) (wq.heap.size) (WI.zero.cs) (by rfl) (by rfl) 45 (WI.zero.cs) (by exact R.out) (by kernel_rfl) (by rfl) (by exact WI.one _ rfl rfl rfl rfl) ?_))
              go_ret
              exact ⟨rfl, below_setRow (B9.out.alloc B9.out.size _) B9.out.size _⟩
            · skip
              have y0 : wd.cell? ⟨gL, 0, none⟩ = some (.int .u8 lw.kd) := WL.out.cell 0
              have hj3 : j ≤ 4611686018427387904 := by have := HJ2.out; omega
              have hk1 : (lw.kd == 7) = false := by rw [beq_eq_false_iff_ne]; exact h7
              have HQF := hidB (show q'.few by rw [hqw]; show (L.map stripE).length < 899; rw [List.length_map]; have := HLEN.out; omega)
              go_wp2_with fail
              go_roundw
              case rel => exact ⟨j + 1, by go_num, by have := HJ2.out; omega, _, q', L, x, xs, ⟨B.out, XF.out, XV.out, XP.out, GO.out, GV.out, TW.out, HLO2.out, HFA2.out, HI.out.mem, Nat.le_trans HI.out.len (by have := HJ1.out; omega), HI.out.pend, HQF.out, HI.out.xd, HI.out.xk, HI.out.xr, fun h => absurd h (by omega)⟩⟩
              case measure => have := HJ1.out; have := HJ2.out; simp [intOf]; omega
          have hjx : (j : Int) < (L0.length : Int) := by omega
          have HJL := hidB hjl
          rcases HST.out with ⟨h7, hq7⟩ | ⟨h7, hwant, hqw, hnx⟩
          · have H7 := hidB h7
            clear hj1 hjl h7
            go_upto_region 19 with fail
            refine wp_region_noPanic ?_
            refine wp_region_held_drew (S := fun W => Below w0.heap.size w0 W ∧ Below wr.heap.size wr W ∧ Bk W gL 45 lw.cs) (by kernel_rfl) ?_ (fun hHeld => ?_)
            · exact ⟨B.out.drew, (Below.refl _ _).drew, WL.out.drew⟩
            generalize hWd : wr.drew = wd at *
            clear hWd
            first | (refine wpAnyH_take (i := 0) (v := undef) (by simp only [List.getElem?_toArray, List.getElem?_cons_zero]; exact rfl) (by kernel_rfl) (by kernel_rfl) (by kernel_rfl) (fun _ _ _ h => h) (Or.inr ⟨?_, rfl⟩) (by assumption) ?_; (rfl); try simp only [Act.put, List.setIfInBounds_toArray, List.set_cons_zero, List.set_cons_succ]) | (refine wpAnyH_take (i := 0) (v := ?_) (by simp only [List.getElem?_toArray, List.getElem?_cons_zero]; exact rfl) (by kernel_rfl) (by kernel_rfl) (by kernel_rfl) (fun _ _ _ h => h) (Or.inl ⟨?_, ?_⟩) (by assumption) ?_; rotate_left; (rfl); (focus (intro w hSw; (try dsimp only at hSw); go_simp; try with_reducible rfl)); try simp only [Act.put, List.setIfInBounds_toArray, List.set_cons_zero, List.set_cons_succ])
            first | (refine wpAnyH_take (i := 1) (v := undef) (by simp only [List.getElem?_toArray, List.getElem?_cons_succ, List.getElem?_cons_zero]; exact rfl) (by kernel_rfl) (by kernel_rfl) (by kernel_rfl) (fun _ _ _ h => h) (Or.inr ⟨?_, rfl⟩) (by assumption) ?_; (rfl); try simp only [Act.put, List.setIfInBounds_toArray, List.set_cons_zero, List.set_cons_succ]) | (refine wpAnyH_take (i := 1) (v := ?_) (by simp only [List.getElem?_toArray, List.getElem?_cons_succ, List.getElem?_cons_zero]; exact rfl) (by kernel_rfl) (by kernel_rfl) (by kernel_rfl) (fun _ _ _ h => h) (Or.inl ⟨?_, ?_⟩) (by assumption) ?_; rotate_left; (rfl); (focus (intro w hSw; (try dsimp only at hSw); go_simp; try with_reducible rfl)); try simp only [Act.put, List.setIfInBounds_toArray, List.set_cons_zero, List.set_cons_succ])
            first | (refine wpAnyH_take (i := 2) (v := undef) (by simp only [List.getElem?_toArray, List.getElem?_cons_succ, List.getElem?_cons_zero]; exact rfl) (by kernel_rfl) (by kernel_rfl) (by kernel_rfl) (fun _ _ _ h => h) (Or.inr ⟨?_, rfl⟩) (by assumption) ?_; (rfl); try simp only [Act.put, List.setIfInBounds_toArray, List.set_cons_zero, List.set_cons_succ]) | (refine wpAnyH_take (i := 2) (v := ?_) (by simp only [List.getElem?_toArray, List.getElem?_cons_succ, List.getElem?_cons_zero]; exact rfl) (by kernel_rfl) (by kernel_rfl) (by kernel_rfl) (fun _ _ _ h => h) (Or.inl ⟨?_, ?_⟩) (by assumption) ?_; rotate_left; (rfl); (focus (intro w hSw; (try dsimp only at hSw); go_simp; try with_reducible rfl)); try simp only [Act.put, List.setIfInBounds_toArray, List.set_cons_zero, List.set_cons_succ])
            first | (refine wpAnyH_take (i := 3) (v := undef) (by simp only [List.getElem?_toArray, List.getElem?_cons_succ, List.getElem?_cons_zero]; exact rfl) (by kernel_rfl) (by kernel_rfl) (by kernel_rfl) (fun _ _ _ h => h) (Or.inr ⟨?_, rfl⟩) (by assumption) ?_; (rfl); try simp only [Act.put, List.setIfInBounds_toArray, List.set_cons_zero, List.set_cons_succ]) | (refine wpAnyH_take (i := 3) (v := ?_) (by simp only [List.getElem?_toArray, List.getElem?_cons_succ, List.getElem?_cons_zero]; exact rfl) (by kernel_rfl) (by kernel_rfl) (by kernel_rfl) (fun _ _ _ h => h) (Or.inl ⟨?_, ?_⟩) (by assumption) ?_; rotate_left; (rfl); (focus (intro w hSw; (try dsimp only at hSw); go_simp; try with_reducible rfl)); try simp only [Act.put, List.setIfInBounds_toArray, List.set_cons_zero, List.set_cons_succ])
            first | (refine wpAnyH_take (i := 4) (v := undef) (by simp only [List.getElem?_toArray, List.getElem?_cons_succ, List.getElem?_cons_zero]; exact rfl) (by kernel_rfl) (by kernel_rfl) (by kernel_rfl) (fun _ _ _ h => h) (Or.inr ⟨?_, rfl⟩) (by assumption) ?_; (rfl); try simp only [Act.put, List.setIfInBounds_toArray, List.set_cons_zero, List.set_cons_succ]) | (refine wpAnyH_take (i := 4) (v := ?_) (by simp only [List.getElem?_toArray, List.getElem?_cons_succ, List.getElem?_cons_zero]; exact rfl) (by kernel_rfl) (by kernel_rfl) (by kernel_rfl) (fun _ _ _ h => h) (Or.inl ⟨?_, ?_⟩) (by assumption) ?_; rotate_left; (rfl); (focus (intro w hSw; (try dsimp only at hSw); go_simp; try with_reducible rfl)); try simp only [Act.put, List.setIfInBounds_toArray, List.set_cons_zero, List.set_cons_succ])
            first | (refine wpAnyH_take (i := 5) (v := undef) (by simp only [List.getElem?_toArray, List.getElem?_cons_succ, List.getElem?_cons_zero]; exact rfl) (by kernel_rfl) (by kernel_rfl) (by kernel_rfl) (fun _ _ _ h => h) (Or.inr ⟨?_, rfl⟩) (by assumption) ?_; (rfl); try simp only [Act.put, List.setIfInBounds_toArray, List.set_cons_zero, List.set_cons_succ]) | (refine wpAnyH_take (i := 5) (v := ?_) (by simp only [List.getElem?_toArray, List.getElem?_cons_succ, List.getElem?_cons_zero]; exact rfl) (by kernel_rfl) (by kernel_rfl) (by kernel_rfl) (fun _ _ _ h => h) (Or.inl ⟨?_, ?_⟩) (by assumption) ?_; rotate_left; (rfl); (focus (intro w hSw; (try dsimp only at hSw); go_simp; try with_reducible rfl)); try simp only [Act.put, List.setIfInBounds_toArray, List.set_cons_zero, List.set_cons_succ])
            first | (refine wpAnyH_take (i := 6) (v := undef) (by simp only [List.getElem?_toArray, List.getElem?_cons_succ, List.getElem?_cons_zero]; exact rfl) (by kernel_rfl) (by kernel_rfl) (by kernel_rfl) (fun _ _ _ h => h) (Or.inr ⟨?_, rfl⟩) (by assumption) ?_; (rfl); try simp only [Act.put, List.setIfInBounds_toArray, List.set_cons_zero, List.set_cons_succ]) | (refine wpAnyH_take (i := 6) (v := ?_) (by simp only [List.getElem?_toArray, List.getElem?_cons_succ, List.getElem?_cons_zero]; exact rfl) (by kernel_rfl) (by kernel_rfl) (by kernel_rfl) (fun _ _ _ h => h) (Or.inl ⟨?_, ?_⟩) (by assumption) ?_; rotate_left; (rfl); (focus (intro W hSw; have hc0 := (show W.cell? ⟨gL, 0, none⟩ = some (.int .u8 7) from by first | exact hSw.2.2.cell 0 | (rw [← H7.out]; exact hSw.2.2.cell 0)); clear hSw; go_simp; try with_reducible rfl)); try simp only [Act.put, List.setIfInBounds_toArray, List.set_cons_zero, List.set_cons_succ])
            first | (refine wpAnyH_take (i := 7) (v := undef) (by simp only [List.getElem?_toArray, List.getElem?_cons_succ, List.getElem?_cons_zero]; exact rfl) (by kernel_rfl) (by kernel_rfl) (by kernel_rfl) (fun _ _ _ h => h) (Or.inr ⟨?_, rfl⟩) (by assumption) ?_; (rfl); try simp only [Act.put, List.setIfInBounds_toArray, List.set_cons_zero, List.set_cons_succ]) | (refine wpAnyH_take (i := 7) (v := ?_) (by simp only [List.getElem?_toArray, List.getElem?_cons_succ, List.getElem?_cons_zero]; exact rfl) (by kernel_rfl) (by kernel_rfl) (by kernel_rfl) (fun _ _ _ h => h) (Or.inl ⟨?_, ?_⟩) (by assumption) ?_; rotate_left; (rfl); (focus (intro w hSw; (try dsimp only at hSw); go_simp; try with_reducible rfl)); try simp only [Act.put, List.setIfInBounds_toArray, List.set_cons_zero, List.set_cons_succ])
            first | (refine wpAnyH_take (i := 8) (v := undef) (by simp only [List.getElem?_toArray, List.getElem?_cons_succ, List.getElem?_cons_zero]; exact rfl) (by kernel_rfl) (by kernel_rfl) (by kernel_rfl) (fun _ _ _ h => h) (Or.inr ⟨?_, rfl⟩) (by assumption) ?_; (rfl); try simp only [Act.put, List.setIfInBounds_toArray, List.set_cons_zero, List.set_cons_succ]) | (refine wpAnyH_take (i := 8) (v := ?_) (by simp only [List.getElem?_toArray, List.getElem?_cons_succ, List.getElem?_cons_zero]; exact rfl) (by kernel_rfl) (by kernel_rfl) (by kernel_rfl) (fun _ _ _ h => h) (Or.inl ⟨?_, ?_⟩) (by assumption) ?_; rotate_left; (rfl); (focus (intro w hSw; (try dsimp only at hSw); go_simp; try with_reducible rfl)); try simp only [Act.put, List.setIfInBounds_toArray, List.set_cons_zero, List.set_cons_succ])
            first | (refine wpAnyH_take (i := 9) (v := undef) (by simp only [List.getElem?_toArray, List.getElem?_cons_succ, List.getElem?_cons_zero]; exact rfl) (by kernel_rfl) (by kernel_rfl) (by kernel_rfl) (fun _ _ _ h => h) (Or.inr ⟨?_, rfl⟩) (by assumption) ?_; (rfl); try simp only [Act.put, List.setIfInBounds_toArray, List.set_cons_zero, List.set_cons_succ]) | (refine wpAnyH_take (i := 9) (v := ?_) (by simp only [List.getElem?_toArray, List.getElem?_cons_succ, List.getElem?_cons_zero]; exact rfl) (by kernel_rfl) (by kernel_rfl) (by kernel_rfl) (fun _ _ _ h => h) (Or.inl ⟨?_, ?_⟩) (by assumption) ?_; rotate_left; (rfl); (focus (intro w hSw; (try dsimp only at hSw); go_simp; try with_reducible rfl)); try simp only [Act.put, List.setIfInBounds_toArray, List.set_cons_zero, List.set_cons_succ])
            (refine wpAnyH_take (i := 10) (v := undef) (by simp only [List.getElem?_toArray, List.getElem?_cons_succ, List.getElem?_cons_zero]; exact rfl) (by kernel_rfl) (by kernel_rfl) (by kernel_rfl) (fun _ _ _ h => h) (Or.inr ⟨?_, rfl⟩) (by assumption) ?_; (rfl); try simp only [Act.put, List.setIfInBounds_toArray, List.set_cons_zero, List.set_cons_succ])
            (refine wpAnyH_take (i := 11) (v := undef) (by simp only [List.getElem?_toArray, List.getElem?_cons_succ, List.getElem?_cons_zero]; exact rfl) (by kernel_rfl) (by kernel_rfl) (by kernel_rfl) (fun _ _ _ h => h) (Or.inr ⟨?_, rfl⟩) (by assumption) ?_; (rfl); try simp only [Act.put, List.setIfInBounds_toArray, List.set_cons_zero, List.set_cons_succ])
            (refine wpAnyH_take (i := 12) (v := undef) (by simp only [List.getElem?_toArray, List.getElem?_cons_succ, List.getElem?_cons_zero]; exact rfl) (by kernel_rfl) (by kernel_rfl) (by kernel_rfl) (fun _ _ _ h => h) (Or.inr ⟨?_, rfl⟩) (by assumption) ?_; (rfl); try simp only [Act.put, List.setIfInBounds_toArray, List.set_cons_zero, List.set_cons_succ])
            (refine wpAnyH_take (i := 13) (v := undef) (by simp only [List.getElem?_toArray, List.getElem?_cons_succ, List.getElem?_cons_zero]; exact rfl) (by kernel_rfl) (by kernel_rfl) (by kernel_rfl) (fun _ _ _ h => h) (Or.inr ⟨?_, rfl⟩) (by assumption) ?_; (rfl); try simp only [Act.put, List.setIfInBounds_toArray, List.set_cons_zero, List.set_cons_succ])
            (refine wpAnyH_take (i := 14) (v := undef) (by simp only [List.getElem?_toArray, List.getElem?_cons_succ, List.getElem?_cons_zero]; exact rfl) (by kernel_rfl) (by kernel_rfl) (by kernel_rfl) (fun _ _ _ h => h) (Or.inr ⟨?_, rfl⟩) (by assumption) ?_; (rfl); try simp only [Act.put, List.setIfInBounds_toArray, List.set_cons_zero, List.set_cons_succ])
            (refine wpAnyH_take (i := 15) (v := undef) (by simp only [List.getElem?_toArray, List.getElem?_cons_succ, List.getElem?_cons_zero]; exact rfl) (by kernel_rfl) (by kernel_rfl) (by kernel_rfl) (fun _ _ _ h => h) (Or.inr ⟨?_, rfl⟩) (by assumption) ?_; (rfl); try simp only [Act.put, List.setIfInBounds_toArray, List.set_cons_zero, List.set_cons_succ])
            (refine wpAnyH_take (i := 16) (v := undef) (by simp only [List.getElem?_toArray, List.getElem?_cons_succ, List.getElem?_cons_zero]; exact rfl) (by kernel_rfl) (by kernel_rfl) (by kernel_rfl) (fun _ _ _ h => h) (Or.inr ⟨?_, rfl⟩) (by assumption) ?_; (rfl); try simp only [Act.put, List.setIfInBounds_toArray, List.set_cons_zero, List.set_cons_succ])
            first | (refine wpAnyH_take (i := 17) (v := undef) (by simp only [List.getElem?_toArray, List.getElem?_cons_succ, List.getElem?_cons_zero]; exact rfl) (by kernel_rfl) (by kernel_rfl) (by kernel_rfl) (fun _ _ _ h => h) (Or.inr ⟨?_, rfl⟩) (by assumption) ?_; (rfl); try simp only [Act.put, List.setIfInBounds_toArray, List.set_cons_zero, List.set_cons_succ]) | (refine wpAnyH_take (i := 17) (v := ?_) (by simp only [List.getElem?_toArray, List.getElem?_cons_succ, List.getElem?_cons_zero]; exact rfl) (by kernel_rfl) (by kernel_rfl) (by kernel_rfl) (fun _ _ _ h => h) (Or.inl ⟨?_, ?_⟩) (by assumption) ?_; rotate_left; (rfl); (focus (intro w hSw; (try dsimp only at hSw); go_simp; try with_reducible rfl)); try simp only [Act.put, List.setIfInBounds_toArray, List.set_cons_zero, List.set_cons_succ])
            refine wpAnyH_done (by kernel_rfl) ?_ _
            refine NoPanic.normal ?_
            replace XF := hidB (XF.out.on hHeld.2.1)
            replace XV := hidB (XV.out.on hHeld.2.1)
            replace XP := hidB (XP.out.on hHeld.2.1)
            replace GO := hidB (GO.out.on hHeld.2.1)
            replace WL := hidB (WL.out.on hHeld.2.1)
            replace GV := hidB (own_on GV.out hHeld.2.1)
            replace TW := hidB (TW.out.on hHeld.2.1)
            replace B := hidB hHeld.1
            replace BZ := hidB (BZ.out.trans (hHeld.2.1.mono BZ.out.size))
            clear hHeld
            have h7 := H7.out
            have y0 : wd.cell? ⟨gL, 0, none⟩ = some (.int .u8 7) := by rw [← h7]; exact WL.out.cell 0
            rw [hq7] at TW
            go_wp2_with (first | ((with_reducible refine wpId ?_); refine wpList_build_to (by rfl) 36 _ (by rfl) (done0.cs) (by kernel_rfl) ?_))
            refine (task_next (taskS kd f' v' pr args) T .over _ done0 [] wd TW.out trivial ⟨by decide, by decide, by decide⟩ (by decide) (RdL.nil _ _ _)).mono ?_
            rintro e wq ⟨wt2, n2, rfl, _, hnx⟩
            obtain ⟨rfl, rfl, hb⟩ : n2 = 160 ∧ wt2 = WI.zero ∧ Below wd.heap.size wd wq := hnx
            have B9 := hidB (B.out.trans (hb.mono B.out.size))
            have R := hidB (show Bk (wq.alloc (.cells Try.zeroCells45 45)) wq.heap.size 45 WI.zero.cs from Bk.new _ _ _)
            clear hb
            go_wp2_with (first | ((with_reducible refine stId 45 (.tmp 26) (.tmp 143) ?_); refine wpList_store_row (by rfl) 45 (.tmp 26) (.tmp 143) (by rfl) (wq.heap.size) (WI.zero.cs) (by rfl) (by rfl) 45 (WI.zero.cs) (by exact R.out) (by kernel_rfl) (by rfl) (by exact WI.one _ rfl rfl rfl rfl) ?_))
            go_ret
            exact ⟨rfl, below_setRow (B9.out.alloc B9.out.size _) B9.out.size _⟩
          have H7 := hidB h7
          have hk1 : (lw.kd == 7) = false := by rw [beq_eq_false_iff_ne]; exact h7
          have hk2 : (lw.kd != 7) = true := by rw [bne, hk1]; rfl
          have HWN := hidB hwant
          have HQW := hidB hqw
          have HNX := hidB hnx
          clear hwant hqw hnx
          obtain ⟨gl, ol, hpl, hgl, hrow⟩ := HL3.out (by omega)
          subst hpl
          have HGL := hidB hgl
          have HLROW := hidB (hrow j hjl)
          have HOK := hidB (OKS.out _ (List.getElem_mem hjl))
          have HMEM := hidB (List.getElem_mem hjl)
          clear hrow hgl h7
          generalize L0[j]'hjl = e0 at *
          have hj0 : (0 : Int) ≤ (j : Int) := by omega
          have hj3 : j ≤ 4611686018427387904 := by omega
          cases hfit : fitsB lw.kd lw.ask.m e0.1 e0.2
          · have HFIT := hidB hfit
            clear hfit hj1
            go_upto_region 19 with fail
            refine wp_region_noPanic ?_
            refine wp_region_held_drew (S := fun W => Below w0.heap.size w0 W ∧ Below wr.heap.size wr W ∧ Bk W gL 45 lw.cs) (by kernel_rfl) ?_ (fun hHeld => ?_)
            · exact ⟨B.out.drew, (Below.refl _ _).drew, WL.out.drew⟩
            generalize hWd : wr.drew = wd at *
            clear hWd
            first | (refine wpAnyH_take (i := 0) (v := undef) (by simp only [List.getElem?_toArray, List.getElem?_cons_zero]; exact rfl) (by kernel_rfl) (by kernel_rfl) (by kernel_rfl) (fun _ _ _ h => h) (Or.inr ⟨?_, rfl⟩) (by assumption) ?_; (rfl); try simp only [Act.put, List.setIfInBounds_toArray, List.set_cons_zero, List.set_cons_succ]) | (refine wpAnyH_take (i := 0) (v := ?_) (by simp only [List.getElem?_toArray, List.getElem?_cons_zero]; exact rfl) (by kernel_rfl) (by kernel_rfl) (by kernel_rfl) (fun _ _ _ h => h) (Or.inl ⟨?_, ?_⟩) (by assumption) ?_; rotate_left; (rfl); (focus (intro w hSw; (try dsimp only at hSw); go_simp; try with_reducible rfl)); try simp only [Act.put, List.setIfInBounds_toArray, List.set_cons_zero, List.set_cons_succ])
            first | (refine wpAnyH_take (i := 1) (v := undef) (by simp only [List.getElem?_toArray, List.getElem?_cons_succ, List.getElem?_cons_zero]; exact rfl) (by kernel_rfl) (by kernel_rfl) (by kernel_rfl) (fun _ _ _ h => h) (Or.inr ⟨?_, rfl⟩) (by assumption) ?_; (rfl); try simp only [Act.put, List.setIfInBounds_toArray, List.set_cons_zero, List.set_cons_succ]) | (refine wpAnyH_take (i := 1) (v := ?_) (by simp only [List.getElem?_toArray, List.getElem?_cons_succ, List.getElem?_cons_zero]; exact rfl) (by kernel_rfl) (by kernel_rfl) (by kernel_rfl) (fun _ _ _ h => h) (Or.inl ⟨?_, ?_⟩) (by assumption) ?_; rotate_left; (rfl); (focus (intro w hSw; (try dsimp only at hSw); go_simp; try with_reducible rfl)); try simp only [Act.put, List.setIfInBounds_toArray, List.set_cons_zero, List.set_cons_succ])
            first | (refine wpAnyH_take (i := 2) (v := undef) (by simp only [List.getElem?_toArray, List.getElem?_cons_succ, List.getElem?_cons_zero]; exact rfl) (by kernel_rfl) (by kernel_rfl) (by kernel_rfl) (fun _ _ _ h => h) (Or.inr ⟨?_, rfl⟩) (by assumption) ?_; (rfl); try simp only [Act.put, List.setIfInBounds_toArray, List.set_cons_zero, List.set_cons_succ]) | (refine wpAnyH_take (i := 2) (v := ?_) (by simp only [List.getElem?_toArray, List.getElem?_cons_succ, List.getElem?_cons_zero]; exact rfl) (by kernel_rfl) (by kernel_rfl) (by kernel_rfl) (fun _ _ _ h => h) (Or.inl ⟨?_, ?_⟩) (by assumption) ?_; rotate_left; (rfl); (focus (intro w hSw; (try dsimp only at hSw); go_simp; try with_reducible rfl)); try simp only [Act.put, List.setIfInBounds_toArray, List.set_cons_zero, List.set_cons_succ])
            first | (refine wpAnyH_take (i := 3) (v := undef) (by simp only [List.getElem?_toArray, List.getElem?_cons_succ, List.getElem?_cons_zero]; exact rfl) (by kernel_rfl) (by kernel_rfl) (by kernel_rfl) (fun _ _ _ h => h) (Or.inr ⟨?_, rfl⟩) (by assumption) ?_; (rfl); try simp only [Act.put, List.setIfInBounds_toArray, List.set_cons_zero, List.set_cons_succ]) | (refine wpAnyH_take (i := 3) (v := ?_) (by simp only [List.getElem?_toArray, List.getElem?_cons_succ, List.getElem?_cons_zero]; exact rfl) (by kernel_rfl) (by kernel_rfl) (by kernel_rfl) (fun _ _ _ h => h) (Or.inl ⟨?_, ?_⟩) (by assumption) ?_; rotate_left; (rfl); (focus (intro w hSw; (try dsimp only at hSw); go_simp; try with_reducible rfl)); try simp only [Act.put, List.setIfInBounds_toArray, List.set_cons_zero, List.set_cons_succ])
            first | (refine wpAnyH_take (i := 4) (v := undef) (by simp only [List.getElem?_toArray, List.getElem?_cons_succ, List.getElem?_cons_zero]; exact rfl) (by kernel_rfl) (by kernel_rfl) (by kernel_rfl) (fun _ _ _ h => h) (Or.inr ⟨?_, rfl⟩) (by assumption) ?_; (rfl); try simp only [Act.put, List.setIfInBounds_toArray, List.set_cons_zero, List.set_cons_succ]) | (refine wpAnyH_take (i := 4) (v := ?_) (by simp only [List.getElem?_toArray, List.getElem?_cons_succ, List.getElem?_cons_zero]; exact rfl) (by kernel_rfl) (by kernel_rfl) (by kernel_rfl) (fun _ _ _ h => h) (Or.inl ⟨?_, ?_⟩) (by assumption) ?_; rotate_left; (rfl); (focus (intro w hSw; (try dsimp only at hSw); go_simp; try with_reducible rfl)); try simp only [Act.put, List.setIfInBounds_toArray, List.set_cons_zero, List.set_cons_succ])
            first | (refine wpAnyH_take (i := 5) (v := undef) (by simp only [List.getElem?_toArray, List.getElem?_cons_succ, List.getElem?_cons_zero]; exact rfl) (by kernel_rfl) (by kernel_rfl) (by kernel_rfl) (fun _ _ _ h => h) (Or.inr ⟨?_, rfl⟩) (by assumption) ?_; (rfl); try simp only [Act.put, List.setIfInBounds_toArray, List.set_cons_zero, List.set_cons_succ]) | (refine wpAnyH_take (i := 5) (v := ?_) (by simp only [List.getElem?_toArray, List.getElem?_cons_succ, List.getElem?_cons_zero]; exact rfl) (by kernel_rfl) (by kernel_rfl) (by kernel_rfl) (fun _ _ _ h => h) (Or.inl ⟨?_, ?_⟩) (by assumption) ?_; rotate_left; (rfl); (focus (intro w hSw; (try dsimp only at hSw); go_simp; try with_reducible rfl)); try simp only [Act.put, List.setIfInBounds_toArray, List.set_cons_zero, List.set_cons_succ])
            first | (refine wpAnyH_take (i := 6) (v := undef) (by simp only [List.getElem?_toArray, List.getElem?_cons_succ, List.getElem?_cons_zero]; exact rfl) (by kernel_rfl) (by kernel_rfl) (by kernel_rfl) (fun _ _ _ h => h) (Or.inr ⟨?_, rfl⟩) (by assumption) ?_; (rfl); try simp only [Act.put, List.setIfInBounds_toArray, List.set_cons_zero, List.set_cons_succ]) | (refine wpAnyH_take (i := 6) (v := ?_) (by simp only [List.getElem?_toArray, List.getElem?_cons_succ, List.getElem?_cons_zero]; exact rfl) (by kernel_rfl) (by kernel_rfl) (by kernel_rfl) (fun _ _ _ h => h) (Or.inl ⟨?_, ?_⟩) (by assumption) ?_; rotate_left; (rfl); (focus (intro W hSw; have hc0 := (show W.cell? ⟨gL, 0, none⟩ = some (.int .u8 lw.kd) from by first | exact hSw.2.2.cell 0 | (rw [← H7.out]; exact hSw.2.2.cell 0)); clear hSw; go_simp; try with_reducible rfl)); try simp only [Act.put, List.setIfInBounds_toArray, List.set_cons_zero, List.set_cons_succ])
            first | (refine wpAnyH_take (i := 7) (v := undef) (by simp only [List.getElem?_toArray, List.getElem?_cons_succ, List.getElem?_cons_zero]; exact rfl) (by kernel_rfl) (by kernel_rfl) (by kernel_rfl) (fun _ _ _ h => h) (Or.inr ⟨?_, rfl⟩) (by assumption) ?_; (rfl); try simp only [Act.put, List.setIfInBounds_toArray, List.set_cons_zero, List.set_cons_succ]) | (refine wpAnyH_take (i := 7) (v := ?_) (by simp only [List.getElem?_toArray, List.getElem?_cons_succ, List.getElem?_cons_zero]; exact rfl) (by kernel_rfl) (by kernel_rfl) (by kernel_rfl) (fun _ _ _ h => h) (Or.inl ⟨?_, ?_⟩) (by assumption) ?_; rotate_left; (rfl); (focus (intro w hSw; (try dsimp only at hSw); go_simp; try with_reducible rfl)); try simp only [Act.put, List.setIfInBounds_toArray, List.set_cons_zero, List.set_cons_succ])
            first | (refine wpAnyH_take (i := 8) (v := undef) (by simp only [List.getElem?_toArray, List.getElem?_cons_succ, List.getElem?_cons_zero]; exact rfl) (by kernel_rfl) (by kernel_rfl) (by kernel_rfl) (fun _ _ _ h => h) (Or.inr ⟨?_, rfl⟩) (by assumption) ?_; (rfl); try simp only [Act.put, List.setIfInBounds_toArray, List.set_cons_zero, List.set_cons_succ]) | (refine wpAnyH_take (i := 8) (v := ?_) (by simp only [List.getElem?_toArray, List.getElem?_cons_succ, List.getElem?_cons_zero]; exact rfl) (by kernel_rfl) (by kernel_rfl) (by kernel_rfl) (fun _ _ _ h => h) (Or.inl ⟨?_, ?_⟩) (by assumption) ?_; rotate_left; (rfl); (focus (intro w hSw; (try dsimp only at hSw); go_simp; try with_reducible rfl)); try simp only [Act.put, List.setIfInBounds_toArray, List.set_cons_zero, List.set_cons_succ])
            first | (refine wpAnyH_take (i := 9) (v := undef) (by simp only [List.getElem?_toArray, List.getElem?_cons_succ, List.getElem?_cons_zero]; exact rfl) (by kernel_rfl) (by kernel_rfl) (by kernel_rfl) (fun _ _ _ h => h) (Or.inr ⟨?_, rfl⟩) (by assumption) ?_; (rfl); try simp only [Act.put, List.setIfInBounds_toArray, List.set_cons_zero, List.set_cons_succ]) | (refine wpAnyH_take (i := 9) (v := ?_) (by simp only [List.getElem?_toArray, List.getElem?_cons_succ, List.getElem?_cons_zero]; exact rfl) (by kernel_rfl) (by kernel_rfl) (by kernel_rfl) (fun _ _ _ h => h) (Or.inl ⟨?_, ?_⟩) (by assumption) ?_; rotate_left; (rfl); (focus (intro w hSw; (try dsimp only at hSw); go_simp; try with_reducible rfl)); try simp only [Act.put, List.setIfInBounds_toArray, List.set_cons_zero, List.set_cons_succ])
            (refine wpAnyH_take (i := 10) (v := lw.a) (by simp only [List.getElem?_toArray, List.getElem?_cons_succ, List.getElem?_cons_zero]; exact rfl) (by kernel_rfl) (by kernel_rfl) (by kernel_rfl) (fun _ _ _ h => h) (yieldsIf_load_mid (by rfl) 45 (.tmp 21) (by rfl) (gL) (0) (by rfl) (lw.cs.toList) _ (fun W hS => Bk.mid hS.2.2 0 _ rfl) Try.underlying45 (by rfl) (by kernel_rfl)) (by assumption) ?_; try simp only [Act.put, List.setIfInBounds_toArray, List.set_cons_zero, List.set_cons_succ])
            first | (refine wpAnyH_take (i := 11) (v := undef) (by simp only [List.getElem?_toArray, List.getElem?_cons_succ, List.getElem?_cons_zero]; exact rfl) (by kernel_rfl) (by kernel_rfl) (by kernel_rfl) (fun _ _ _ h => h) (Or.inr ⟨?_, rfl⟩) (by assumption) ?_; (rfl); try simp only [Act.put, List.setIfInBounds_toArray, List.set_cons_zero, List.set_cons_succ]) | (refine wpAnyH_take (i := 11) (v := ?_) (by simp only [List.getElem?_toArray, List.getElem?_cons_succ, List.getElem?_cons_zero]; exact rfl) (by kernel_rfl) (by kernel_rfl) (by kernel_rfl) (fun _ _ _ h => h) (Or.inl ⟨?_, ?_⟩) (by assumption) ?_; rotate_left; (rfl); (focus (intro w hSw; (try dsimp only at hSw); go_simp; try with_reducible rfl)); try simp only [Act.put, List.setIfInBounds_toArray, List.set_cons_zero, List.set_cons_succ])
            first | (refine wpAnyH_take (i := 12) (v := undef) (by simp only [List.getElem?_toArray, List.getElem?_cons_succ, List.getElem?_cons_zero]; exact rfl) (by kernel_rfl) (by kernel_rfl) (by kernel_rfl) (fun _ _ _ h => h) (Or.inr ⟨?_, rfl⟩) (by assumption) ?_; (rfl); try simp only [Act.put, List.setIfInBounds_toArray, List.set_cons_zero, List.set_cons_succ]) | (refine wpAnyH_take (i := 12) (v := ?_) (by simp only [List.getElem?_toArray, List.getElem?_cons_succ, List.getElem?_cons_zero]; exact rfl) (by kernel_rfl) (by kernel_rfl) (by kernel_rfl) (fun _ _ _ h => h) (Or.inl ⟨?_, ?_⟩) (by assumption) ?_; rotate_left; (rfl); (focus (intro w hSw; (try dsimp only at hSw); go_simp; try with_reducible rfl)); try simp only [Act.put, List.setIfInBounds_toArray, List.set_cons_zero, List.set_cons_succ])
            first | (refine wpAnyH_take (i := 13) (v := undef) (by simp only [List.getElem?_toArray, List.getElem?_cons_succ, List.getElem?_cons_zero]; exact rfl) (by kernel_rfl) (by kernel_rfl) (by kernel_rfl) (fun _ _ _ h => h) (Or.inr ⟨?_, rfl⟩) (by assumption) ?_; (rfl); try simp only [Act.put, List.setIfInBounds_toArray, List.set_cons_zero, List.set_cons_succ]) | (refine wpAnyH_take (i := 13) (v := ?_) (by simp only [List.getElem?_toArray, List.getElem?_cons_succ, List.getElem?_cons_zero]; exact rfl) (by kernel_rfl) (by kernel_rfl) (by kernel_rfl) (fun _ _ _ h => h) (Or.inl ⟨?_, ?_⟩) (by assumption) ?_; rotate_left; (rfl); (focus (intro w hSw; (try dsimp only at hSw); go_simp; try with_reducible rfl)); try simp only [Act.put, List.setIfInBounds_toArray, List.set_cons_zero, List.set_cons_succ])
            (refine wpAnyH_take (i := 14) (v := e0.1.a) (by simp only [List.getElem?_toArray, List.getElem?_cons_succ, List.getElem?_cons_zero]; exact rfl) (by kernel_rfl) (by kernel_rfl) (by kernel_rfl) (fun _ _ _ h => h) (yieldsIf_load_mid (by rfl) 36 (.tmp 113) (by rfl) (gl) (ol + j * 26) (by rfl) (e0.1.cs.toList) _ (fun W hS => rangeOn hS.1 HGL.out HLROW.out) Try.underlying36 (by rfl) (by kernel_rfl)) (by assumption) ?_; try simp only [Act.put, List.setIfInBounds_toArray, List.set_cons_zero, List.set_cons_succ])
            refine wpAnyH_ready (rs := [15]) (by kernel_rfl) (by simp) ?_
            refine AllReadyH.cons rfl (fun K hK => ?_) AllReadyH.nil
            go_simp
            refine (rmayO_any lw e0.1 e0.2 HOK.out.1 HOK.out.2.1 HOK.out.2.2.1 HOK.out.2.2.2.1 _ (HOK.out.2.2.2.2.on hHeld.1)).mono ?_; rintro e w12 ⟨rfl, hb⟩
            rw [HFIT.out]
            replace hHeld := And.intro (hHeld.1.trans (hb.mono hHeld.1.size)) (And.intro (hHeld.2.1.trans (hb.mono hHeld.2.1.size)) (hHeld.2.2.on hb))
            clear hb
            refine hK.out _ _ hHeld (fun _ => ?_)
            clear hK K
            try simp only [Act.put, List.setIfInBounds_toArray, List.set_cons_zero, List.set_cons_succ]
            first | (refine wpAnyH_take (i := 16) (v := undef) (by simp only [List.getElem?_toArray, List.getElem?_cons_succ, List.getElem?_cons_zero]; exact rfl) (by kernel_rfl) (by kernel_rfl) (by kernel_rfl) (fun _ _ _ h => h) (Or.inr ⟨?_, rfl⟩) (by assumption) ?_; (rfl); try simp only [Act.put, List.setIfInBounds_toArray, List.set_cons_zero, List.set_cons_succ]) | (refine wpAnyH_take (i := 16) (v := ?_) (by simp only [List.getElem?_toArray, List.getElem?_cons_succ, List.getElem?_cons_zero]; exact rfl) (by kernel_rfl) (by kernel_rfl) (by kernel_rfl) (fun _ _ _ h => h) (Or.inl ⟨?_, ?_⟩) (by assumption) ?_; rotate_left; (rfl); (focus (intro w hSw; (try dsimp only at hSw); go_simp; try with_reducible rfl)); try simp only [Act.put, List.setIfInBounds_toArray, List.set_cons_zero, List.set_cons_succ])
            first | (refine wpAnyH_take (i := 17) (v := undef) (by simp only [List.getElem?_toArray, List.getElem?_cons_succ, List.getElem?_cons_zero]; exact rfl) (by kernel_rfl) (by kernel_rfl) (by kernel_rfl) (fun _ _ _ h => h) (Or.inr ⟨?_, rfl⟩) (by assumption) ?_; (rfl); try simp only [Act.put, List.setIfInBounds_toArray, List.set_cons_zero, List.set_cons_succ]) | (refine wpAnyH_take (i := 17) (v := ?_) (by simp only [List.getElem?_toArray, List.getElem?_cons_succ, List.getElem?_cons_zero]; exact rfl) (by kernel_rfl) (by kernel_rfl) (by kernel_rfl) (fun _ _ _ h => h) (Or.inl ⟨?_, ?_⟩) (by assumption) ?_; rotate_left; (rfl); (focus (intro w hSw; (try dsimp only at hSw); go_simp; try with_reducible rfl)); try simp only [Act.put, List.setIfInBounds_toArray, List.set_cons_zero, List.set_cons_succ])
            refine wpAnyH_done (by kernel_rfl) ?_ _
            refine NoPanic.normal ?_
            replace XF := hidB (XF.out.on hHeld.2.1)
            replace XV := hidB (XV.out.on hHeld.2.1)
            replace XP := hidB (XP.out.on hHeld.2.1)
            replace GO := hidB (GO.out.on hHeld.2.1)
            replace WL := hidB (WL.out.on hHeld.2.1)
            replace GV := hidB (own_on GV.out hHeld.2.1)
            replace TW := hidB (TW.out.on hHeld.2.1)
            replace B := hidB hHeld.1
            replace BZ := hidB (BZ.out.trans (hHeld.2.1.mono BZ.out.size))
            clear hHeld
            have HQF := hidB (show q'.few by rw [HQW.out]; show (L.map stripE).length < 899; rw [List.length_map]; have := HLEN.out; omega)
            go_wp2_with (first | ((with_reducible refine ldId 36 (.tmp 122) ?_); refine wpList_load_mid (by rfl) 36 (.tmp 122) (by rfl) gl (ol + j * 26) (by rfl) e0.1.cs.toList _ (by exact rangeOn B.out HGL.out HLROW.out) Try.underlying36 (by rfl) (by kernel_rfl) ?_))
            refine (task_next (taskS kd f' v' pr args) T q' _ e0.1 e0.2 w12 TW.out HQF.out HOK.out.1 HOK.out.2.2.1 (HOK.out.2.2.2.2.on B.out)).mono ?_
            rintro e wq ⟨wt2, n2, rfl, _, hnx⟩
            obtain ⟨rfl, rfl, hb⟩ : n2 = 160 ∧ wt2 = WI.zero ∧ Below w12.heap.size w12 wq := by unfold TNextC at hnx; rw [show nextQ (taskS kd f' v' pr args) e0.1 e0.2 q' = none by rw [HQW.out, HNX.out, HFIT.out]; rfl] at hnx; exact hnx
            have R := hidB (show Bk (wq.alloc (.cells Try.zeroCells45 45)) wq.heap.size 45 WI.zero.cs from Bk.new _ _ _)
            have WK := hidB (show Bk ((wq.alloc (.cells Try.zeroCells45 45)).setRow wq.heap.size WI.zero.cs) wq.heap.size 45 WI.zero.cs from R.out.setRow _)
            have BZ2 := hidB (BZ.out.trans (hb.mono BZ.out.size))
            have BZ3 := hidB (show Below wz.heap.size wz ((wq.alloc (.cells Try.zeroCells45 45)).setRow wq.heap.size WI.zero.cs) from below_setRow (BZ2.out.alloc BZ2.out.size _) BZ2.out.size _)
            clear hb BZ2
            go_upto_region 21 with (first | ((with_reducible refine stId 45 (.tmp 24) (.tmp 125) ?_); refine wpList_store_row (by rfl) 45 (.tmp 24) (.tmp 125) (by rfl) (wq.heap.size) (WI.zero.cs) (by rfl) (by rfl) 45 (WI.zero.cs) (by exact R.out) (by kernel_rfl) (by rfl) (by exact WI.one _ rfl rfl rfl rfl) ?_))
            generalize hW : ((wq.alloc (.cells Try.zeroCells45 45)).setRow wq.heap.size WI.zero.cs) = w24 at *
            clear hW R
            have k0 : w24.cell? ⟨wq.heap.size, 0, none⟩ = some (.int .u8 0) := WK.out.cell 0
            go_wp2_with fail
            go_roundw
            case rel => exact ⟨j + 1, by have := HJ1.out; omega, by have := HJL.out; omega, by go_num, BZ3.out⟩
            case measure => have := HJL.out; simp [intOf]; omega
          · have HFIT := hidB hfit
            clear hfit hj1
            go_upto_region 19 with fail
            refine wp_region_noPanic ?_
            refine wp_region_held_drew (S := fun W => Below w0.heap.size w0 W ∧ Below wr.heap.size wr W ∧ Bk W gL 45 lw.cs) (by kernel_rfl) ?_ (fun hHeld => ?_)
            · exact ⟨B.out.drew, (Below.refl _ _).drew, WL.out.drew⟩
            generalize hWd : wr.drew = wd at *
            clear hWd
            first | (refine wpAnyH_take (i := 0) (v := undef) (by simp only [List.getElem?_toArray, List.getElem?_cons_zero]; exact rfl) (by kernel_rfl) (by kernel_rfl) (by kernel_rfl) (fun _ _ _ h => h) (Or.inr ⟨?_, rfl⟩) (by assumption) ?_; (rfl); try simp only [Act.put, List.setIfInBounds_toArray, List.set_cons_zero, List.set_cons_succ]) | (refine wpAnyH_take (i := 0) (v := ?_) (by simp only [List.getElem?_toArray, List.getElem?_cons_zero]; exact rfl) (by kernel_rfl) (by kernel_rfl) (by kernel_rfl) (fun _ _ _ h => h) (Or.inl ⟨?_, ?_⟩) (by assumption) ?_; rotate_left; (rfl); (focus (intro w hSw; (try dsimp only at hSw); go_simp; try with_reducible rfl)); try simp only [Act.put, List.setIfInBounds_toArray, List.set_cons_zero, List.set_cons_succ])
            first | (refine wpAnyH_take (i := 1) (v := undef) (by simp only [List.getElem?_toArray, List.getElem?_cons_succ, List.getElem?_cons_zero]; exact rfl) (by kernel_rfl) (by kernel_rfl) (by kernel_rfl) (fun _ _ _ h => h) (Or.inr ⟨?_, rfl⟩) (by assumption) ?_; (rfl); try simp only [Act.put, List.setIfInBounds_toArray, List.set_cons_zero, List.set_cons_succ]) | (refine wpAnyH_take (i := 1) (v := ?_) (by simp only [List.getElem?_toArray, List.getElem?_cons_succ, List.getElem?_cons_zero]; exact rfl) (by kernel_rfl) (by kernel_rfl) (by kernel_rfl) (fun _ _ _ h => h) (Or.inl ⟨?_, ?_⟩) (by assumption) ?_; rotate_left; (rfl); (focus (intro w hSw; (try dsimp only at hSw); go_simp; try with_reducible rfl)); try simp only [Act.put, List.setIfInBounds_toArray, List.set_cons_zero, List.set_cons_succ])
            first | (refine wpAnyH_take (i := 2) (v := undef) (by simp only [List.getElem?_toArray, List.getElem?_cons_succ, List.getElem?_cons_zero]; exact rfl) (by kernel_rfl) (by kernel_rfl) (by kernel_rfl) (fun _ _ _ h => h) (Or.inr ⟨?_, rfl⟩) (by assumption) ?_; (rfl); try simp only [Act.put, List.setIfInBounds_toArray, List.set_cons_zero, List.set_cons_succ]) | (refine wpAnyH_take (i := 2) (v := ?_) (by simp only [List.getElem?_toArray, List.getElem?_cons_succ, List.getElem?_cons_zero]; exact rfl) (by kernel_rfl) (by kernel_rfl) (by kernel_rfl) (fun _ _ _ h => h) (Or.inl ⟨?_, ?_⟩) (by assumption) ?_; rotate_left; (rfl); (focus (intro w hSw; (try dsimp only at hSw); go_simp; try with_reducible rfl)); try simp only [Act.put, List.setIfInBounds_toArray, List.set_cons_zero, List.set_cons_succ])
            first | (refine wpAnyH_take (i := 3) (v := undef) (by simp only [List.getElem?_toArray, List.getElem?_cons_succ, List.getElem?_cons_zero]; exact rfl) (by kernel_rfl) (by kernel_rfl) (by kernel_rfl) (fun _ _ _ h => h) (Or.inr ⟨?_, rfl⟩) (by assumption) ?_; (rfl); try simp only [Act.put, List.setIfInBounds_toArray, List.set_cons_zero, List.set_cons_succ]) | (refine wpAnyH_take (i := 3) (v := ?_) (by simp only [List.getElem?_toArray, List.getElem?_cons_succ, List.getElem?_cons_zero]; exact rfl) (by kernel_rfl) (by kernel_rfl) (by kernel_rfl) (fun _ _ _ h => h) (Or.inl ⟨?_, ?_⟩) (by assumption) ?_; rotate_left; (rfl); (focus (intro w hSw; (try dsimp only at hSw); go_simp; try with_reducible rfl)); try simp only [Act.put, List.setIfInBounds_toArray, List.set_cons_zero, List.set_cons_succ])
            first | (refine wpAnyH_take (i := 4) (v := undef) (by simp only [List.getElem?_toArray, List.getElem?_cons_succ, List.getElem?_cons_zero]; exact rfl) (by kernel_rfl) (by kernel_rfl) (by kernel_rfl) (fun _ _ _ h => h) (Or.inr ⟨?_, rfl⟩) (by assumption) ?_; (rfl); try simp only [Act.put, List.setIfInBounds_toArray, List.set_cons_zero, List.set_cons_succ]) | (refine wpAnyH_take (i := 4) (v := ?_) (by simp only [List.getElem?_toArray, List.getElem?_cons_succ, List.getElem?_cons_zero]; exact rfl) (by kernel_rfl) (by kernel_rfl) (by kernel_rfl) (fun _ _ _ h => h) (Or.inl ⟨?_, ?_⟩) (by assumption) ?_; rotate_left; (rfl); (focus (intro w hSw; (try dsimp only at hSw); go_simp; try with_reducible rfl)); try simp only [Act.put, List.setIfInBounds_toArray, List.set_cons_zero, List.set_cons_succ])
            first | (refine wpAnyH_take (i := 5) (v := undef) (by simp only [List.getElem?_toArray, List.getElem?_cons_succ, List.getElem?_cons_zero]; exact rfl) (by kernel_rfl) (by kernel_rfl) (by kernel_rfl) (fun _ _ _ h => h) (Or.inr ⟨?_, rfl⟩) (by assumption) ?_; (rfl); try simp only [Act.put, List.setIfInBounds_toArray, List.set_cons_zero, List.set_cons_succ]) | (refine wpAnyH_take (i := 5) (v := ?_) (by simp only [List.getElem?_toArray, List.getElem?_cons_succ, List.getElem?_cons_zero]; exact rfl) (by kernel_rfl) (by kernel_rfl) (by kernel_rfl) (fun _ _ _ h => h) (Or.inl ⟨?_, ?_⟩) (by assumption) ?_; rotate_left; (rfl); (focus (intro w hSw; (try dsimp only at hSw); go_simp; try with_reducible rfl)); try simp only [Act.put, List.setIfInBounds_toArray, List.set_cons_zero, List.set_cons_succ])
            first | (refine wpAnyH_take (i := 6) (v := undef) (by simp only [List.getElem?_toArray, List.getElem?_cons_succ, List.getElem?_cons_zero]; exact rfl) (by kernel_rfl) (by kernel_rfl) (by kernel_rfl) (fun _ _ _ h => h) (Or.inr ⟨?_, rfl⟩) (by assumption) ?_; (rfl); try simp only [Act.put, List.setIfInBounds_toArray, List.set_cons_zero, List.set_cons_succ]) | (refine wpAnyH_take (i := 6) (v := ?_) (by simp only [List.getElem?_toArray, List.getElem?_cons_succ, List.getElem?_cons_zero]; exact rfl) (by kernel_rfl) (by kernel_rfl) (by kernel_rfl) (fun _ _ _ h => h) (Or.inl ⟨?_, ?_⟩) (by assumption) ?_; rotate_left; (rfl); (focus (intro W hSw; have hc0 := (show W.cell? ⟨gL, 0, none⟩ = some (.int .u8 lw.kd) from by first | exact hSw.2.2.cell 0 | (rw [← H7.out]; exact hSw.2.2.cell 0)); clear hSw; go_simp; try with_reducible rfl)); try simp only [Act.put, List.setIfInBounds_toArray, List.set_cons_zero, List.set_cons_succ])
            first | (refine wpAnyH_take (i := 7) (v := undef) (by simp only [List.getElem?_toArray, List.getElem?_cons_succ, List.getElem?_cons_zero]; exact rfl) (by kernel_rfl) (by kernel_rfl) (by kernel_rfl) (fun _ _ _ h => h) (Or.inr ⟨?_, rfl⟩) (by assumption) ?_; (rfl); try simp only [Act.put, List.setIfInBounds_toArray, List.set_cons_zero, List.set_cons_succ]) | (refine wpAnyH_take (i := 7) (v := ?_) (by simp only [List.getElem?_toArray, List.getElem?_cons_succ, List.getElem?_cons_zero]; exact rfl) (by kernel_rfl) (by kernel_rfl) (by kernel_rfl) (fun _ _ _ h => h) (Or.inl ⟨?_, ?_⟩) (by assumption) ?_; rotate_left; (rfl); (focus (intro w hSw; (try dsimp only at hSw); go_simp; try with_reducible rfl)); try simp only [Act.put, List.setIfInBounds_toArray, List.set_cons_zero, List.set_cons_succ])
            first | (refine wpAnyH_take (i := 8) (v := undef) (by simp only [List.getElem?_toArray, List.getElem?_cons_succ, List.getElem?_cons_zero]; exact rfl) (by kernel_rfl) (by kernel_rfl) (by kernel_rfl) (fun _ _ _ h => h) (Or.inr ⟨?_, rfl⟩) (by assumption) ?_; (rfl); try simp only [Act.put, List.setIfInBounds_toArray, List.set_cons_zero, List.set_cons_succ]) | (refine wpAnyH_take (i := 8) (v := ?_) (by simp only [List.getElem?_toArray, List.getElem?_cons_succ, List.getElem?_cons_zero]; exact rfl) (by kernel_rfl) (by kernel_rfl) (by kernel_rfl) (fun _ _ _ h => h) (Or.inl ⟨?_, ?_⟩) (by assumption) ?_; rotate_left; (rfl); (focus (intro w hSw; (try dsimp only at hSw); go_simp; try with_reducible rfl)); try simp only [Act.put, List.setIfInBounds_toArray, List.set_cons_zero, List.set_cons_succ])
            first | (refine wpAnyH_take (i := 9) (v := undef) (by simp only [List.getElem?_toArray, List.getElem?_cons_succ, List.getElem?_cons_zero]; exact rfl) (by kernel_rfl) (by kernel_rfl) (by kernel_rfl) (fun _ _ _ h => h) (Or.inr ⟨?_, rfl⟩) (by assumption) ?_; (rfl); try simp only [Act.put, List.setIfInBounds_toArray, List.set_cons_zero, List.set_cons_succ]) | (refine wpAnyH_take (i := 9) (v := ?_) (by simp only [List.getElem?_toArray, List.getElem?_cons_succ, List.getElem?_cons_zero]; exact rfl) (by kernel_rfl) (by kernel_rfl) (by kernel_rfl) (fun _ _ _ h => h) (Or.inl ⟨?_, ?_⟩) (by assumption) ?_; rotate_left; (rfl); (focus (intro w hSw; (try dsimp only at hSw); go_simp; try with_reducible rfl)); try simp only [Act.put, List.setIfInBounds_toArray, List.set_cons_zero, List.set_cons_succ])
            (refine wpAnyH_take (i := 10) (v := lw.a) (by simp only [List.getElem?_toArray, List.getElem?_cons_succ, List.getElem?_cons_zero]; exact rfl) (by kernel_rfl) (by kernel_rfl) (by kernel_rfl) (fun _ _ _ h => h) (yieldsIf_load_mid (by rfl) 45 (.tmp 21) (by rfl) (gL) (0) (by rfl) (lw.cs.toList) _ (fun W hS => Bk.mid hS.2.2 0 _ rfl) Try.underlying45 (by rfl) (by kernel_rfl)) (by assumption) ?_; try simp only [Act.put, List.setIfInBounds_toArray, List.set_cons_zero, List.set_cons_succ])
            first | (refine wpAnyH_take (i := 11) (v := undef) (by simp only [List.getElem?_toArray, List.getElem?_cons_succ, List.getElem?_cons_zero]; exact rfl) (by kernel_rfl) (by kernel_rfl) (by kernel_rfl) (fun _ _ _ h => h) (Or.inr ⟨?_, rfl⟩) (by assumption) ?_; (rfl); try simp only [Act.put, List.setIfInBounds_toArray, List.set_cons_zero, List.set_cons_succ]) | (refine wpAnyH_take (i := 11) (v := ?_) (by simp only [List.getElem?_toArray, List.getElem?_cons_succ, List.getElem?_cons_zero]; exact rfl) (by kernel_rfl) (by kernel_rfl) (by kernel_rfl) (fun _ _ _ h => h) (Or.inl ⟨?_, ?_⟩) (by assumption) ?_; rotate_left; (rfl); (focus (intro w hSw; (try dsimp only at hSw); go_simp; try with_reducible rfl)); try simp only [Act.put, List.setIfInBounds_toArray, List.set_cons_zero, List.set_cons_succ])
            first | (refine wpAnyH_take (i := 12) (v := undef) (by simp only [List.getElem?_toArray, List.getElem?_cons_succ, List.getElem?_cons_zero]; exact rfl) (by kernel_rfl) (by kernel_rfl) (by kernel_rfl) (fun _ _ _ h => h) (Or.inr ⟨?_, rfl⟩) (by assumption) ?_; (rfl); try simp only [Act.put, List.setIfInBounds_toArray, List.set_cons_zero, List.set_cons_succ]) | (refine wpAnyH_take (i := 12) (v := ?_) (by simp only [List.getElem?_toArray, List.getElem?_cons_succ, List.getElem?_cons_zero]; exact rfl) (by kernel_rfl) (by kernel_rfl) (by kernel_rfl) (fun _ _ _ h => h) (Or.inl ⟨?_, ?_⟩) (by assumption) ?_; rotate_left; (rfl); (focus (intro w hSw; (try dsimp only at hSw); go_simp; try with_reducible rfl)); try simp only [Act.put, List.setIfInBounds_toArray, List.set_cons_zero, List.set_cons_succ])
            first | (refine wpAnyH_take (i := 13) (v := undef) (by simp only [List.getElem?_toArray, List.getElem?_cons_succ, List.getElem?_cons_zero]; exact rfl) (by kernel_rfl) (by kernel_rfl) (by kernel_rfl) (fun _ _ _ h => h) (Or.inr ⟨?_, rfl⟩) (by assumption) ?_; (rfl); try simp only [Act.put, List.setIfInBounds_toArray, List.set_cons_zero, List.set_cons_succ]) | (refine wpAnyH_take (i := 13) (v := ?_) (by simp only [List.getElem?_toArray, List.getElem?_cons_succ, List.getElem?_cons_zero]; exact rfl) (by kernel_rfl) (by kernel_rfl) (by kernel_rfl) (fun _ _ _ h => h) (Or.inl ⟨?_, ?_⟩) (by assumption) ?_; rotate_left; (rfl); (focus (intro w hSw; (try dsimp only at hSw); go_simp; try with_reducible rfl)); try simp only [Act.put, List.setIfInBounds_toArray, List.set_cons_zero, List.set_cons_succ])
            (refine wpAnyH_take (i := 14) (v := e0.1.a) (by simp only [List.getElem?_toArray, List.getElem?_cons_succ, List.getElem?_cons_zero]; exact rfl) (by kernel_rfl) (by kernel_rfl) (by kernel_rfl) (fun _ _ _ h => h) (yieldsIf_load_mid (by rfl) 36 (.tmp 113) (by rfl) (gl) (ol + j * 26) (by rfl) (e0.1.cs.toList) _ (fun W hS => rangeOn hS.1 HGL.out HLROW.out) Try.underlying36 (by rfl) (by kernel_rfl)) (by assumption) ?_; try simp only [Act.put, List.setIfInBounds_toArray, List.set_cons_zero, List.set_cons_succ])
            refine wpAnyH_ready (rs := [15]) (by kernel_rfl) (by simp) ?_
            refine AllReadyH.cons rfl (fun K hK => ?_) AllReadyH.nil
            go_simp
            refine (rmayO_any lw e0.1 e0.2 HOK.out.1 HOK.out.2.1 HOK.out.2.2.1 HOK.out.2.2.2.1 _ (HOK.out.2.2.2.2.on hHeld.1)).mono ?_; rintro e w12 ⟨rfl, hb⟩
            rw [HFIT.out]
            replace hHeld := And.intro (hHeld.1.trans (hb.mono hHeld.1.size)) (And.intro (hHeld.2.1.trans (hb.mono hHeld.2.1.size)) (hHeld.2.2.on hb))
            clear hb
            refine hK.out _ _ hHeld (fun _ => ?_)
            clear hK K
            try simp only [Act.put, List.setIfInBounds_toArray, List.set_cons_zero, List.set_cons_succ]
            first | (refine wpAnyH_take (i := 16) (v := undef) (by simp only [List.getElem?_toArray, List.getElem?_cons_succ, List.getElem?_cons_zero]; exact rfl) (by kernel_rfl) (by kernel_rfl) (by kernel_rfl) (fun _ _ _ h => h) (Or.inr ⟨?_, rfl⟩) (by assumption) ?_; (rfl); try simp only [Act.put, List.setIfInBounds_toArray, List.set_cons_zero, List.set_cons_succ]) | (refine wpAnyH_take (i := 16) (v := ?_) (by simp only [List.getElem?_toArray, List.getElem?_cons_succ, List.getElem?_cons_zero]; exact rfl) (by kernel_rfl) (by kernel_rfl) (by kernel_rfl) (fun _ _ _ h => h) (Or.inl ⟨?_, ?_⟩) (by assumption) ?_; rotate_left; (rfl); (focus (intro w hSw; (try dsimp only at hSw); go_simp; try with_reducible rfl)); try simp only [Act.put, List.setIfInBounds_toArray, List.set_cons_zero, List.set_cons_succ])
            first | (refine wpAnyH_take (i := 17) (v := undef) (by simp only [List.getElem?_toArray, List.getElem?_cons_succ, List.getElem?_cons_zero]; exact rfl) (by kernel_rfl) (by kernel_rfl) (by kernel_rfl) (fun _ _ _ h => h) (Or.inr ⟨?_, rfl⟩) (by assumption) ?_; (rfl); try simp only [Act.put, List.setIfInBounds_toArray, List.set_cons_zero, List.set_cons_succ]) | (refine wpAnyH_take (i := 17) (v := ?_) (by simp only [List.getElem?_toArray, List.getElem?_cons_succ, List.getElem?_cons_zero]; exact rfl) (by kernel_rfl) (by kernel_rfl) (by kernel_rfl) (fun _ _ _ h => h) (Or.inl ⟨?_, ?_⟩) (by assumption) ?_; rotate_left; (rfl); (focus (intro w hSw; (try dsimp only at hSw); go_simp; try with_reducible rfl)); try simp only [Act.put, List.setIfInBounds_toArray, List.set_cons_zero, List.set_cons_succ])
            refine wpAnyH_done (by kernel_rfl) ?_ _
            refine NoPanic.normal ?_
            replace XF := hidB (XF.out.on hHeld.2.1)
            replace XV := hidB (XV.out.on hHeld.2.1)
            replace XP := hidB (XP.out.on hHeld.2.1)
            replace GO := hidB (GO.out.on hHeld.2.1)
            replace WL := hidB (WL.out.on hHeld.2.1)
            replace GV := hidB (own_on GV.out hHeld.2.1)
            replace TW := hidB (TW.out.on hHeld.2.1)
            replace B := hidB hHeld.1
            replace BZ := hidB (BZ.out.trans (hHeld.2.1.mono BZ.out.size))
            clear hHeld
            have y0 : w12.cell? ⟨gL, 0, none⟩ = some (.int .u8 lw.kd) := WL.out.cell 0
            have hk7 := hk1
            have KS := hidB (show Kept (fun b => b = w.heap.size + 1 + 1 + 1) w12 (w12.setRow (w.heap.size + 1 + 1 + 1) e0.1.cs) from Kept.setRow (S := fun b => b = w.heap.size + 1 + 1 + 1) (Kept.refl _ _) (.inl rfl) _)
            have G4 := hidB (GO.out.setRow e0.1.cs)
            replace XF := hidB (XF.out.kept KS.out (by omega))
            replace XV := hidB (XV.out.kept KS.out (by omega))
            replace XP := hidB (XP.out.kept KS.out (by omega))
            replace GV := hidB (own_kept GV.out KS.out (fun k hk' h => absurd (GV.out.lt k hk').1 (by have : k = w.heap.size + 1 + 1 + 1 := h; omega)))
            have HNG := hidB (show ∀ k, (A k ∨ (s0 ≤ k ∧ k < mid)) → k ≠ w.heap.size + 1 + 1 + 1 from fun k hk h => by have := (HFA2.out k hk).1; omega)
            replace TW := hidB (TW.out.keep KS.out.size (fun k hk => KS.out.block k (TW.out.lt k hk) (HNG.out k hk)))
            have BX := hidB (show Below w0.heap.size w0 (w12.setRow (w.heap.size + 1 + 1 + 1) e0.1.cs) from below_setRow B.out (by have h1 := HWW.out; omega) _)
            go_upto_region 29 with (first | ((with_reducible refine ldId 36 (.tmp 153) ?_); refine wpList_load_mid (by rfl) 36 (.tmp 153) (by rfl) gl (ol + j * 26) (by rfl) e0.1.cs.toList _ (by exact rangeOn B.out HGL.out HLROW.out) Try.underlying36 (by rfl) (by kernel_rfl) ?_) | ((with_reducible refine stId 36 (.tmp 16) (.tmp 154) ?_); refine wpList_store_row (by rfl) 36 (.tmp 16) (.tmp 154) (by rfl) (w.heap.size + 1 + 1 + 1) (e0.1.cs) (by rfl) (by rfl) 36 (x.cs) (by exact GO.out) (by kernel_rfl) (by rfl) (by exact OI.one _ HOK.out.2.2.2.2.one) ?_))
            generalize hW : (w12.setRow (w.heap.size + 1 + 1 + 1) e0.1.cs) = w14 at *
            clear hW GO WL KS B BZ y0
            obtain ⟨i0, hi0, hz0, hz1, hz2⟩ := info_parts info_outB
            have HQF := hidB (show q'.few by rw [HQW.out]; show (L.map stripE).length < 899; rw [List.length_map]; have := HLEN.out; omega)
            go_wp2_with (first | ((with_reducible refine ldId 36 (.tmp 16) ?_); refine wpList_load_row (by rfl) 36 (.tmp 16) (by rfl) (w.heap.size + 1 + 1 + 1) (by rfl) 36 (e0.1.cs) (0, 0) _ (by exact G4.out) Try.underlying36 (by rfl) (by kernel_rfl) ?_) | ((with_reducible refine wpId ?_); refine wpList_mkSlice (by rfl) 26 36 1 26 _ (by rfl) [(0, e0.1.a)] (by kernel_rfl) (.agg OI.zero.cs) e0.1.cs Try.underlying26 (by kernel_rfl) (by decide) (by decide) (by kernel_rfl) ?_; have HNB := hidB (Bk.new w14 36 e0.1.cs); replace XF := hidB (XF.out.on (box_one w14 (.cells e0.1.cs 36))); replace XV := hidB (XV.out.on (box_one w14 (.cells e0.1.cs 36))); replace XP := hidB (XP.out.on (box_one w14 (.cells e0.1.cs 36))); replace G4 := hidB (G4.out.on (box_one w14 (.cells e0.1.cs 36))); replace GV := hidB (own_on GV.out (box_one w14 (.cells e0.1.cs 36))); replace TW := hidB (TW.out.on (box_one w14 (.cells e0.1.cs 36))); replace BX := hidB (BX.out.trans (Below.mono (box_one w14 (.cells e0.1.cs 36)) BX.out.size)); generalize hW5 : (w14.alloc (.cells e0.1.cs 36)) = w15 at *; clear hW5; generalize w14.heap.size = gN at *) | (at_builtin; refine wpList_append_in1 (by rfl) (.tmp 155) (.tmp 157) 26 (by rfl) (w.heap.size + 1 + 1 + 1 + 1) 36 i0 _ 26 240 Try.underlying26 hi0 hz0 hz1 hz2 (by rfl) (by decide) (.slice qv L.length cv) L.length _ (by rfl) GV.out ⟨gN, 0, none⟩ 1 1 e0.1.cs.toList (by rfl) (by rfl) (bk_cells HNB.out) (fun u hu => (Array.all_eq_true_iff_forall_mem.1 (OI.one _ HOK.out.2.2.2.2.one)) u (Array.mem_toList_iff.1 hu)) (by unfold maxLen; have := HLEN.out; omega) (by have := HLEN.out; omega) (by have := G4.out.lt; omega) ?_; intro v' w16 hown' hgrow hblk; replace XF := hidB (Bk.grown XF.out hgrow (fun h => absurd (GV.out.lt _ h).1 (by omega))); replace XV := hidB (Bk.grown XV.out hgrow (fun h => absurd (GV.out.lt _ h).1 (by omega))); replace XP := hidB (Bk.grown XP.out hgrow (fun h => absurd (GV.out.lt _ h).1 (by omega))); replace G4 := hidB (Bk.grown G4.out hgrow (fun h => absurd (GV.out.lt _ h).1 (by omega))); have HFA3 := hidB (show ∀ k, (A k ∨ (s0 ≤ k ∧ k < mid)) → (k < w.heap.size ∨ w.heap.size + 1 + 1 + 1 < k) ∧ v'.ownBlock ≠ some k from fun k hk => ⟨(HFA2.out k hk).1, fun h => by rcases hblk k h with h1 | h1; exact (HFA2.out k hk).2 h1; exact absurd (TW.out.lt k hk) (by omega)⟩); replace TW := hidB (TW.out.keep hgrow.size (fun k hk => hgrow.block k (TW.out.lt k hk) (fun e => (HFA2.out k hk).2 e.symm))); have B := hidB (below_grown BX.out (Nat.le_refl _) hgrow (fun k hk => by have h1 := (GV.out.lt k hk).1; have h2 := HWW.out; omega)); have GO := hidB G4.out; have GV2 := hidB (show w16.ownsRow (w.heap.size + 1 + 1 + 1 + 1) 36 26 v' (L ++ [e0]).length ((L ++ [e0]).flatMap fun e => e.1.cs.toList) from by rw [List.length_append, List.length_singleton, List.flatMap_append, List.flatMap_singleton]; exact hown'); clear hown' hgrow hblk BX G4))
            go_roundw
            case rel => exact ⟨j + 1, by go_num, by have := HJL.out; omega, _, q', L ++ [e0], e0.1, e0.2, ⟨B.out, XF.out, XV.out, XP.out, GO.out, GV2.out, TW.out, HLO2.out, HFA3.out, (fun e he => by rcases List.mem_append.1 he with h | h; exact HI.out.mem e h; rw [List.mem_singleton.1 h]; exact ⟨HMEM.out, (fits_two HFIT.out).1⟩), (by rw [List.length_append, List.length_singleton]; have h1 := HI.out.len; have h2 := HJ1.out; omega), (pend_snoc HI.out.pend HWN.out e0), HQF.out, HOK.out.1, HOK.out.2.2.1, (fun W hb => HOK.out.2.2.2.2.on hb), (fun _ => by rw [HQW.out, HNX.out, HFIT.out, List.map_append]; rfl)⟩⟩
            case measure => have := HJ1.out; have := HJL.out; simp [intOf]; omega

end Go.Proofs.Ytbkjbpefbdoenaa
