/-
  Get along the prototypes, plainly: the steps of its run.
  The heap of alive, and its run, plainly.
-/
import Derived.Test.YtbmaodlghglopaaGreatDoorMxNA
namespace Go.Proofs.YtbmaodlghglopaaGreatDoor
open Go.RowKit

/-! ### what a heap that may be has -/
theorem chk_plain {h : HI} (hc : chkH h = 0) {x : Nat} (hx : x < h.length) (hk : (h[x]'hx).1.kd = 1) : tabE (h[x]'hx).2 = 0 ∧ (h[x]'hx).2.all (propB h) = true := by
  have ho := allO_at (chkH_ok hc).2.1 hx hx
  unfold objB at ho
  rw [if_neg (by rw [hk]; decide)] at ho
  unfold plainB bad7 at ho
  simp only [Bool.and_eq_true, Bool.not_eq_true', Bool.or_eq_false_iff, Bool.not_eq_false', beq_iff_eq] at ho
  exact ⟨ho.2.1.2.2, ho.2.2.1⟩
theorem chk_pr {h : HI} (hc : chkH h = 0) {x : Nat} (hx : x < h.length) (hp : isObj (h[x]'hx).1.pr.k = true) : 0 ≤ (h[x]'hx).1.pr.r ∧ (h[x]'hx).1.pr.r < (h.length : Int) := by
  rcases pr_of (allO_at (chkH_ok hc).2.1 hx hx) with h1 | ⟨h1, h2⟩
  · rw [beq_iff_eq] at h1; rw [h1] at hp; exact absurd hp (by decide)
  · exact inB_ref h2 h1
theorem tabG_in : ∀ (l : List PI) (seen : List KI), tabG seen l = 0 → ∀ q ∈ l, q.d.isW = true
  | [], _, _, q, hq => absurd hq (by simp)
  | y :: l, seen, h0, q, hq => by
    rw [tabG] at h0
    by_cases he : y.err seen = 0
    · rw [if_pos he] at h0
      rcases List.mem_cons.1 hq with rfl | hq
      · unfold PI.err at he
        cases hk : q.k.ok
        · rw [hk] at he; simp at he
        · cases hw : q.d.isW
          · rw [hk, hw] at he; simp at he
          · rfl
      · exact tabG_in l _ h0 q hq
    · rw [if_neg he] at h0; exact absurd h0 he
theorem tabE_in {l : List PI} (h : tabE l = 0) : ∀ q ∈ l, q.d.isW = true := by
  unfold tabE at h
  split at h
  · cases h
  · exact tabG_in l [] h
theorem isW_parts {d : DI} (h : d.isW = true) (hd : (bits .and .u8 d.has 3 != 0) = true) : (bits .and .u8 d.has 12 != 0) = false ∧ d.v.may = true := by
  unfold DI.isW DI.err at h
  simp only [Bool.and_eq_true, beq_iff_eq] at h
  have h1 := h.1
  cases hb : d.bad1
  · unfold DI.bad1 DI.data DI.acc hasB at hb
    rw [hd] at hb
    simp only [Bool.or_eq_false_iff, Bool.true_and, Bool.not_eq_false'] at hb
    exact ⟨hb.1.1.1.2, hb.1.1.2⟩
  · rw [hb] at h1; simp at h1
theorem isW_may {d : DI} (h : d.isW = true) : d.v.may = true := by
  unfold DI.isW DI.err at h
  simp only [Bool.and_eq_true, beq_iff_eq] at h
  have h1 := h.1
  cases hb : d.bad1
  · unfold DI.bad1 at hb
    simp only [Bool.or_eq_false_iff, Bool.not_eq_false'] at hb
    exact hb.1.1.2
  · rw [hb] at h1; simp at h1
theorem findP_mem {l : List PI} {k : KI} {q : PI} (h : findP l k = some q) : q ∈ l := List.mem_of_find?_eq_some h
/-! ### the way -/
/-- From n, i prototypes on, all of them plain and without the key. -/
def WayP (h : HI) (k : KI) : Nat → Nat → Nat → Prop
  | 0, n, x => n = x
  | i + 1, n, x => ∃ hn : n < h.length, (h[n]'hn).1.kd = 1 ∧ findP (h[n]'hn).2 k = none ∧ isObj (h[n]'hn).1.pr.k = true ∧ WayP h k i (h[n]'hn).1.pr.r.toNat x
theorem WayP.snoc {h : HI} {k : KI} : ∀ {i n x : Nat}, WayP h k i n x → ∀ hx : x < h.length, (h[x]'hx).1.kd = 1 → findP (h[x]'hx).2 k = none → isObj (h[x]'hx).1.pr.k = true → WayP h k (i + 1) n (h[x]'hx).1.pr.r.toNat
  | 0, n, x, hw, hx, h1, h2, h3 => by obtain rfl : n = x := hw; exact ⟨hx, h1, h2, h3, rfl⟩
  | i + 1, n, x, ⟨hn, a1, a2, a3, a4⟩, hx, h1, h2, h3 => ⟨hn, a1, a2, a3, WayP.snoc a4 hx h1 h2 h3⟩
theorem itN_first {h : HI} {n y : Nat} (hy : nx h n = some y) (i : Nat) : itN h n (i + 1) = itN h y i := by
  rw [Nat.add_comm, itN_add, show itN h n 1 = nx h n from rfl, hy]; rfl
theorem WayP.it {h : HI} {k : KI} : ∀ {i n x : Nat}, WayP h k i n x → itN h n i = some x
  | 0, n, x, hw => by obtain rfl : n = x := hw; rfl
  | i + 1, n, x, ⟨hn, a1, a2, a3, a4⟩ => by
    rw [itN_first (y := (h[n]'hn).1.pr.r.toNat) ?_ i]
    · exact WayP.it a4
    · rw [nx_at hn, if_neg]
      intro hk
      rw [beq_iff_eq] at hk
      rw [hk] at a3
      exact absurd a3 (by decide)
/-- No way goes on for more steps than there are objects. -/
theorem WayP.short {h : HI} {k : KI} (hc : chkH h = 0) {i n x : Nat} (hn : n < h.length) (hw : WayP h k i n x) : i < h.length := by
  have hg := (good_of (chkH_ok hc).2.1).1
  obtain ⟨d, hd⟩ := (lpB_no hg).1 (chkH_ok hc).2.2 n hn
  obtain ⟨e, _, rfl⟩ := hd.step hw.it
  have := hd.lt hg hn
  omega
/-- What the nearest object has. -/
def EndV (h : HI) (k : KI) (x : Nat) (v : VI) : Prop := ∃ hx : x < h.length, (h[x]'hx).1.kd = 1 ∧ ((∃ q, findP (h[x]'hx).2 k = some q ∧ (bits .and .u8 q.d.has 3 != 0) = true ∧ v = q.d.v) ∨ (findP (h[x]'hx).2 k = none ∧ isObj (h[x]'hx).1.pr.k = false ∧ v = VI.zero))
theorem EndV.may {h : HI} (hok : HOk h) (hc : chkH h = 0) {k : KI} {x : Nat} {v : VI} (he : EndV h k x v) : v.may = true ∧ 0 ≤ v.k := by
  obtain ⟨hx, hk, ⟨q, hq, hd, rfl⟩ | ⟨_, _, rfl⟩⟩ := he
  · exact ⟨isW_may (tabE_in (chk_plain hc hx hk).1 q (findP_mem hq)), ((hok _ (List.getElem_mem hx)).2 q (findP_mem hq)).1⟩
  · exact ⟨by kernel_rfl, Int.le_refl 0⟩
/-! ### the run -/
theorem fits_done {v : VI} (hv : v.may = true) : fitsB 1 8 (doneI v) [] = true := by
  unfold fitsB bad1 bad2 bad3
  have e : DI.zero.isZ = true := by kernel_rfl
  have m : VI.zero.may = true := by kernel_rfl
  simp only [doneI, hv]
  rw [e, show DI.zero.v.may = true from m, show DI.zero.g.may = true from m, show DI.zero.t.may = true from m]
  simp [show (⟨#[]⟩ : ByteArray).toList = [] from by kernel_rfl]
theorem good_up {h : HI} {v : VI} (hv : v.may = true) (h0 : 0 ≤ v.k) {a b : AI} {lv : Int} {st : List Ent} {n : Nat} {res : OI} {k : Nat} (hm : a.m = 8) (ho : a.args.oneCell' = true) (hb : b.m = 8) (ih : Good h n st (doneI v) res k) : Good h (n + 1) (⟨a, lv, some (onceS b, .wait [])⟩ :: st) (doneI v) res (k + 1) := by
  refine ⟨⟨rfl, rfl, ⟨Int.le_refl 0, Int.le_refl 0, Int.le_refl 0⟩, h0⟩, .inr hm, ho, ?_⟩
  refine ⟨show (0 : Nat) < 899 by decide, [((doneI v).put vNil, [])], ?_, ?_, rfl, rfl, k, rfl, ?_⟩
  · show (if fitsB 1 b.m (doneI v) [] then _ else _) = _
    rw [hb, fits_done hv]; rfl
  · show (1 : Int) ≠ 0
    decide
  · show Good h n st (toldI a.m _) _ _
    rw [hm]; exact ih
theorem beg_end {h : HI} {a : AI} {x : Nat} {v : VI} (he : EndV h a.k x v) : ∃ hx : x < h.length, alongB (h[x]'hx) a = .now (doneI v) := by
  obtain ⟨hx, hk, ⟨q, hq, hd, rfl⟩ | ⟨hq, hp, rfl⟩⟩ := he
  · exact ⟨hx, by unfold alongB alongV; rw [hq]⟩
  · exact ⟨hx, by unfold alongB alongV; rw [hq]; simp [hp]⟩
theorem beg_way {e : OJ × List PI} {a : AI} (hq : findP e.2 a.k = none) (hp : isObj e.1.pr.k = true) : alongB e a = .tk (fun S => S = onceS { a with ob := e.1.pr.r }) := by
  unfold alongB alongV; rw [hq]; simp [hp]
theorem BegOK.get {h : HI} (hc : chkH h = 0) {a : AI} {x : Nat} (hx : x < h.length) (hk : (h[x]'hx).1.kd = 1) (hm : a.m = 8) (ho : a.ob = x) (h1 : a.args.oneCell' = true) (hd : ∀ q, findP (h[x]'hx).2 a.k = some q → (bits .and .u8 q.d.has 3 != 0) = true) : BegOK h a (alongB (h[x]'hx) a) :=
  ⟨x, hx, ho, h1, .inl ⟨hm, hk, fun q hq => ⟨hd q hq, (isW_parts (tabE_in (chk_plain hc hx hk).1 q (findP_mem hq)) (hd q hq)).1⟩, rfl⟩⟩
theorem good_down {h : HI} (hok : HOk h) (hc : chkH h = 0) {v : VI} {res : OI} : ∀ (i : Nat) (a : AI) (x y : Nat) (lv : Int) (st : List Ent) (n n0 k : Nat), a.m = 8 → a.ob = x → a.args.oneCell' = true → WayP h a.k i x y → EndV h a.k y v → 0 ≤ lv → lv + i ≤ 64 → (∀ m, n0 < m → Good h m st (doneI v) res k) → n0 + 2 * i + 1 < n →
    ∃ hx : x < h.length, BegOK h a (alongB (h[x]'hx) a) ∧ ∀ tk, begK (alongB (h[x]'hx) a) tk → Good h n (⟨a, lv, tk⟩ :: st) (begO (alongB (h[x]'hx) a)) res (k + 1 + i)
  | i, a, x, y, lv, st, 0, n0, k, _, _, _, _, _, _, _, _, hn => absurd hn (by omega)
  | 0, a, x, y, lv, st, n + 1, n0, k, hm, ho, h1, hw, he, hl, hl2, hs, hn => by
    obtain rfl : x = y := hw
    obtain ⟨hx, hb⟩ := beg_end he
    have hme := he.may hok hc
    have hk : (h[x]'hx).1.kd = 1 := he.2.1
    refine ⟨hx, BegOK.get hc hx hk hm ho h1 ?_, ?_⟩
    · intro q hq
      obtain ⟨_, _, ⟨q', hq', hd, _⟩ | ⟨hq', _⟩⟩ := he
      · rw [hq] at hq'; cases hq'; exact hd
      · rw [hq] at hq'; cases hq'
    · rw [hb]
      intro tk ht
      obtain rfl : tk = none := ht
      refine ⟨⟨rfl, rfl, ⟨Int.le_refl 0, Int.le_refl 0, Int.le_refl 0⟩, hme.2⟩, .inr hm, h1, k, rfl, ?_⟩
      show Good h n st (toldI a.m (doneI v)) _ _
      rw [hm]
      exact hs n (by omega)
  | i + 1, a, x, y, lv, st, n + 1, n0, k, hm, ho, h1, ⟨hx, hk, hq, hp, hw⟩, he, hl, hl2, hs, hn => by
    have hr := chk_pr hc hx hp
    have hrn : (((h[x]'hx).1.pr.r.toNat : Nat) : Int) = (h[x]'hx).1.pr.r := Int.toNat_of_nonneg hr.1
    have hb := beg_way (a := a) hq hp
    have hme := he.may hok hc
    refine ⟨hx, BegOK.get hc hx hk hm ho h1 (fun q h2 => by rw [hq] at h2; cases h2), ?_⟩
    rw [hb]
    rintro tk ⟨S', rfl, rfl⟩
    obtain ⟨hx2, hb2, hg2⟩ := good_down hok hc i { a with ob := (h[x]'hx).1.pr.r } (h[x]'hx).1.pr.r.toNat y (lv + 1) (⟨a, lv, some (onceS { a with ob := (h[x]'hx).1.pr.r }, .wait [])⟩ :: st) n (n0 + 1) (k + 1) hm hrn.symm h1 hw he (by omega) (by omega)
      (fun m hm2 => by
        obtain ⟨m, rfl⟩ : ∃ j, m = j + 1 := ⟨m - 1, by omega⟩
        exact good_up hme.1 hme.2 hm h1 hm (hs m (by omega))) (by omega)
    refine ⟨⟨rfl, rfl, ⟨Int.le_refl 0, Int.le_refl 0, Int.le_refl 0⟩, Int.le_refl 0⟩, .inr hm, h1, trivial, [], rfl, trivial, rfl, ⟨hl, show lv + 1 ≤ 64 by omega⟩, ?_⟩
    intro q0 c0 _
    refine ⟨rfl, alongB (h[(h[x]'hx).1.pr.r.toNat]'hx2) { a with ob := (h[x]'hx).1.pr.r }, hb2, ?_⟩
    rw [show k + 1 + (i + 1) = k + 1 + 1 + i by omega]
    generalize alongB (h[(h[x]'hx).1.pr.r.toNat]'hx2) { a with ob := (h[x]'hx).1.pr.r } = r at *
    cases r with
    | now z => exact hg2 none rfl
    | tk P => exact fun S' hS => hg2 _ ⟨S', hS, rfl⟩
/-- Get of a key, asked at a level of one: the whole run. -/
theorem good_get {h : HI} (hok : HOk h) (hc : chkH h = 0) {v : VI} {i x y : Nat} {a : AI} (hm : a.m = 8) (ho : a.ob = x) (h1 : a.args.oneCell' = true) (hw : WayP h a.k i x y) (he : EndV h a.k y v) (hi : i ≤ 60) : ∃ hx : x < h.length, BegOK h a (alongB (h[x]'hx) a) ∧ ∀ tk, begK (alongB (h[x]'hx) a) tk → Good h 200 [⟨a, 1, tk⟩] (begO (alongB (h[x]'hx) a)) (doneI v) (1 + i) := by
  obtain ⟨hx, h2, h3⟩ := good_down hok hc i a x y 1 [] 200 0 0 hm ho h1 hw he (by decide) (by omega) (fun m hm => by obtain ⟨m, rfl⟩ : ∃ j, m = j + 1 := ⟨m - 1, by omega⟩; exact ⟨rfl, rfl, rfl⟩) (by omega)
  exact ⟨hx, h2, fun tk ht => by have := h3 tk ht; rwa [Nat.zero_add] at this⟩


end Go.Proofs.YtbmaodlghglopaaGreatDoor

namespace Go.Proofs.YtbmaodlghglopaaGreatDoor
open Go.RowKit

def nullV : VI := ⟨1, 0, ⟨#[]⟩, 0⟩
def thV (r : Int) : VI := ⟨6, 0, ⟨#[]⟩, r⟩
def liv0 : OJ := ⟨1, nullV, true, .slice none 0 0, .zero, .zero, ⟨#[]⟩, false, false⟩
def liv1 : OJ := ⟨5, thV 0, true, .slice none 0 0, .zero, .zero, ⟨#[]⟩, true, false⟩
def livP : OJ := ⟨1, thV 0, false, .slice none 0 0, .zero, .zero, ⟨#[]⟩, false, false⟩
def livX : OJ := ⟨6, nullV, false, .slice none 0 0, thV 11, thV 2, ⟨#[]⟩, false, false⟩
def livN (m : Nat) : HI := (liv0, []) :: (liv1, []) :: List.replicate m (livP, [])
def livH : HI := livN 10 ++ [(livX, [])]
theorem livN_more (m : Nat) : livN m ++ [(livP, [])] = livN (m + 1) := by simp [livN, List.replicate_succ']
theorem livH_in {e : OJ × List PI} (he : e ∈ livH) : e.2 = [] ∧ e.1.props = .slice none 0 0 ∧ e.1.ok := by
  unfold livH livN at he
  simp only [List.mem_append, List.mem_cons, List.not_mem_nil, or_false, List.mem_replicate] at he
  rcases he with (rfl | rfl | ⟨_, rfl⟩) | rfl <;> exact ⟨rfl, rfl, by decide, by decide, by decide, by decide⟩
theorem livH_ok : HOk livH := fun e he => ⟨(livH_in he).2.2, fun q hq => by rw [(livH_in he).1] at hq; cases hq⟩
theorem livH_keys : HKeys livH := fun e he q hq => by rw [(livH_in he).1] at hq; cases hq
theorem livH_props : ∀ e ∈ livH, e.2.length ≤ 4096 := fun e he => by rw [(livH_in he).1]; simp
theorem livH_len : livH.length = 13 := by kernel_rfl
theorem livH_chk : chkH livH = 0 := by kernel_rfl
theorem livH_first : firstB livH := by
  intro i hi h11
  match i, h11 with
  | 0, _ => exact ⟨rfl, rfl⟩
  | 1, _ => exact ⟨rfl, rfl⟩
  | 2, _ => exact ⟨rfl, rfl⟩
  | 3, _ => exact ⟨rfl, rfl⟩
  | 4, _ => exact ⟨rfl, rfl⟩
  | 5, _ => exact ⟨rfl, rfl⟩
  | 6, _ => exact ⟨rfl, rfl⟩
  | 7, _ => exact ⟨rfl, rfl⟩
  | 8, _ => exact ⟨rfl, rfl⟩
  | 9, _ => exact ⟨rfl, rfl⟩
  | 10, _ => exact ⟨rfl, rfl⟩
  | i + 11, h => exact absurd h (by omega)

def livR : BR := .tk (fun S => ∃ pq cq, cq ≤ maxLen ∧ S = trapS (extV 12 (.slice pq 0 cq)) (thV 11) (thV 2) nmX)
theorem livH_beg : BegOK livH (extA 12) livR := ⟨12, by rw [livH_len]; decide, rfl, rfl, .inr (.inr ⟨rfl, rfl, rfl, by decide, by kernel_rfl, rfl, by decide, by kernel_rfl, rfl, rfl⟩)⟩
theorem zeroI : DI.zero.ok := ⟨Int.le_refl 0, Int.le_refl 0, Int.le_refl 0⟩
theorem liv_way : WayP livH ⟨nmX, 0⟩ 1 2 0 := ⟨by rw [livH_len]; decide, rfl, rfl, rfl, rfl⟩
theorem liv_end : EndV livH ⟨nmX, 0⟩ 0 VI.zero := ⟨by rw [livH_len]; decide, rfl, .inr ⟨rfl, rfl, rfl⟩⟩
theorem fits_ext (b : Bool) : fitsB 1 3 (yesI b) [] = true := by cases b <;> kernel_rfl
theorem livH_good (tk : Option ((List (OI × List KI) → Res) × Q)) (ht : begK livR tk) : Good livH 200 [⟨extA 12, 1, tk⟩] (begO livR) (yesI false) 4 := by
  obtain ⟨S', ⟨pq, cq, hcq, rfl⟩, rfl⟩ := ht
  refine ⟨⟨rfl, rfl, zeroI, Int.le_refl 0⟩, .inl rfl, rfl, trivial, [], rfl, trivial, rfl, ⟨show (0 : Int) ≤ 1 by decide, show (1 : Int) + 1 ≤ 64 by decide⟩, ?_⟩
  intro q0 c0 _
  have base : ∀ m, 20 < m → Good livH m [⟨extA 12, 1, some (trapS (extV 12 (.slice pq 0 cq)) (thV 11) (thV 2) nmX, .wait [])⟩] (doneI VI.zero) (yesI false) 2 := by
    intro m hm
    obtain ⟨m, rfl⟩ : ∃ j, m = j + 4 := ⟨m - 4, by omega⟩
    refine ⟨⟨rfl, rfl, zeroI, Int.le_refl 0⟩, .inl rfl, rfl, show (0 : Nat) < 899 by decide, [((doneI VI.zero).put vNil, [])], ?_, trivial, rfl, ⟨show (0 : Int) ≤ 1 by decide, show (1 : Int) + 1 ≤ 64 by decide⟩, ?_⟩
    · show (if fitsB 1 8 (doneI VI.zero) [] then _ else _) = _
      rw [fits_done (by kernel_rfl)]; rfl
    · intro q1 c1 hc1
      refine ⟨rfl, .now (yesI false), ⟨11, by rw [livH_len]; decide, rfl, rfl, .inr (.inl ⟨rfl, rfl, rfl⟩)⟩, ?_⟩
      refine ⟨⟨rfl, rfl, zeroI, Int.le_refl 0⟩, .inl rfl, rfl, 1, rfl, ?_⟩
      refine ⟨⟨rfl, rfl, zeroI, Int.le_refl 0⟩, .inl rfl, rfl, show (1 : Nat) < 899 by decide, [((doneI VI.zero).put vNil, []), ((yesI false).put vNil, [])], ?_, ?_, ?_⟩
      · show (if fitsB 1 3 (yesI false) [] then _ else _) = _
        rw [fits_ext]; rfl
      · show (1 : Int) ≠ 0
        decide
      · exact ⟨rfl, rfl, 0, rfl, rfl, rfl, rfl⟩
  obtain ⟨hx, h2, h3⟩ := good_down (res := yesI false) livH_ok livH_chk 1 (getA (thV 2) ⟨nmX, 0⟩) 2 0 2 [⟨extA 12, 1, some (trapS (extV 12 (.slice pq 0 cq)) (thV 11) (thV 2) nmX, .wait [])⟩] 199 20 2 rfl rfl rfl liv_way liv_end (by decide) (by decide) base (by decide)
  refine ⟨rfl, _, h2, ?_⟩
  generalize alongB (livH[2]'hx) (getA (thV 2) ⟨nmX, 0⟩) = r at *
  cases r with
  | now z => exact h3 none rfl
  | tk P => exact fun S' hS => h3 _ ⟨S', hS, rfl⟩

/-! ### another block of properties -/
theorem BegOK.bare {h h' : HI} (e : bareH h' = bareH h) {a : AI} {r : BR} (hb : BegOK h a r) : BegOK h' a r := by
  obtain ⟨n, hn, ho, h1, hh⟩ := hb
  have hn' : n < h'.length := by rw [bareH_length e]; exact hn
  have hb := bareH_at e hn' hn
  refine ⟨n, hn', ho, h1, ?_⟩
  generalize h'[n]'hn' = x' at *
  generalize h[n]'hn = x at *
  obtain ⟨⟨kd', pr', ext', p', tg', hd', tx', ca', ma'⟩, l'⟩ := x'
  obtain ⟨⟨kd, pr, ext, p, tg, hd, tx, ca, ma⟩, l⟩ := x
  simp only [bareE, Prod.mk.injEq, OJ.mk.injEq] at hb
  obtain ⟨⟨rfl, rfl, rfl, _, rfl, rfl, rfl, rfl, rfl⟩, rfl⟩ := hb
  exact hh
theorem Good.bare {h h' : HI} (e : bareH h' = bareH h) : ∀ {n : Nat} {st : List Ent} {o res : OI} {k : Nat}, Good h n st o res k → Good h' n st o res k
  | 0, _, _, _, _, hg => hg
  | n + 1, [], _, _, _, hg => hg
  | n + 1, ⟨a, lv, none⟩ :: st, o, res, k, ⟨h1, h2, h3, k', h4, h5⟩ => ⟨h1, h2, h3, k', h4, Good.bare e h5⟩
  | n + 1, ⟨a, lv, some (S, q)⟩ :: st, o, res, k, ⟨h1, h2, h3, h4, L, h5, h6, h7⟩ => by
    refine ⟨h1, h2, h3, h4, L, h5, h6, ?_⟩
    cases hS : S L with
    | out y ks =>
      simp only [hS] at h7 ⊢
      obtain ⟨a1, a2, k', a3, a4⟩ := h7
      exact ⟨a1, a2, k', a3, Good.bare e a4⟩
    | want W l =>
      simp only [hS] at h7 ⊢
      obtain ⟨a1, a2, a3⟩ := h7
      refine ⟨a1, a2, fun q0 c0 hc => ?_⟩
      obtain ⟨b1, r, b2, b3⟩ := a3 q0 c0 hc
      refine ⟨b1, r, b2.bare e, ?_⟩
      cases r with
      | now y => exact Good.bare e b3
      | tk P => exact fun S' hS' => Good.bare e (b3 S' hS')
theorem bare_props {h h' : HI} (e : bareH h' = bareH h) {n : Nat} (hl : ∀ x ∈ h, x.2.length ≤ n) : ∀ x ∈ h', x.2.length ≤ n := by
  intro x hx
  obtain ⟨i, hi, rfl⟩ := List.mem_iff_getElem.1 hx
  have hi' : i < h.length := by rw [← bareH_length e]; exact hi
  have hb := bareH_at e hi hi'
  have h2 : (h'[i]'hi).2 = (h[i]'hi').2 := show (bareE (h'[i]'hi)).2 = (bareE (h[i]'hi')).2 by rw [hb]
  rw [h2]
  exact hl _ (List.getElem_mem hi')


end Go.Proofs.YtbmaodlghglopaaGreatDoor
