/-
  The plain laws of PostLies and PostTruth: what an answer that is well keeps; that the truth is well.
-/
import Derived.Test.YtlpldhcoplbopaaPostLaw15
namespace Go.Proofs.Ytlpldhcoplbopaa
open Go.RowKit

/-! ### a value is the same as itself -/
theorem isN_num {x : Nat} (h : isN x = true) : Fl.isNaN x = false := by
  unfold isN Fl.isZ at h
  rw [Bool.and_eq_true, decide_eq_true_eq] at h
  unfold Fl.isNaN
  rw [decide_eq_false_iff_not, h.1]; exact Nat.not_lt_zero _
theorem is1_num {x : Nat} (h : is1 x = true) : Fl.isNaN x = false := by
  cases hn : Fl.isNaN x
  · rfl
  · unfold is1 at h; rw [ordN hn] at h; exact absurd h (by decide)
theorem same_refl {v : VI} (h : v.may = true) : v.same v = true := by
  obtain ⟨k, x, s, r⟩ := v
  unfold VI.may at h
  unfold VI.same sameV
  simp only at h ⊢
  split
  · rename_i hh; exact hh.2.2
  · rename_i hN
    cases ho : isObj k
    · rw [strict_eq x s r x s r ho]
      unfold mayV at h
      split
      · rfl
      · rename_i h01
        rw [if_neg h01] at h
        split
        · rename_i h23
          have hx : Fl.isNaN x = false := by
            rcases h23 with rfl | rfl
            · rw [if_pos rfl, Bool.and_eq_true, Bool.and_eq_true, Bool.or_eq_true] at h
              exact h.1.1.elim isN_num is1_num
            · cases hn : Fl.isNaN x
              · rfl
              · exact absurd ⟨rfl, rfl, hn⟩ hN
          rw [ordE hx]; rfl
        · rename_i h23
          rw [if_neg (by omega), if_neg (by omega)] at h
          split
          · simp
          · rename_i h4
            rw [if_neg h4] at h
            split
            · simp
            · rename_i h5
              unfold isObj at ho
              rw [if_neg] at h
              · exact absurd h (by decide)
              · intro hk
                rw [Bool.and_eq_false_iff, decide_eq_false_iff_not, decide_eq_false_iff_not] at ho
                omega
    · rw [strict_obj x s r x s r ho ho]; simp

/-! ### what a descriptor has -/
theorem has_all (P : Int → Bool) (h : (List.range 256).all (fun m => P m) = true) (n : Int) (h0 : 0 ≤ n) (h1 : n ≤ 255) : P n = true := by
  obtain ⟨m, rfl⟩ := Int.eq_ofNat_of_zero_le h0
  exact List.all_eq_true.1 h m (List.mem_range.2 (by omega))
theorem err_parts {d : DI} (h : d.err = 0) : (bits .andNot .u8 d.has 63 != 0) = false ∧ (hasB d.has 3 && hasB d.has 12) = false ∧ d.v.may = true ∧ d.g.called = true ∧ d.t.called = true := by
  unfold DI.err at h
  cases hb : d.bad1
  · unfold DI.bad1 DI.data DI.acc at hb
    simp only [Bool.or_eq_false_iff, Bool.not_eq_false'] at hb
    obtain ⟨⟨⟨⟨h1, h2⟩, h3⟩, h4⟩, h5⟩ := hb
    exact ⟨h1, h2, h3, h4, h5⟩
  · rw [hb] at h; exact absurd h (by simp)
theorem called_may {v : VI} (h : v.called = true) : v.may = true := by
  unfold VI.called at h; rw [Bool.and_eq_true] at h; exact h.1
theorem whole_two {d : DI} (h : d.err = 0) (h0 : 0 ≤ d.has) (h1 : d.has ≤ 255) : wholeH d.has = 51 ∨ wholeH d.has = 60 := by
  obtain ⟨e1, e2, _⟩ := err_parts h
  have H := has_all (fun n => (bits .andNot .u8 n 63 != 0) || (hasB n 3 && hasB n 12) || ((wholeH n == 51) || (wholeH n == 60))) (by decide +kernel) d.has h0 h1
  rw [e1, e2] at H
  simpa using H
theorem com_eq {d : DI} (h : d.err = 0) : d.com = d.whole := by unfold DI.com; rw [if_pos h]
theorem isW_parts {d : DI} (h : d.isW = true) : d.err = 0 ∧ wholeH d.has = d.has ∧ d.com = d := by
  unfold DI.isW at h
  rw [Bool.and_eq_true, beq_iff_eq, beq_iff_eq] at h
  obtain ⟨h1, h2⟩ := h
  rw [com_eq h1] at h2
  have h2 : wholeH d.has = d.has := h2
  refine ⟨h1, h2, ?_⟩
  rw [com_eq h1]
  unfold DI.whole
  rw [h2]

/-! ### lies -/
def fixedB (f : FI) : Bool := f.fo && !f.d.cf
def stillB (f : FI) : Bool := fixedB f && (f.d.data && !f.d.wr)
theorem lies_found {x : Bool} {f : FI} (h : (x || (!f.fo || (f.d.cf && f.ext))) = true) : (x || !fixedB f) = true := by
  unfold fixedB
  revert h
  cases x <;> cases f.fo <;> cases f.d.cf <;> cases f.ext <;> decide
theorem lies_none {f : FI} (h : (!f.fo || (f.d.cf && f.ext)) = true) : (!fixedB f) = true := by
  unfold fixedB
  revert h
  cases f.fo <;> cases f.d.cf <;> cases f.ext <;> decide
theorem lies_got {v : VI} {f : FI} (h : gotB v f false = true) : (!stillB f || v.same f.d.v) = true := by
  unfold stillB fixedB DI.data
  unfold gotB at h
  revert h
  cases f.fo <;> cases f.d.cf <;> cases hasB f.d.has 3 <;> cases f.d.wr <;> cases v.same f.d.v <;> simp
theorem lies_keys {lk ks : List KI} {ds : List DI} {f : FI} (h : listedB lk f ks ds = true) : (f.ext || (lk.length == ks.length)) = true := by
  unfold listedB at h
  rw [Bool.and_eq_true, Bool.and_eq_true] at h
  exact h.2.2
theorem may_fixed {c n : DI} (hcf : n.cf = false) (h : c.may n = true) (hc : c.has = 51 ∨ c.has = 60) (hn : n.has = 51 ∨ n.has = 60) : c.cf = false ∧ c.has = n.has ∧ c.en = n.en ∧ ((n.data && !n.wr) = true → c.v.same n.v = true ∧ c.wr = false) := by
  unfold DI.may DI.data at h
  unfold DI.data
  obtain ⟨ch, cv, cg, ct, cw, ce, cc⟩ := c
  obtain ⟨nh, nv, ng, nt, nw, ne, nc⟩ := n
  simp only at *
  subst hcf
  have e1 : hasB 51 16 = true := by kernel_rfl
  have e2 : hasB 60 16 = true := by kernel_rfl
  have e3 : (bits .and .u8 51 15 == 0) = false := by kernel_rfl
  have e4 : (bits .and .u8 60 15 == 0) = false := by kernel_rfl
  have e5 : hasB 51 3 = true := by kernel_rfl
  have e6 : hasB 60 3 = false := by kernel_rfl
  have e7 : hasB 51 1 = true := by kernel_rfl
  cases cc
  · rcases hc with rfl | rfl <;> rcases hn with rfl | rfl <;> simp only [e1, e2, e3, e4, e5, e6, e7] at h ⊢ <;> revert h <;> cases ce <;> cases ne <;> cases nw <;> cases cw <;> cases cv.same nv <;> simp
  · exact absurd h (by simp)

theorem comR_may {e : Bool} {c n : DI} (h : (comR e c true n).1 = true) : c.may n = true := by
  unfold comR at h
  split at h
  · exact h
  · exact absurd h (by simp)
theorem lies_told {x : OI} {f : FI} (hx : x.d.err = 0) (bx : 0 ≤ x.d.has ∧ x.d.has ≤ 255) (bf : 0 ≤ f.d.has ∧ f.d.has ≤ 255) (hw : f.fo = true → f.d.isW = true) (h : told x.d.com f = true) :
    (x.d.com.has = 51 ∨ x.d.com.has = 60) ∧ (fixedB f = true → x.d.com.cf = false ∧ x.d.com.has = f.d.has ∧ x.d.com.en = f.d.en ∧ (stillB f = true → x.d.com.v.same f.d.v = true ∧ x.d.com.wr = false)) := by
  have hc : x.d.com.has = 51 ∨ x.d.com.has = 60 := by rw [com_eq hx]; exact whole_two hx bx.1 bx.2
  refine ⟨hc, fun hf => ?_⟩
  have hs : stillB f = (f.d.data && !f.d.wr) := by unfold stillB; rw [hf]; rfl
  unfold fixedB at hf
  rw [Bool.and_eq_true, Bool.not_eq_true'] at hf
  obtain ⟨e1, e2, _⟩ := isW_parts (hw hf.1)
  have hn : f.d.has = 51 ∨ f.d.has = 60 := by have := whole_two e1 bf.1 bf.2; rwa [e2] at this
  unfold told at h
  rw [hf.1, Bool.and_eq_true] at h
  rw [hs]
  exact may_fixed hf.2 (comR_may h.1) hc hn

/-! ### truths -/
theorem chk_of {a : AI} {x : OI} {f : FI} {lk ks : List KI} {ds : List DI} (hE : askedE a x lk = 0) (hK : knownE a.m f ks ds = 0) (hW : wellB a x f lk ks ds = true) : chkE a x f lk ks ds = 0 ∧ chkB a x f lk ks ds = true := by
  have h : chkE a x f lk ks ds = 0 := by unfold chkE; rw [if_neg (fun hn => hn hE)]; exact hK
  exact ⟨h, by unfold chkB; rw [h, hW]; rfl⟩
theorem chk_parts {a : AI} {x : OI} {f : FI} {lk ks : List KI} {ds : List DI} (h : chkE a x f lk ks ds = 0) : askedE a x lk = 0 ∧ knownE a.m f ks ds = 0 := by
  unfold chkE at h
  by_cases he : askedE a x lk = 0
  · rw [if_neg (fun hn => hn he)] at h; exact ⟨he, h⟩
  · rw [if_pos he] at h; exact absurd h he
theorem chk_well {a : AI} {x : OI} {f : FI} {lk ks : List KI} {ds : List DI} (h : chkB a x f lk ks ds = true) : chkE a x f lk ks ds = 0 ∧ wellB a x f lk ks ds = true := by
  unfold chkB at h
  rw [Bool.and_eq_true, beq_iff_eq] at h; exact h
theorem chk_bad {a : AI} {x : OI} {f : FI} {lk ks : List KI} {ds : List DI} (h : chkE a x f lk ks ds ≠ 0) : chkB a x f lk ks ds = false := by
  unfold chkB; rw [beq_eq_false_iff_ne.2 h]; rfl
theorem ite_0 {b : Bool} {n : Int} (hn : n ≠ 0) (h : (if b = true then 0 else n) = 0) : b = true := by
  cases b
  · exact absurd h hn
  · rfl
theorem truth_ext (f : FI) (ks : List KI) (ds : List DI) : chkE (askI 3) (yesI f.ext) f [] ks ds = 0 ∧ chkB (askI 3) (yesI f.ext) f [] ks ds = true :=
  chk_of rfl rfl (by show (f.ext == f.ext) = true; simp)
def protoA (f : FI) : OI := { OI.done with v := f.pr }
theorem truth_proto (f : FI) (ks : List KI) (ds : List DI) (h : chkE (askI 1) (protoA f) f [] ks ds = 0) : chkB (askI 1) (protoA f) f [] ks ds = true ∧ f.pr.same f.pr = true := by
  obtain ⟨h1, h2⟩ := chk_parts h
  have h1 : (if f.pr.may = true then (0 : Int) else 9) = 0 := h1
  have h2 : (if f.pr.proto = true then (0 : Int) else 9) = 0 := h2
  have hm := same_refl (ite_0 (by decide) h1)
  refine ⟨(chk_of (chk_parts h).1 (chk_parts h).2 ?_).2, hm⟩
  show (f.pr.proto && (f.ext || f.pr.same f.pr)) = true
  rw [ite_0 (by decide) h2, hm]; simp
def keysA (f : FI) : OI := { OI.done with keys := f.keys }
theorem eqK_refl (k : KI) : KI.eq k k = true := by unfold KI.eq; simp
theorem truth_keys (f : FI) (ks : List KI) (ds : List DI) (h : chkE (askI 11) (keysA f) f ks ks ds = 0) : chkB (askI 11) (keysA f) f ks ks ds = true := by
  refine (chk_of (chk_parts h).1 (chk_parts h).2 ?_).2
  have h2 : ownE ks ds = 0 := (chk_parts h).2
  have hA : Apart ks := by
    unfold ownE at h2
    by_cases h3 : Apart ks
    · exact h3
    · rw [if_pos h3] at h2
      split at h2
      · rename_i hh; exact absurd h2 hh
      · exact absurd h2 (by decide)
  show listedB ks f ks ds = true
  unfold listedB
  rw [decide_eq_true hA, Bool.true_and, Bool.and_eq_true]
  refine ⟨List.all_eq_true.2 fun p hp => ?_, by simp⟩
  unfold ToldK
  rw [List.any_eq_true.2 ⟨p.1, (List.of_mem_zip hp).1, eqK_refl _⟩]; simp
def propA (f : FI) : OI := { OI.done with fo := f.fo, d := if f.fo then f.d else DI.zero }
theorem may_refl {d : DI} (h : d.err = 0) : d.may d = true := by
  obtain ⟨_, _, h3, h4, h5⟩ := err_parts h
  have s1 := same_refl h3
  have s2 := same_refl (called_may h4)
  have s3 := same_refl (called_may h5)
  unfold DI.may DI.data
  rw [s1, s2, s3]
  cases d.cf <;> cases d.wr <;> simp
theorem truth_told {f : FI} (hfo : f.fo = true) (hw : f.d.isW = true) : told f.d f = true := by
  obtain ⟨h1, h2, _⟩ := isW_parts hw
  have ha : askE f.d true f.d = 0 := by unfold askE; rw [if_pos h1, h2, h1]; simp
  have hc : (comR f.ext f.d true f.d).1 = true := by unfold comR; rw [if_pos ha]; exact may_refl h1
  unfold told
  rw [hfo, hc]
  cases f.d.cf <;> cases f.d.wr <;> simp
theorem truth_prop (f : FI) (ks : List KI) (ds : List DI) (h : chkE (askI 5) (propA f) f [] ks ds = 0) : chkB (askI 5) (propA f) f [] ks ds = true ∧ (f.fo = true → f.d.isW = true ∧ f.d.com = f.d ∧ f.d.err = 0) := by
  have h2 : (if f.fo && !f.d.isW then (90 : Int) else 0) = 0 := (chk_parts h).2
  have hw : f.fo = true → f.d.isW = true := fun hf => by
    cases hi : f.d.isW
    · rw [hf, hi] at h2; exact absurd h2 (by decide)
    · rfl
  refine ⟨(chk_of (chk_parts h).1 (chk_parts h).2 ?_).2, fun hf => ⟨hw hf, (isW_parts (hw hf)).2.2, (isW_parts (hw hf)).1⟩⟩
  show (if f.fo = true then told (DI.com (if f.fo = true then f.d else DI.zero)) f else !f.fo || (f.d.cf && f.ext)) = true
  cases hf : f.fo
  · rfl
  · rw [if_pos rfl, if_pos rfl, (isW_parts (hw hf)).2.2]
    exact truth_told hf (hw hf)
theorem truth_prop_bad (f : FI) (ks : List KI) (ds : List DI) (h : chkE (askI 5) (propA f) f [] ks ds ≠ 0) : f.fo = true := by
  cases hf : f.fo
  · exfalso
    apply h
    have e1 : askedE (askI 5) (propA f) [] = 0 := by show (if f.fo = true then DI.err (if f.fo = true then f.d else DI.zero) else 0) = 0; rw [hf]; rfl
    have e2 : knownE 5 f ks ds = 0 := by show (if f.fo && !f.d.isW then (90 : Int) else 0) = 0; rw [hf]; rfl
    unfold chkE
    rw [if_neg (fun hn => hn e1)]; exact e2
  · rfl
theorem truth_has (f : FI) (ks : List KI) (ds : List DI) (hw : f.fo = true → f.d.isW = true) : chkE (askI 7) (yesI f.fo) f [] ks ds = 0 ∧ chkB (askI 7) (yesI f.fo) f [] ks ds = true := by
  refine chk_of rfl ?_ ?_
  · show (if f.fo && !f.d.isW then (90 : Int) else 0) = 0
    cases hf : f.fo
    · rfl
    · rw [hw hf]; rfl
  · show (f.fo || (!f.fo || (f.d.cf && f.ext))) = true
    cases f.fo <;> rfl
def valA (f : FI) : OI := { OI.done with v := f.d.v }
theorem truth_get (f : FI) (ks : List KI) (ds : List DI) (hw : f.d.isW = true) (hd : f.d.data = true) : chkE (askI 8) (valA f) f [] ks ds = 0 ∧ chkB (askI 8) (valA f) f [] ks ds = true ∧ f.d.v.same f.d.v = true := by
  have hm := (err_parts (isW_parts hw).1).2.2.1
  have hs := same_refl hm
  have h := chk_of (a := askI 8) (x := valA f) (f := f) (lk := []) (ks := ks) (ds := ds) (by show (if f.d.v.may = true then (0 : Int) else 9) = 0; rw [hm]; rfl) (by show (if f.fo && !f.d.isW then (90 : Int) else 0) = 0; rw [hw]; simp) (by
    show gotB f.d.v f false = true
    unfold gotB
    unfold DI.data at hd
    rw [hd, hs]
    simp)
  exact ⟨h.1, h.2, hs⟩

end Go.Proofs.Ytlpldhcoplbopaa
