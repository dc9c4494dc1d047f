/-
  Heaps but for where their properties lie: what chain's functions say of them; a proxy of what may be may be.
-/
import Derived.Test.YtnidamkgfgddfaaGreatChain3
import Derived.Test.YtnidamkgfgddfaaGreatChain5
namespace Go.Proofs.YtnidamkgfgddfaaGreat
open Go.RowKit

def bareO (o : OJ) : OJ := { o with props := .slice none 0 0 }
theorem objAt_bare (h : HI) (n : Nat) : objAt (bareH h) n = bareO (objAt h n) := by
  unfold objAt
  rw [bare_at]
  cases h[n]? <;> rfl
theorem live_bare (h : HI) (n : Nat) : liveB (objAt (bareH h) n) = liveB (objAt h n) := by rw [objAt_bare]; rfl
theorem gone_bare (h : HI) (n : Nat) : goneB (objAt (bareH h) n) = goneB (objAt h n) := by rw [objAt_bare]; rfl
theorem len_bare (h : HI) : (bareH h).length = h.length := by simp [bareH]
theorem down_bare (h : HI) : ∀ f n, downN (bareH h) f n = downN h f n ∧ lastN (bareH h) f n = lastN h f n
  | 0, _ => ⟨rfl, rfl⟩
  | f + 1, n => by
    unfold downN lastN
    rw [live_bare, (down_bare h f _).1, (down_bare h f _).2, objAt_bare]
    exact ⟨rfl, rfl⟩
theorem dwn_bare (h : HI) (n : Nat) : dwn (bareH h) n = dwn h n := (down_bare h _ n).1
theorem lst_bare (h : HI) (n : Nat) : lst (bareH h) n = lst h n := (down_bare h _ n).2
theorem cut_bare (h : HI) (n : Nat) : cutB (bareH h) n = cutB h n := by unfold cutB; rw [lst_bare, gone_bare]
theorem ask_bare (h : HI) (ns : List Int) : askE (bareH h) ns = askE h ns := by unfold askE; rw [chkH_bareH, len_bare]
theorem deep_bare (h : HI) (n : Int) : deepV (bareH h) n = deepV h n := by unfold deepV; rw [ask_bare, dwn_bare, cut_bare]
theorem arrE_bare (h : HI) (n : Int) : arrE (bareH h) n = arrE h n := by unfold arrE; rw [ask_bare, dwn_bare, cut_bare]
theorem arrV_bare (h : HI) (n : Int) : arrV (bareH h) n = arrV h n := by unfold arrV; rw [arrE_bare, lst_bare, objAt_bare]; rfl
theorem liveV_bare (h : HI) (n : Int) : liveV (bareH h) n = liveV h n := by unfold liveV; rw [ask_bare, live_bare]
theorem prx_bare (h : HI) (n m : Nat) : prxO (bareH h) n m = prxO h n m := by unfold prxO; rw [objAt_bare, objAt_bare]; rfl
theorem bareE_bareE (e : OJ × List PI) : bareE (bareE e) = bareE e := rfl
theorem bareH_bareH (h : HI) : bareH (bareH h) = bareH h := by unfold bareH; rw [List.map_map]; rfl
theorem rev_bare (h : HI) (n : Nat) : bareH (revH (bareH h) n) = bareH (revH h n) := by
  unfold revH
  rw [bare_at]
  cases h[n]? with
  | none => exact bareH_bareH h
  | some e =>
    show bareH ((bareH h).set n (rvkE (bareE e))) = bareH (h.set n (rvkE e))
    unfold bareH
    rw [List.map_set, List.map_set, List.map_map]
    rfl
section
variable {h H : HI} (e : bareH h = bareH H)
include e
theorem live_same (n : Nat) : liveB (objAt h n) = liveB (objAt H n) := by rw [← live_bare h, e, live_bare]
theorem gone_same (n : Nat) : goneB (objAt h n) = goneB (objAt H n) := by rw [← gone_bare h, e, gone_bare]
theorem dwn_same (n : Nat) : dwn h n = dwn H n := by rw [← dwn_bare h, e, dwn_bare]
theorem cut_same (n : Nat) : cutB h n = cutB H n := by rw [← cut_bare h, e, cut_bare]
theorem ask_same (ns : List Int) : askE h ns = askE H ns := by rw [← ask_bare h, e, ask_bare]
theorem deep_same (n : Int) : deepV h n = deepV H n := by rw [← deep_bare h, e, deep_bare]
theorem arrE_same (n : Int) : arrE h n = arrE H n := by rw [← arrE_bare h, e, arrE_bare]
theorem arrV_same (n : Int) : arrV h n = arrV H n := by rw [← arrV_bare h, e, arrV_bare]
theorem liveV_same (n : Int) : liveV h n = liveV H n := by rw [← liveV_bare h, e, liveV_bare]
theorem prx_same (n m : Nat) : prxO h n m = prxO H n m := by rw [← prx_bare h, e, prx_bare]
theorem rev_same (n : Nat) : bareH (revH h n) = bareH (revH H n) := by rw [← rev_bare h, e, rev_bare]
theorem kd_same (n : Nat) : (objAt h n).kd = (objAt H n).kd := by
  have : (objAt (bareH h) n).kd = (objAt (bareH H) n).kd := by rw [e]
  rw [objAt_bare, objAt_bare] at this
  exact this
end
/-! ### one object more -/
theorem inB_push {h : HI} (x : OJ × List PI) {v : VI} (hv : inB h v = true) : inB (h ++ [x]) v = true := by
  unfold inB at hv ⊢
  rw [Bool.and_eq_true] at hv ⊢
  refine ⟨hv.1, ?_⟩
  cases ho : isObj v.k
  · rfl
  · have h2 := hv.2
    rw [ho] at h2
    simp only [Bool.not_true, Bool.false_or, Bool.and_eq_true, decide_eq_true_eq] at h2 ⊢
    have h0 := may_ref hv.1 ho
    refine ⟨by rw [List.length_append]; omega, ?_⟩
    rw [List.getElem?_append_left (by omega)]
    exact h2.2
theorem refB_push {h : HI} (x : OJ × List PI) {n : Nat} {v : VI} (hv : refB h n v = true) : refB (h ++ [x]) n v = true := by
  unfold refB at hv ⊢
  simp only [Bool.and_eq_true] at hv ⊢
  exact ⟨hv.1, inB_push x hv.2.1, hv.2.2⟩
theorem map_push {β : Type} [BEq β] {h : HI} (x : OJ × List PI) {v : VI} (f : OJ × List PI → β) (b : β) (hi : inB h v = true) (ho : isObj v.k = true) : (((h ++ [x])[v.r.toNat]?).map f == some b) = ((h[v.r.toNat]?).map f == some b) ∧ ((h ++ [x])[v.r.toNat]?) = (h[v.r.toNat]?) := by
  have := inB_ref hi ho
  have e : ((h ++ [x])[v.r.toNat]?) = (h[v.r.toNat]?) := List.getElem?_append_left (by omega)
  rw [e]
  exact ⟨rfl, rfl⟩
theorem objB_push {h : HI} (x : OJ × List PI) {n : Nat} {e : OJ × List PI} (ho : objB h n e = true) : objB (h ++ [x]) n e = true := by
  unfold objB at ho ⊢
  split
  · rename_i hk
    rw [if_pos hk] at ho
    unfold prxB at ho ⊢
    rw [Bool.and_eq_true] at ho ⊢
    refine ⟨ho.1, ?_⟩
    cases hn : (isV e.1.tg 1 && isV e.1.hd 1)
    · have h2 := ho.2
      rw [hn] at h2
      simp only [Bool.false_or, Bool.and_eq_true] at h2 ⊢
      obtain ⟨h3, h4, h5⟩ := h2
      refine ⟨refB_push x h3, refB_push x h4, ?_⟩
      unfold refB at h3
      simp only [Bool.and_eq_true] at h3
      rw [(map_push x (fun e' => (0 : Nat)) 0 h3.2.1 h3.1).2]
      exact h5
    · rfl
  · rename_i hk
    rw [if_neg hk] at ho
    unfold plainB at ho ⊢
    simp only [Bool.and_eq_true, Bool.not_eq_true'] at ho ⊢
    obtain ⟨h5, h7, hp, hkd⟩ := ho
    refine ⟨?_, ?_, ?_, hkd⟩
    · unfold bad5 at h5 ⊢
      rw [Bool.or_eq_false_iff] at h5 ⊢
      refine ⟨?_, h5.2⟩
      cases ht : isV e.1.tg 0
      · have h6 := h5.1
        rw [ht] at h6
        simp only [Bool.not_false, Bool.true_and, Bool.not_eq_false'] at h6 ⊢
        unfold revB at h6 ⊢
        simp only [Bool.and_eq_true] at h6 ⊢
        obtain ⟨a, b, c, d, f⟩ := h6
        refine ⟨a, b, c, inB_push x d, ?_⟩
        rw [(map_push x (fun e' => e'.1.kd) 6 d b).1]
        exact f
      · rfl
    · unfold bad7 at h7 ⊢
      rw [Bool.or_eq_false_iff] at h7 ⊢
      refine ⟨h7.1, ?_⟩
      rw [Bool.or_eq_false_iff] at ⊢
      have h8 := h7.2
      rw [Bool.or_eq_false_iff] at h8
      exact ⟨by rw [inB_push x (by simpa using h8.1)]; rfl, h8.2⟩
    · rw [List.all_eq_true] at hp ⊢
      intro q hq
      have h9 := hp q hq
      unfold propB at h9 ⊢
      simp only [Bool.and_eq_true] at h9 ⊢
      exact ⟨inB_push x h9.1, inB_push x h9.2.1, inB_push x h9.2.2⟩
theorem ma_ca {h : HI} {n : Nat} {e : OJ × List PI} (ho : objB h n e = true) (hm : e.1.ma = true) : e.1.ca = true := by
  cases hc : e.1.ca
  · exfalso
    unfold objB at ho
    split at ho
    · unfold prxB badX at ho
      rw [hm, hc] at ho
      simp at ho
    · unfold plainB kindB at ho
      rw [hm, hc] at ho
      simp at ho
  · rfl
theorem kind_obj (o : OJ) : isObj (kindO o) = true := by
  unfold kindO
  split
  · rfl
  · split <;> rfl
theorem named_may (o : OJ) (n : Nat) : (namedI o (n : Int)).may = true := by
  have e1 : isN 0 = true := by kernel_rfl
  have e2 : (⟨#[]⟩ : ByteArray).toList.isEmpty = true := by kernel_rfl
  have hk : kindO o = 6 ∨ kindO o = 7 ∨ kindO o = 8 := by
    unfold kindO
    split
    · exact Or.inr (Or.inr rfl)
    · split
      · exact Or.inr (Or.inl rfl)
      · exact Or.inl rfl
  unfold VI.may mayV namedI
  simp only
  rw [if_neg (by omega), if_neg (by omega), if_neg (by omega), if_neg (by omega), if_pos (by omega), e1, e2, decide_eq_true (by omega)]
  rfl
theorem named_in {h : HI} {n : Nat} (hn : n < h.length) (x : OJ × List PI) : inB (h ++ [x]) (namedI (objAt h n) n) = true := by
  unfold inB
  rw [named_may, show (namedI (objAt h n) (n : Int)).k = kindO (objAt h n) from rfl, kind_obj, show (namedI (objAt h n) (n : Int)).r = (n : Int) from rfl, Int.toNat_natCast, List.getElem?_append_left hn, List.getElem?_eq_getElem hn, objAt_lt hn, List.length_append]
  simp only [Option.map_some, beq_self_eq_true, Bool.not_true, Bool.false_or, Bool.and_true, Bool.true_and, decide_eq_true_eq]
  omega
theorem nx_push {h : HI} (x : OJ × List PI) {i : Nat} (hi : i < h.length) : nx (h ++ [x]) i = nx h i := by
  unfold nx
  rw [List.getElem?_append_left hi]
theorem itN_push {h : HI} (hg : GoodN h) (x : OJ × List PI) {i : Nat} (hi : i < h.length) : ∀ k, itN (h ++ [x]) i k = itN h i k
  | 0 => rfl
  | k + 1 => by
    rw [itN_succ, itN_succ, itN_push hg x hi k]
    cases hk : itN h i k with
    | none => rfl
    | some y => exact nx_push x (itN_lt hg hi k y hk)
theorem end_push {h : HI} (hg : GoodN h) (x : OJ × List PI) {i d : Nat} (hi : i < h.length) (a : EndN h i d) : EndN (h ++ [x]) i d := by
  obtain ⟨y, h1, h2⟩ := a
  exact ⟨y, (itN_push hg x hi d).trans h1, (nx_push x (itN_lt hg hi d y h1)).trans h2⟩
/-- A proxy of two objects of a heap that may be: the heap may be. -/
theorem prx_ok {h : HI} (hc : chkH h = 0) (hl : h.length ≠ 4096) {n m : Nat} (hn : n < h.length) (hm : m < h.length) : chkH (h ++ [(prxO h n m, [])]) = 0 := by
  obtain ⟨h1, h2, h3⟩ := chkH_ok hc
  have hg := (good_of h2).1
  have hlen : (h ++ [(prxO h n m, [])]).length = h.length + 1 := by simp
  have hnew : objB (h ++ [(prxO h n m, [])]) h.length (prxO h n m, []) = true := by
    unfold objB
    rw [if_pos (show (prxO h n m).kd = 6 from rfl)]
    unfold prxB badX
    have e1 : isV (prxO h n m).pr 1 = true := by kernel_rfl
    have e2 : (prxO h n m).tx.toList.isEmpty = true := by show (⟨#[]⟩ : ByteArray).toList.isEmpty = true; kernel_rfl
    have e3 : ((prxO h n m).ma && !(prxO h n m).ca) = false := by
      show ((objAt h n).ma && !(objAt h n).ca) = false
      cases hma : (objAt h n).ma
      · rfl
      · rw [objAt_lt hn] at hma ⊢
        rw [ma_ca (allO_at h2 hn hn) hma]; rfl
    have e4 : refB (h ++ [(prxO h n m, [])]) h.length (prxO h n m).tg = true := by
      unfold refB
      rw [show (prxO h n m).tg = namedI (objAt h n) n from rfl, named_in hn, show (namedI (objAt h n) (n : Int)).k = kindO (objAt h n) from rfl, kind_obj]
      simp only [Bool.true_and, decide_eq_true_eq]
      show (n : Int) < h.length
      omega
    have e5 : refB (h ++ [(prxO h n m, [])]) h.length (prxO h n m).hd = true := by
      unfold refB
      rw [show (prxO h n m).hd = namedI (objAt h m) m from rfl, named_in hm, show (namedI (objAt h m) (m : Int)).k = kindO (objAt h m) from rfl, kind_obj]
      simp only [Bool.true_and, decide_eq_true_eq]
      show (m : Int) < h.length
      omega
    have e6 : (((h ++ [(prxO h n m, [])])[(prxO h n m).tg.r.toNat]?).map (fun e => e.1.ca == (prxO h n m).ca && e.1.ma == (prxO h n m).ma)).getD false = true := by
      rw [show (prxO h n m).tg.r.toNat = n from Int.toNat_natCast n, List.getElem?_append_left hn, List.getElem?_eq_getElem hn]
      show ((h[n]'hn).1.ca == (objAt h n).ca && (h[n]'hn).1.ma == (objAt h n).ma) = true
      rw [objAt_lt hn]; simp
    rw [e1, e2, e3, e4, e5, e6]
    show (!(decide (0 < 0) || (false || _)) && _) = true
    simp
  have hall : allO (h ++ [(prxO h n m, [])]) (h ++ [(prxO h n m, [])]).length = true := by
    unfold allO
    rw [List.all_eq_true]
    intro i hi
    have hi2 := List.mem_range.1 hi
    rw [hlen] at hi2
    by_cases hlt : i < h.length
    · rw [List.getElem?_append_left hlt, List.getElem?_eq_getElem hlt]
      exact objB_push _ (allO_at h2 hlt hlt)
    · obtain rfl : i = h.length := by omega
      rw [List.getElem?_append_right (Nat.le_refl _), Nat.sub_self]
      exact hnew
  refine chkH_of (by rw [hlen]; omega) hall ?_
  refine (lpB_no (good_of hall).1).2 (fun i hi => ?_)
  rw [hlen] at hi
  by_cases hlt : i < h.length
  · obtain ⟨d, a⟩ := (lpB_no hg).1 h3 i hlt
    exact ⟨d, end_push hg _ hlt a⟩
  · obtain rfl : i = h.length := by omega
    refine ⟨0, h.length, rfl, ?_⟩
    unfold nx
    rw [List.getElem?_append_right (Nat.le_refl _), Nat.sub_self]
    rfl
end Go.Proofs.YtnidamkgfgddfaaGreat
