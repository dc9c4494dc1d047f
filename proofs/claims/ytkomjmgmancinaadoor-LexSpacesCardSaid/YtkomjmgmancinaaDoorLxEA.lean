/-
  Contracts for the round trip: tokens of what was written, the statements' own 'same' on them; what was cut may be written.
  The walk of the statement LexSpaces.
-/
import Derived.Test.YtkomjmgmancinaaDoorLawSame
import Derived.Test.YtkomjmgmancinaaDoorLxCA
import Derived.Test.YtkomjmgmancinaaDoorAliveT
namespace Go.Proofs.YtkomjmgmancinaaDoor
open Go.RowKit

/-- Tokens in memory are the same as these, but for places. -/
def SameAll (cs : List TC) (l : List TI) : Prop := cs.length = l.length ∧ ∀ i (h1 : i < cs.length) (h2 : i < l.length), SameTI cs[i].ti l[i]
theorem likes_same {l : List TI} {ks : List Tk} {cs : List TC} (h : Likes l ks) (m : Mts ks cs) : SameAll cs l := by
  have e1 := likes_length h
  have e2 := mts_length m
  refine ⟨by omega, fun i h1 h2 => ?_⟩
  obtain ⟨a1, a2, a3⟩ := likes_get h i h2 (by omega)
  obtain ⟨b1, _, b3, b4⟩ := mts_get m i (by omega) h1
  exact ⟨b1.trans a1, (text_eq (a := l[i].text) (b := cs[i].text) a2.symm b3), a3 _ b4⟩

theorem tokens_back {l : List TI} (h : (writeR l).2 = 0) (W : World) (hm : Mx W) : Calls Tryd.prog 12 #[.string ⟨(writeR l).1.toArray⟩] W fun e w' => ∃ v cs, e = .returned (.tuple #[v, .int .i64 0, .int .i64 0]) ∧ RowT W.heap.size cs v w' ∧ SameAll cs l ∧ Below W.heap.size W w' := by
  obtain ⟨ks, hk, hl⟩ := write_back h
  obtain ⟨t, _, _, _, _, _, h6⟩ := writeR_ok h
  have T := tokens_any ⟨(writeR l).1.toArray⟩ (by rw [ba_size]; show (writeR l).1.length ≤ _; omega) W hm
  unfold TokensQ at T
  rw [show (⟨(writeR l).1.toArray⟩ : ByteArray).data.toList = (writeR l).1 from rfl, hk] at T
  refine T.mono ?_
  rintro e w' ⟨v, cs, rfl, hr, hmm, hb⟩
  exact ⟨v, cs, rfl, hr, likes_same hl hmm, hb⟩
theorem same_back {l : List TI} {cs : List TC} {v vl : Value} {B : Nat} {W : World} (hr : RowT B cs v W) (hl : RdT l vl W) (hs : SameAll cs l) : Calls Tryd.prog 22 #[v, vl] W fun e w' => e = .returned (.bool true) ∧ Below W.heap.size W w' := by
  refine lawSame_any (cs.map TC.ti) l v vl W (rdT_own hr) hl (by rw [List.length_map]; exact hs.1) fun i h1 h2 => ?_
  rw [List.getElem_map]
  exact hs.2 i (by simpa using h1) h2

/-- What comes of the error of a writing. -/
theorem writeR_bad {l : List TI} (h : (writeR l).2 ≠ 0) : (writeR l).1 = [] := by
  unfold writeR at h ⊢
  split
  · rfl
  · rename_i h1
    rw [if_neg h1] at h
    split
    · rfl
    · rename_i h2
      rw [if_neg h2] at h
      split
      · rfl
      · rename_i h3
        rw [if_neg h3] at h
        cases hw : writeGo l.dropLast true [] with
        | none => rfl
        | some s => rw [hw] at h; exact absurd rfl h
theorem writeR_errs (l : List TI) (h1 : l.length ≤ 16385) (h2 : (l.getLast?.map endB).getD false = true) (h3 : l.dropLast.all mayB = true) : (writeR l).2 = 0 ∨ (writeR l).2 = 3 := by
  unfold writeR
  rw [if_neg (by omega), if_neg (by rw [h2]; decide), if_neg (by rw [h3]; decide)]
  cases writeGo l.dropLast true [] with
  | none => exact Or.inr rfl
  | some s => exact Or.inl rfl

/-- A cutting that came out well: what its tokens in memory are like. -/
theorem cut_tokens {s : List UInt8} {ks : List Tk} {cs : List TC} (hc : Cut s (ks, 0, 0)) (hm : Mts ks cs) : ∃ n, cs.length = n + 1 ∧ n ≤ 16384 ∧ ks.length = n + 1 ∧
    (∀ i (h : i < n) (h1 : i < ks.length) (h2 : i < cs.length), Fine s ks[i] ∧ mayB cs[i].ti = true) ∧
    (∀ (h1 : n < cs.length), endB cs[n].ti = true ∧ cs[n].k = 0 ∧ cs[n].p = s.length) ∧
    (∀ i (h1 : i + 1 < cs.length) (h2 : i < cs.length), cs[i].p < cs[i + 1].p) := by
  rcases hc with ⟨_, ks', hks, hf, hp, hl⟩ | ⟨h, _⟩
  · simp only at hks
    subst hks
    have hlen := mts_length hm
    rw [List.length_append, List.length_singleton] at hlen
    refine ⟨ks'.length, hlen.symm, hl, by simp, ?_, ?_, ?_⟩
    · intro i h h1 h2
      have e : (ks' ++ [(⟨0, s.length, [], 0⟩ : Tk)])[i] = ks'[i] := List.getElem_append_left h
      have hfi := hf ks'[i] (List.getElem_mem h)
      have hmi := mts_get hm i h1 h2
      rw [e] at hmi
      exact ⟨by rw [e]; exact hfi, fine_may hfi hmi⟩
    · intro h1
      have hmi := mts_get hm ks'.length (by simp) h1
      rw [List.getElem_append_right (Nat.le_refl _)] at hmi
      simp only [Nat.sub_self, List.getElem_cons_zero] at hmi
      obtain ⟨m1, m2, m3, m4⟩ := hmi
      refine ⟨?_, m1, m2⟩
      unfold endB TC.ti
      simp only
      rw [m1, m3, eq0_is m4]; rfl
    · intro i h1 h2
      have ha := mts_get hm i (by simp; omega) h2
      have hb := mts_get hm (i + 1) (by simp; omega) h1
      rw [ha.2.1, hb.2.1]
      by_cases hi : i + 1 < ks'.length
      · rw [List.getElem_append_left (by omega), List.getElem_append_left hi]
        exact List.pairwise_iff_getElem.1 hp i (i + 1) (by omega) hi (by omega)
      · have hi2 : i + 1 = ks'.length := by omega
        rw [List.getElem_append_left (by omega), List.getElem_append_right (by omega)]
        simp only [hi2, Nat.sub_self, List.getElem_cons_zero]
        exact (hf _ (List.getElem_mem _)).1
  · exact absurd rfl h
theorem cut_write {s : List UInt8} {ks : List Tk} {cs : List TC} (hc : Cut s (ks, 0, 0)) (hm : Mts ks cs) : (writeR (cs.map TC.ti)).2 = 0 ∨ (writeR (cs.map TC.ti)).2 = 3 := by
  obtain ⟨n, h1, h2, h3, h4, h5, _⟩ := cut_tokens hc hm
  refine writeR_errs _ (by rw [List.length_map]; omega) ?_ ?_
  · rw [List.getLast?_eq_getElem?, List.length_map, h1, Nat.add_sub_cancel, List.getElem?_eq_getElem (by rw [List.length_map]; omega), List.getElem_map]
    exact (h5 (by omega)).1
  · rw [List.all_eq_true]
    intro x hx
    obtain ⟨i, hi, rfl⟩ := List.mem_iff_getElem.1 hx
    rw [List.length_dropLast, List.length_map] at hi
    rw [List.getElem_dropLast, List.getElem_map]
    exact (h4 i (by omega) (by omega) (by omega)).2
theorem cut_small {s : List UInt8} {ks : List Tk} {cs : List TC} (hc : Cut s (ks, 0, 0)) (hm : Mts ks cs) : ∀ i (h : i < (cs.map TC.ti).length), (cs.map TC.ti)[i].text.size ≤ 140737488351232 := by
  obtain ⟨n, h1, h2, h3, h4, h5, _⟩ := cut_tokens hc hm
  intro i h
  rw [List.getElem_map]
  rw [List.length_map] at h
  by_cases hi : i < n
  · by_cases h3 : cs[i].ti.k = 3
    · have hb := (h4 i hi (by omega) h).2
      unfold mayB at hb
      rw [if_pos h3] at hb
      simp only [Bool.and_eq_true, List.isEmpty_iff] at hb
      rw [ba_size, hb.1]; simp
    · have := (piece_small (h4 i hi (by omega) h).2).2.2 h3
      omega
  · have hin : i = n := by omega
    subst hin
    have he := (h5 h).1
    unfold endB at he
    simp only [Bool.and_eq_true, List.isEmpty_iff] at he
    rw [ba_size, he.2.1]; simp

end Go.Proofs.YtkomjmgmancinaaDoor

namespace Go.Proofs.YtkomjmgmancinaaDoor
open Go.RowKit

def endT : TI := ⟨0, 0, ⟨#[]⟩, 0⟩
theorem writeR_one {t : TI} (hm : mayB t = true) : writeR [t, endT] = (pieceR t, 0) := by
  have hp := (piece_small hm).1
  unfold writeR
  rw [if_neg (by simp), if_neg (by simp [endT]; decide), if_neg (by simp [hm])]
  show (match writeGo [t] true [] with | none => (([] : List UInt8), (3 : Int)) | some s => (s, 0)) = _
  rw [writeGo, if_neg (by simp; omega)]
  simp [writeGo]
theorem spaced_snoc (l : List TI) (k : Nat) (hk : k < l.length) : spacedR (l.take (k + 1)) = spacedR (l.take k) ++ (pieceR l[k] ++ gapS) := by
  unfold spacedR
  rw [List.take_succ_eq_append_getElem hk, List.flatMap_append]
  simp
theorem spaced_len (l : List TI) (h : ∀ t ∈ l, mayB t = true) : (spacedR l).length ≤ l.length * 20010 := by
  induction l with
  | nil => simp [spacedR]
  | cons t l ih =>
    have h1 := (piece_small (h t List.mem_cons_self)).1
    have h2 := ih fun x hx => h x (List.mem_cons_of_mem _ hx)
    unfold spacedR at h2 ⊢
    rw [List.flatMap_cons, List.length_append, List.length_append, List.length_cons]
    have : gapS.length = 10 := rfl
    omega
theorem str_join (a b : List UInt8) (s : ByteArray) (hs : s.data.toList = b) : (⟨a.toArray⟩ : ByteArray) ++ s = ⟨(a ++ b).toArray⟩ := by
  refine text_eq (a := ⟨(a ++ b).toArray⟩) (b := _) rfl ?_
  rw [Joins.data_append, hs]
theorem two_sizes {t : TI} (h : t.text.size ≤ 140737488351232) (i : Nat) (hi : i < [t, endT].length) : [t, endT][i].text.size ≤ 140737488351232 := by
  match i, hi with
  | 0, _ => exact h
  | 1, _ => exact Nat.zero_le _
  | i + 2, hi => exact absurd hi (by simp)
theorem all_next {al pc X : List UInt8} (h : X = al ++ (pc ++ gapS)) : Value.string ((⟨al.toArray⟩ : ByteArray) ++ (⟨pc.toArray⟩ ++ ⟨#[32, 47, 42, 32, 59, 32, 42, 47, 10, 9]⟩)) = .string ⟨X.toArray⟩ := by
  rw [str_join pc gapS _ rfl, str_join al (pc ++ gapS) _ rfl, h]
/-- What stands ahead of the last comment. -/
def allR (l : List TI) : List UInt8 := [47, 47, 120, 10] ++ spacedR l
theorem tokens_spaces {l : List TI} (h : (writeR l).2 = 0) (hs : (allR l.dropLast ++ [47, 42, 42, 47]).length ≤ 65536) (W : World) (hm : Mx W) : Calls Tryd.prog 12 #[.string ⟨(allR l.dropLast ++ [47, 42, 42, 47]).toArray⟩] W fun e w' => ∃ v cs, e = .returned (.tuple #[v, .int .i64 0, .int .i64 0]) ∧ RowT W.heap.size cs v w' ∧ SameAll cs l ∧ Below W.heap.size W w' := by
  obtain ⟨t, h1, h2, h3, h4, h5, h6⟩ := writeR_ok h
  obtain ⟨ks, hk, hl⟩ := spaces_back h3 h2 h4 hs
  rw [← h1] at hl
  have T := tokens_any ⟨(allR l.dropLast ++ [47, 42, 42, 47]).toArray⟩ (by rw [ba_size]; show (allR l.dropLast ++ [47, 42, 42, 47]).length ≤ _; omega) W hm
  unfold TokensQ at T
  have hk2 : lexR (allR l.dropLast ++ [47, 42, 42, 47]) = (ks, 0, 0) := hk
  have ed : (ByteArray.mk (allR l.dropLast ++ [47, 42, 42, 47]).toArray).data.toList = allR l.dropLast ++ [47, 42, 42, 47] := rfl
  rw [ed, hk2] at T
  refine T.mono ?_
  rintro e w' ⟨v, cs, rfl, hr, hmm, hb⟩
  exact ⟨v, cs, rfl, hr, likes_same hl hmm, hb⟩

set_option maxHeartbeats 4000000 in
set_option maxRecDepth 100000 in
theorem law_spaces (l : List TI) (vl : Value) (w : World) (hl : RdT l vl w) (hz : ∀ i (h : i < l.length), l[i].text.size ≤ 140737488351232) (hm : Mx w) (ht : Tab w) :
    Calls Tryd.prog 8 #[vl] w fun e w' => e = .returned (.bool true) ∧ Below w.heap.size w w' := by
  have RL := hidB hl
  have M := hidB hm
  have TT := hidB ht
  have TL : Hid (∀ W, Below w.heap.size w W → Calls Tryd.prog 9 #[vl] W fun e w' => e = .returned (.tuple #[.string ⟨(writeR l).1.toArray⟩, .int .i64 (writeR l).2]) ∧ Below W.heap.size W w') := hidB (fun W hb => lexText_any l vl W (hl.on hb) hz (mx_below hm hb) (tab_on ht hb))
  obtain ⟨pl, cl, hvl, hcl, hcl2, hrg⟩ := hl
  unfold maxLen at hcl2
  have hlm : l.length ≤ 9223372036854775807 := by omega
  clear hm ht hcl hcl2
  by_cases hlong : 1000 < l.length
  · subst hvl
    have hb2 : (1000 : Int) < (l.length : Int) := by omega
    go_enter Tryd.func8, Tryd.ntmps8
    go_wp2_with fail
    refine (alive_any _ M.out).mono ?_; rintro e w1 ⟨rfl, hb⟩
    have B1 := hidB hb
    clear hb
    go_wp2_with fail
    go_ret
    exact ⟨rfl, B1.out⟩
  have hb2 : ¬ (1000 : Int) < (l.length : Int) := by omega
  by_cases hf : (writeR l).2 = 0
  · have TSP := hidB (fun (h : (allR l.dropLast ++ [47, 42, 42, 47]).length ≤ 65536) W (hm : Mx W) => tokens_spaces hf h W hm)
    obtain ⟨t, h1, h2, h3, h4, h5, h6⟩ := writeR_ok hf
    have hn0 : 0 < l.length := by rw [h1]; simp
    obtain ⟨g, o, rfl, hg, hcells⟩ := hrg hn0
    have hmay : ∀ k (h : k < l.length), k < l.length - 1 → mayB l[k] = true := fun k h hk => by
      refine h3 _ ?_
      rw [List.mem_iff_getElem]
      exact ⟨k, by rw [List.length_dropLast]; exact hk, by rw [List.getElem_dropLast]⟩
    have HM := hidB hmay
    have HC := hidB hcells
    have HG := hidB hg
    have hsl : ∀ k, k ≤ l.length - 1 → (allR (l.take k)).length ≤ 4 + k * 20010 := fun k hk => by
      have hx := spaced_len (l.dropLast.take k) (fun x hx => h3 x (List.mem_of_mem_take hx))
      rw [List.dropLast_eq_take, List.take_take, Nat.min_eq_left hk, List.length_take] at hx
      unfold allR
      rw [List.length_append]
      have : min k l.length = k := by omega
      rw [this] at hx
      simp
      omega
    have SL := hidB hsl
    have HZ2 := hidB (fun k (hk : k < l.length) i (h : i < [l[k], endT].length) => two_sizes (hz k hk) i h)
    have TL0 := hidB (fun W hb => TL.out W hb)
    rw [hf] at TL0
    generalize (writeR l).1 = us at *
    have hdl : l.dropLast = l.take (l.length - 1) := List.dropLast_eq_take
    have HD := hidB hdl
    obtain ⟨n, hn⟩ : ∃ n, l.length = n + 1 := ⟨l.length - 1, by omega⟩
    have HN := hidB hn
    have hni : (l.length : Int) - 1 = (n : Int) := by omega
    have hlm2 : n + 1 ≤ 1000 := by omega
    subst hvl
    clear hf h1 h2 h3 h4 h5 h6 hcells hrg hmay hg hdl hz TL hsl
    rw [hn] at TL0 RL hb2 ⊢
    clear hn hn0 hlong hlm hni
    have hni : (n : Int) + 1 - 1 = (n : Int) := by omega
    go_enter Tryd.func8, Tryd.ntmps8
    go_wp2_with fail
    refine (alive_any _ M.out).mono ?_; rintro e w1 ⟨rfl, hb⟩
    have B1 := hidB hb
    clear hb
    go_wp2_with fail
    refine (TL0.out _ B1.out).mono ?_; rintro e w2 ⟨rfl, hb⟩
    have B2 := hidB (B1.out.trans (hb.mono B1.out.size))
    clear hb
    go_wp2_with fail
    go_loopw [6, 7] (fun a i wr => ∃ k : Nat, k ≤ n ∧ i = .int .i64 k ∧ a = .string ⟨(allR (l.take k)).toArray⟩ ∧ Below w.heap.size w wr) (fun _ i _ => n - (intOf i).toNat)
    case atStart => exact ⟨0, by omega, rfl, rfl, B2.out⟩
    case round =>
      obtain ⟨k, hk, rfl, rfl, hb⟩ := hrel
      have Hb := hidB hb
      clear hb
      by_cases hlt : k < n
      · have hx1 : (k : Int) < (n : Int) := by omega
        have hx2 : (0 : Int) ≤ (k : Int) := by omega
        have hx3 : (k : Int) < (n : Int) + 1 := by omega
        have hkl : k < l.length := by have := HN.out; omega
        have hmk := HM.out k hkl (by have := HN.out; omega)
        have LD := hidB (range_on Hb.out HG.out (HC.out k hkl))
        have HS : Hid (allR (l.take (k + 1)) = allR (l.take k) ++ (pieceR l[k] ++ gapS)) := hidB (by unfold allR; rw [spaced_snoc l k hkl]; simp only [List.append_assoc])
        have P1 := hidB (writeR_one hmk)
        have P2 := hidB (piece_small hmk)
        have ZS : Hid (∀ i (h : i < [l[k], endT].length), [l[k], endT][i].text.size ≤ 140737488351232) := hidB (fun i h => HZ2.out k hkl i h)
        have RD := hidB (rdT_new [l[k], endT] wr #[.int .u8 l[k].k, .int .i64 l[k].p, .string l[k].text, .float .f64 l[k].num, .int .u8 0, .int .i64 0, .string ⟨#[]⟩, .float .f64 0] rfl 25 (by show 2 ≤ maxLen; decide) 2 rfl)
        have MW := hidB (mx_below M.out Hb.out)
        have TW := hidB (tab_on TT.out Hb.out)
        have TX := hidB (lexText_any [l[k], endT] _ _ RD.out ZS.out MW.out.alloc (tab_on TW.out (box_one _ _)))
        unfold TextQ at TX
        rw [P1.out] at TX
        have LD2 : Hid (wr.rangeAt g (o + k * 4) [.int .u8 l[k].k, .int .i64 l[k].p, .string l[k].text, .float .f64 l[k].num]) := LD
        have hal := SL.out k (by have := HN.out; omega)
        have hpc := P2.out.1
        have hgs : ¬ 9223372036854775807 < (pieceR l[k]).length + 10 := by omega
        have hgt : ¬ 9223372036854775807 < (allR (l.take k)).length + ((pieceR l[k]).length + 10) := by omega
        clear hmk LD P1 ZS RD
        generalize l[k].k = tk at *
        generalize l[k].p = tp at *
        generalize l[k].text = tt at *
        generalize l[k].num = tx at *
        generalize pieceR l[k] = pc at *
        generalize hA : allR (l.take k) = al at *
        have HA := hidB hA
        clear hA
        go_wp2_with (refine wpList_load_mid (by rfl) 25 (.tmp 38) (by rfl) g (o + k * 4) (by rfl) [.int .u8 tk, .int .i64 tp, .string tt, .float .f64 tx] _ LD2.out Tryd.underlying25 (by rfl) (by kernel_rfl) ?_)
        refine (TX.out).mono ?_; rintro e w3 ⟨rfl, hb⟩
        have B3 := hidB (Hb.out.trans (((box_one _ _).trans (hb.mono (by simp))).mono Hb.out.size))
        clear hb
        go_wp2_with fail
        go_roundw
        case rel => exact ⟨k + 1, by omega, by go_num, all_next HS.out, B3.out⟩
        case measure => simp [intOf]; omega
      · obtain rfl : k = n := by omega
        have hx4 : ¬ ((k : Int) < (k : Int)) := by omega
        have hdk : l.dropLast = l.take k := by rw [HD.out, HN.out, Nat.add_sub_cancel]
        rw [hdk] at TSP
        have SPz := SL.out k (by have := HN.out; omega)
        have hla : (ByteArray.mk (allR (l.take k)).toArray).size = (allR (l.take k)).length := by rw [ba_size]
        have Hla := hidB hla
        have TSP2 : Hid (¬ 65536 < (allR (l.take k)).length + 4 → ∀ W, Mx W → Calls Tryd.prog 12 #[.string ((⟨(allR (l.take k)).toArray⟩ : ByteArray) ++ ⟨#[47, 42, 42, 47]⟩)] W fun e w' => ∃ v cs, e = .returned (.tuple #[v, .int .i64 0, .int .i64 0]) ∧ RowT W.heap.size cs v w' ∧ SameAll cs l ∧ Below W.heap.size W w') := hidB (fun h W hm => by
          rw [str_join _ [47, 42, 42, 47] _ rfl]
          exact TSP.out (by rw [List.length_append]; show (allR (l.take k)).length + 4 ≤ 65536; omega) W hm)
        clear TSP hdk hla hlt
        generalize allR (l.take k) = al at *
        by_cases hbig : 65536 < al.length + 4
        · have hbi : (65536 : Int) < (al.length : Int) + 4 := by omega
          go_wp2_with fail
          go_ret
          exact ⟨rfl, Hb.out⟩
        · have hbi : ¬ (65536 : Int) < (al.length : Int) + 4 := by omega
          have hbm : ¬ 9223372036854775807 < al.length + 4 := by omega
          have TS := hidB (TSP2.out hbig)
          clear TSP2
          go_wp2_with fail
          refine (TS.out _ (mx_below M.out Hb.out)).mono ?_; rintro e w4 ⟨v4, c4, rfl, hr4, hs4, hb⟩
          have B4 := hidB (Hb.out.trans (hb.mono Hb.out.size))
          have SB2 := hidB (same_back hr4 (RL.out.on B4.out) hs4)
          clear hb hr4 hs4 TS
          go_wp2_with fail
          refine (SB2.out).mono ?_; rintro e w5 ⟨rfl, hb⟩
          have B5 := hidB (B4.out.trans (hb.mono B4.out.size))
          clear hb SB2
          go_wp2_with fail
          go_ret
          exact ⟨rfl, B5.out⟩
  · subst hvl
    have hfb : ((writeR l).2 != 0) = true := by rw [bne_iff_ne]; exact hf
    have TL0 := hidB (fun W hb => TL.out W hb)
    generalize (writeR l).2 = fs at *
    generalize (writeR l).1 = us at *
    clear hf hrg hz TL hlong
    go_enter Tryd.func8, Tryd.ntmps8
    go_wp2_with fail
    refine (alive_any _ M.out).mono ?_; rintro e w1 ⟨rfl, hb⟩
    have B1 := hidB hb
    clear hb
    go_wp2_with fail
    refine (TL0.out _ B1.out).mono ?_; rintro e w2 ⟨rfl, hb⟩
    have B2 := hidB (B1.out.trans (hb.mono B1.out.size))
    clear hb
    go_wp2_with fail
    go_ret
    exact ⟨rfl, B2.out⟩

end Go.Proofs.YtkomjmgmancinaaDoor
