/-
  A trap's answer held against the facts: post.Check, whole.
-/
import Derived.Test.YtlpldhcoplbopaaPostCheckK
import Derived.Test.YtlpldhcoplbopaaPostCheck5
namespace Go.Proofs.Ytlpldhcoplbopaa
open Go.RowKit

theorem asked_m {a : AI} {x : OI} {lk : List KI} (h : askedE a x lk = 0) : 1 ≤ a.m ∧ a.m ≤ 13 := by
  unfold askedE at h
  by_cases hb : a.m < 1 ∨ 13 < a.m ∨ x.kd ≠ 1
  · rw [if_pos hb] at h; exact absurd h (by decide)
  · omega
theorem known_len {f : FI} {ks : List KI} {ds : List DI} (h : knownE 11 f ks ds = 0) : ds.length = ks.length := by
  have h : ownE ks ds = 0 := h
  unfold ownE at h
  by_cases h1 : keysE ks = 0
  · rw [if_neg (fun hn => hn h1)] at h
    by_cases h2 : Apart ks
    · rw [if_neg (fun hn => hn h2)] at h
      by_cases h3 : ds.length = ks.length
      · exact h3
      · rw [if_pos h3] at h; exact absurd h (by decide)
    · rw [if_pos h2] at h; exact absurd h (by decide)
  · rw [if_pos h1] at h; exact absurd h h1
theorem check_any (a : AI) (x : OI) (f : FI) (lk ks : List KI) (ds : List DI) (hnil : NilOr x.keys) (w : World) (h : AskOk a x lk w) (hf : FactsOk f ks ds w) : Calls Try.prog 13 #[a.a, x.a, f.a] w fun e w' => ∃ kv, (∃ q c, kv = .slice q lk.length c) ∧ e = .returned (.tuple #[(chkO a x f lk ks ds kv).a, .bool (chkB a x f lk ks ds), .int .i64 (chkE a x f lk ks ds)]) ∧ Below w.heap.size w w' := by
  by_cases he : askedE a x lk = 0
  · have hm := asked_m he
    have hE : chkE a x f lk ks ds = knownE a.m f ks ds := by unfold chkE; rw [if_neg (fun hn => hn he)]
    by_cases hk : knownE a.m f ks ds = 0
    · have hl : a.m = 11 → ds.length = ks.length := fun e => known_len (f := f) (by rw [← e]; exact hk)
      have hB : chkB a x f lk ks ds = wellB a x f lk ks ds := by unfold chkB; rw [hE, hk]; rfl
      cases hw : wellB a x f lk ks ds
      · refine (check_bad3 a x f lk ks ds hm hl he hk hw w h hf).mono fun e w' hh => ⟨.slice none lk.length 0, ⟨_, _, rfl⟩, ?_, hh.2⟩
        unfold chkO
        rw [hB, hw, hE, hk]; exact hh.1
      · have hO : ∀ kv, chkO a x f lk ks ds kv = outO a.m x kv := fun kv => by unfold chkO; rw [hB, hw]; rfl
        have fin : ∀ {v : OI} {e : Ending} {w' : World}, (outO a.m x (.slice none lk.length 0) = v) → (e = .returned (.tuple #[OI.a v, .bool true, .int .i64 0]) ∧ Below w.heap.size w w') → ∃ kv, (∃ q c, kv = .slice q lk.length c) ∧ e = .returned (.tuple #[(chkO a x f lk ks ds kv).a, .bool (chkB a x f lk ks ds), .int .i64 (chkE a x f lk ks ds)]) ∧ Below w.heap.size w w' :=
          fun hv hh => ⟨.slice none lk.length 0, ⟨_, _, rfl⟩, by rw [hO, hB, hw, hE, hk, hv]; exact hh.1, hh.2⟩
        have hmm : a.m = 1 ∨ a.m = 2 ∨ a.m = 3 ∨ a.m = 4 ∨ a.m = 5 ∨ a.m = 6 ∨ a.m = 7 ∨ a.m = 8 ∨ a.m = 9 ∨ a.m = 10 ∨ a.m = 11 ∨ a.m = 12 ∨ a.m = 13 := by omega
        rcases hmm with h2 | h2 | h2 | h2 | h2 | h2 | h2 | h2 | h2 | h2 | h2 | h2 | h2
        · exact (check_val1 a x f lk ks ds h2 hm hl he hk hw w h hf).mono fun e w' hh => fin (by rw [h2]; rfl) hh
        · exact (check_bool2 a x f lk ks ds h2 hm hl he hk hw w h hf).mono fun e w' hh => fin (by rw [h2]; rfl) hh
        · exact (check_bool3 a x f lk ks ds h2 hm hl he hk hw w h hf).mono fun e w' hh => fin (by rw [h2]; rfl) hh
        · exact (check_bool4 a x f lk ks ds h2 hm hl he hk hw w h hf).mono fun e w' hh => fin (by rw [h2]; rfl) hh
        · cases hfo : x.fo
          · exact (check_no a x f lk ks ds h2 hm hl he hk hw hfo w h hf).mono fun e w' hh => fin (by rw [h2]; unfold outO; simp [hfo, OI.done]) hh
          · exact (check_yes a x f lk ks ds h2 hm hl he hk hw hfo h.xd w h hf).mono fun e w' hh => fin (by rw [h2]; unfold outO; simp [hfo]) hh
        · exact (check_bool6 a x f lk ks ds h2 hm hl he hk hw w h hf).mono fun e w' hh => fin (by rw [h2]; rfl) hh
        · exact (check_bool7 a x f lk ks ds h2 hm hl he hk hw w h hf).mono fun e w' hh => fin (by rw [h2]; rfl) hh
        · exact (check_val8 a x f lk ks ds h2 hm hl he hk hw w h hf).mono fun e w' hh => fin (by rw [h2]; rfl) hh
        · exact (check_bool9 a x f lk ks ds h2 hm hl he hk hw w h hf).mono fun e w' hh => fin (by rw [h2]; rfl) hh
        · exact (check_bool10 a x f lk ks ds h2 hm hl he hk hw w h hf).mono fun e w' hh => fin (by rw [h2]; rfl) hh
        · refine (check_keys a x f lk ks ds h2 hnil hm hl he hk hw w h hf).mono fun e w' hh => ?_
          obtain ⟨kv, hkv, hx, hb⟩ := hh
          exact ⟨kv, hkv, by rw [hO, hB, hw, hE, hk, h2]; exact hx, hb⟩
        · exact (check_val12 a x f lk ks ds h2 hm hl he hk hw w h hf).mono fun e w' hh => fin (by rw [h2]; rfl) hh
        · exact (check_val13 a x f lk ks ds h2 hm hl he hk hw w h hf).mono fun e w' hh => fin (by rw [h2]; rfl) hh
    · refine (check_bad2 a x f lk ks ds hm he hk w h hf).mono fun e w' hh => ⟨.slice none lk.length 0, ⟨_, _, rfl⟩, ?_, hh.2⟩
      have hB : chkB a x f lk ks ds = false := by unfold chkB; rw [hE, beq_eq_false_iff_ne.2 hk]; rfl
      unfold chkO
      rw [hB, hE]; exact hh.1
  · refine (check_bad1 a x f lk ks ds he w h hf).mono fun e w' hh => ⟨.slice none lk.length 0, ⟨_, _, rfl⟩, ?_, hh.2⟩
    have hE : chkE a x f lk ks ds = askedE a x lk := by unfold chkE; rw [if_pos he]
    have hB : chkB a x f lk ks ds = false := by unfold chkB; rw [hE, beq_eq_false_iff_ne.2 he]; rfl
    unfold chkO
    rw [hB, hE]; exact hh.1

end Go.Proofs.Ytlpldhcoplbopaa
