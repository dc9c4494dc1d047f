/-
  The walk of the reference's token: names and words.
-/
import Derived.Test.YtkomjmgmancinaaDoorRefWords
namespace Go.Proofs.YtkomjmgmancinaaDoor
open Go.RowKit

set_option maxHeartbeats 4000000 in
set_option maxRecDepth 100000 in
theorem rtok_let (s : ByteArray) (p : Nat) (hp : p < s.size) (hs : s.size ≤ 70000) (hc : isLet s[p] = true) (w : World) : Calls Tryd.prog 38 #[.string s, .int .i64 p] w (TokAt s.data.toList p w) := by
  have K1 := hidB (fun W => first_any s[p] W)
  rw [hc] at K1
  have hpl : p < s.data.toList.length := by rw [← ba_size]; exact hp
  have hl0 : 0 < (s.data.toList.drop p).length := by rw [List.length_drop]; omega
  have hcl : (s.data.toList.drop p)[0] = s[p] := by rw [drop_head hpl]; rfl
  have HT := hidB (tokR_let (s.data.toList.drop p) hl0 (by rw [hcl]; exact hc))
  have R := hidB (fun W => named_any s (by omega) p (by omega) W)
  have hrl := runN_le (s.data.toList.drop p)
  rw [List.length_drop, ← ba_size] at hrl
  have WD := hidB (fun W m (hm : m = p + runN (s.data.toList.drop p)) => by have h := refWord_any (s.extract p m) (by have := cut_size s p m; omega) W; rw [cut_data s p _ m hm] at h; exact h)
  have TD := hidB (fun m (hm : m = p + runN (s.data.toList.drop p)) => cut_data s p _ m hm)
  clear hpl hl0 hcl hc
  generalize runN (s.data.toList.drop p) = n at *
  obtain ⟨m, hm⟩ : ∃ m, m = p + n := ⟨_, rfl⟩
  rw [← hm] at R
  replace WD := hidB (fun W => WD.out W m hm)
  replace TD := hidB (TD.out m hm)
  have HM := hidB hm
  have hx0 : (0 : Int) ≤ (p : Int) := by omega
  have hx1 : (p : Int) < (s.size : Int) := by omega
  have hx2 : (p : Int) ≤ (m : Int) := by omega
  have hx3 : (m : Int) ≤ (s.size : Int) := by omega
  have hw1 : IntKind.i64.wrap ((m : Int) - (p : Int)) = (m : Int) - (p : Int) := IntWalk.i64_in _ (by omega)
  clear hm hrl
  cases hw : wordB ((s.data.toList.drop p).take n)
  · rw [hw] at WD HT
    clear hw
    by_cases hn : 4096 < n
    · rw [if_pos hn] at HT
      have hx4 : (4096 : Int) < (m : Int) - (p : Int) := by have := HM.out; omega
      go_enter Tryd.func38, Tryd.ntmps38
      go_wp2_with fail
      refine (K1.out _).mono ?_; rintro e w1 ⟨rfl, rfl⟩
      go_wp2_with fail
      refine (R.out _).mono ?_; rintro e w1 ⟨rfl, rfl⟩
      go_wp2_with fail
      refine (WD.out _).mono ?_; rintro e w1 ⟨rfl, rfl⟩
      go_wp2_with fail
      refine bodyPost_ret (v := .tuple #[.agg #[.int .u8 0, .int .i64 0, .string ⟨#[]⟩, .float .f64 0], .int .i64 p, .bool false]) (by simp [results, Tryd.results38, go_sem]) rfl ?_
      exact tokAt_bad HT.out (by omega) _ _ _ _ (box_two _ _ _)
    · rw [if_neg hn] at HT
      have hx4 : ¬ (4096 : Int) < (m : Int) - (p : Int) := by have := HM.out; omega
      go_enter Tryd.func38, Tryd.ntmps38
      go_wp2_with fail
      refine (K1.out _).mono ?_; rintro e w1 ⟨rfl, rfl⟩
      go_wp2_with fail
      refine (R.out _).mono ?_; rintro e w1 ⟨rfl, rfl⟩
      go_wp2_with fail
      refine (WD.out _).mono ?_; rintro e w1 ⟨rfl, rfl⟩
      go_wp2_with fail
      refine bodyPost_ret (v := .tuple #[.agg #[.int .u8 1, .int .i64 p, .string (s.extract p m), .float .f64 0], .int .i64 m, .bool true]) (by simp [results, Tryd.results38, go_sem]) rfl ?_
      exact tokAt_ok HT.out rfl (show ((m : Nat) : Int) = ((p + n : Nat) : Int) by have := HM.out; omega) rfl rfl TD.out Fl.is_0 (box_two _ _ _)
  · rw [hw] at WD HT
    clear hw
    by_cases hn : 4096 < n
    · rw [if_pos hn] at HT
      have hx4 : (4096 : Int) < (m : Int) - (p : Int) := by have := HM.out; omega
      go_enter Tryd.func38, Tryd.ntmps38
      go_wp2_with fail
      refine (K1.out _).mono ?_; rintro e w1 ⟨rfl, rfl⟩
      go_wp2_with fail
      refine (R.out _).mono ?_; rintro e w1 ⟨rfl, rfl⟩
      go_wp2_with fail
      refine (WD.out _).mono ?_; rintro e w1 ⟨rfl, rfl⟩
      go_wp2_with fail
      refine bodyPost_ret (v := .tuple #[.agg #[.int .u8 0, .int .i64 0, .string ⟨#[]⟩, .float .f64 0], .int .i64 p, .bool false]) (by simp [results, Tryd.results38, go_sem]) rfl ?_
      exact tokAt_bad HT.out (by omega) _ _ _ _ (box_two _ _ _)
    · rw [if_neg hn] at HT
      have hx4 : ¬ (4096 : Int) < (m : Int) - (p : Int) := by have := HM.out; omega
      go_enter Tryd.func38, Tryd.ntmps38
      go_wp2_with fail
      refine (K1.out _).mono ?_; rintro e w1 ⟨rfl, rfl⟩
      go_wp2_with fail
      refine (R.out _).mono ?_; rintro e w1 ⟨rfl, rfl⟩
      go_wp2_with fail
      refine (WD.out _).mono ?_; rintro e w1 ⟨rfl, rfl⟩
      go_wp2_with fail
      refine bodyPost_ret (v := .tuple #[.agg #[.int .u8 2, .int .i64 p, .string (s.extract p m), .float .f64 0], .int .i64 m, .bool true]) (by simp [results, Tryd.results38, go_sem]) rfl ?_
      exact tokAt_ok HT.out rfl (show ((m : Nat) : Int) = ((p + n : Nat) : Int) by have := HM.out; omega) rfl rfl TD.out Fl.is_0 (box_two _ _ _)

end Go.Proofs.YtkomjmgmancinaaDoor
