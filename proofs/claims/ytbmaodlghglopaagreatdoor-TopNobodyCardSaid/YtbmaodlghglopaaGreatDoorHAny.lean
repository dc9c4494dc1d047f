/-
  Is there a property that a function picks?
-/
import Derived.Test.YtbmaodlghglopaaGreatDoorHIndex
namespace Go.Proofs.YtbmaodlghglopaaGreatDoor
open Go.RowKit

/-- A function value that tells of each property of a list whether it is picked. -/
structure Pick (fn : FuncId) (cap : Array Value) (tst : PI → Bool) (l : List PI) (w : World) : Prop where
  body : ∀ args W, (callFunc fn args).run Tryz.prog W = .ok (.enter fn args) W
  run : ∀ q ∈ l, ∀ W, Below w.heap.size w W → Calls Tryz.prog fn (#[q.a] ++ cap) W fun e w' => e = .returned (.bool (tst q)) ∧ Below W.heap.size W w'
def IdxP (tst : PI → Bool) (l : List PI) (w : World) (e : Ending) (w' : World) : Prop := ∃ n : Int, e = .returned (.int .i64 n) ∧ decide (0 ≤ n) = l.any tst ∧ Below w.heap.size w w'

set_option maxHeartbeats 8000000 in
set_option maxRecDepth 100000 in
theorem indexP_any (fn : FuncId) (cap : Array Value) (tst : PI → Bool) (l : List PI) (v : Value) (w : World) (hr : RdP l v w) (hf : Pick fn cap tst l w) : Calls Tryz.prog 123 #[v, .func (.func fn) #[] cap] w (IdxP tst l w) := by
  obtain ⟨pa, c, rfl, h1, h2, h3⟩ := hr
  unfold maxLen at h2
  have hlm : l.length ≤ 9223372036854775807 := by omega
  have HC := hidB h3
  have HF := hidB hf
  clear h3 hf
  go_enter Tryz.func123, Tryz.ntmps123
  go_wp2_with fail
  go_loopw [8] (fun i wr => ∃ k : Nat, k ≤ l.length ∧ i = .int .i64 k ∧ (l.take k).any tst = false ∧ Below w.heap.size w wr) (fun i _ => l.length - (intOf i).toNat)
  case atStart => exact ⟨0, by omega, rfl, rfl, Below.refl _ _⟩
  case round =>
    obtain ⟨k, hk, rfl, ha, hb⟩ := hrel
    have Ha := hidB ha
    have B := hidB hb
    clear ha hb
    by_cases hlt : k < l.length
    · have hx1 : (k : Int) < (l.length : Int) := by omega
      have hx2 : (0 : Int) ≤ (k : Int) := by omega
      obtain ⟨g, o, rfl, hg, hcell⟩ := HC.out (by omega)
      have HR := hidB (rangeOn B.out hg (hcell k hlt))
      have BV := hidB (HF.out.run l[k] (List.getElem_mem hlt))
      have BD := hidB HF.out.body
      have HQ := hidB (show (l.take (k + 1)).any tst = tst (l[k]'hlt) by rw [List.take_succ_eq_append_getElem hlt, List.any_append, Ha.out, Bool.false_or]; simp)
      have HI := hidB (show tst (l[k]'hlt) = true → l.any tst = true from fun h => List.any_eq_true.2 ⟨l[k], List.getElem_mem hlt, h⟩)
      clear HC hcell hg Ha HF
      generalize l[k]'hlt = kk at *
      go_wp2_with (first | ((with_reducible refine ldId 91 (.tmp 14) ?_); refine wpList_load_mid (by rfl) 91 (.tmp 14) (by rfl) g (o + k * 18) (by rfl) kk.cs.toList _ (by exact HR.out) Tryz.underlying91 (by rfl) (by kernel_rfl) ?_))
      rw [BD.out, Oper.upon_enter]
      refine (BV.out _ B.out).mono ?_; rintro e w2 ⟨rfl, hb⟩
      replace B := hidB (B.out.trans (hb.mono B.out.size))
      clear hb BV BD
      have HT := hidB (rfl : tst kk = tst kk)
      generalize hm : tst kk = m at *
      cases m
      · have HQ2 := hidB HQ.out
        clear hm HT
        go_wp2_with fail
        go_roundw
        case rel => exact ⟨k + 1, by omega, by go_num, HQ2.out, B.out⟩
        case measure => simp [intOf]; omega
      · have HQ2 := hidB (HI.out rfl)
        clear hm HT
        go_wp2_with fail
        go_ret
        exact ⟨k, rfl, by rw [HQ2.out]; exact decide_eq_true (by omega), B.out⟩
    · obtain rfl : k = l.length := by omega
      have hx4 : ¬ ((l.length : Int) < (l.length : Int)) := by omega
      have HE : Hid (l.any tst = false) := hidB (by have := Ha.out; rwa [List.take_length] at this)
      clear Ha HC hk
      go_wp2_with fail
      go_ret
      exact ⟨-1, rfl, by rw [HE.out]; rfl, B.out⟩
set_option maxHeartbeats 8000000 in
set_option maxRecDepth 100000 in
theorem containsP_any (fn : FuncId) (cap : Array Value) (tst : PI → Bool) (l : List PI) (v : Value) (w : World) (hr : RdP l v w) (hf : Pick fn cap tst l w) : Calls Tryz.prog 98 #[v, .func (.func fn) #[] cap] w fun e w' => e = .returned (.bool (l.any tst)) ∧ Below w.heap.size w w' := by
  have CI := hidB (indexP_any fn cap tst l v w hr hf)
  clear hf hr
  go_enter Tryz.func98, Tryz.ntmps98
  go_wp2_with fail
  refine CI.out.mono ?_; rintro e w2 ⟨n, rfl, hn, hb⟩
  have HN := hidB hn
  have HB := hidB hb
  clear hn hb CI
  go_wp2_with fail
  go_ret
  exact ⟨ret_bool (by rw [← HN.out]), HB.out⟩

end Go.Proofs.YtbmaodlghglopaaGreatDoor
