/-
  Descriptors: the walks of desc.Complete and of whole.
-/
import Derived.Test.YtnidamkgfgddfaaDescChk
namespace Go.Proofs.Ytnidamkgfgddfaa
open Go.RowKit

theorem results_row2 {P : Program} {fn : Func} {p u : Tmp} {ty : TypeId} (h : fn.results = #[.cell p ty, .tmp u]) (tmps : Array Value) (w : World) (g : Nat) (t : TypeId) (cs : Array Value) (fr : Nat × Nat) (d : TypeDesc)
    (hp : tmps.getD p undef = .pointer (some ⟨g, 0, none⟩)) (hg : w.heap[g]? = some (.cells cs t fr))
    (hu : P.underlying ty = some d) (hd : (match d with | .struct _ | .array _ _ => true | _ => false) = true) (hi : (P.info? ty).map (·.size) = some cs.size) :
    (results fn tmps).run P w = .ok (.tuple #[.agg cs, tmps.getD u undef]) w := by
  have hp' : tmps[p]?.getD undef = .pointer (some ⟨g, 0, none⟩) := by simpa using hp
  simp [results, h, hp', asAddr, run_loadVar_row w g t ty cs fr d hg hu hd hi]
theorem DI.one (d : DI) : d.cs.all (·.oneCell') = true := by
  rw [Array.all_eq_true_iff_forall_mem]
  intro u hu
  simp only [DI.cs, List.mem_toArray, List.mem_cons, List.not_mem_nil, or_false] at hu
  rcases hu with rfl | rfl | rfl | rfl | rfl | rfl | rfl | rfl | rfl | rfl | rfl | rfl | rfl | rfl | rfl | rfl <;> rfl
theorem size_desc : (Try.prog.info? 63).map (·.size) = some 16 := by kernel_rfl
/-- A descriptor made complete, or its error. -/
def DI.com (d : DI) : DI := if d.err = 0 then d.whole else DI.zero

set_option maxHeartbeats 4000000 in
set_option maxRecDepth 100000 in
theorem complete_any (d : DI) (hd : d.ok) (w : World) : Calls Try.prog 51 #[d.a] w fun e w' => e = .returned (.tuple #[d.com.a, .int .i64 d.err]) ∧ Below w.heap.size w w' := by
  have CA := hidB (fun W => descCheck_any d hd W)
  have WA := hidB (fun W => wholeD_any d W)
  unfold DI.com
  clear hd
  have U := hidB (show Bk ((w.alloc (.cells d.cs 63)).alloc (.cells #[.int .u8 0, .int .u8 0, .float .f64 0, .string ⟨#[]⟩, .int .i64 0, .int .u8 0, .float .f64 0, .string ⟨#[]⟩, .int .i64 0, .int .u8 0, .float .f64 0, .string ⟨#[]⟩, .int .i64 0, .bool false, .bool false, .bool false] 63)) w.heap.size 63 d.cs from (Bk.new w _ _).alloc _)
  have R := hidB (show Bk ((w.alloc (.cells d.cs 63)).alloc (.cells #[.int .u8 0, .int .u8 0, .float .f64 0, .string ⟨#[]⟩, .int .i64 0, .int .u8 0, .float .f64 0, .string ⟨#[]⟩, .int .i64 0, .int .u8 0, .float .f64 0, .string ⟨#[]⟩, .int .i64 0, .bool false, .bool false, .bool false] 63)) (w.heap.size + 1) 63 DI.zero.cs from Bk.new2 w _ _ _)
  have Bt := hidB (show Below w.heap.size w ((w.alloc (.cells d.cs 63)).alloc (.cells #[.int .u8 0, .int .u8 0, .float .f64 0, .string ⟨#[]⟩, .int .i64 0, .int .u8 0, .float .f64 0, .string ⟨#[]⟩, .int .i64 0, .int .u8 0, .float .f64 0, .string ⟨#[]⟩, .int .i64 0, .bool false, .bool false, .bool false] 63)) from (box_one w _).alloc (by simp) _)
  by_cases he : d.err = 0
  · rw [if_pos he, he]
    rw [he] at CA
    clear he
    go_enter Try.func51, Try.ntmps51
    go_upto_region 1 with fail
    generalize ((w.alloc (.cells d.cs 63)).alloc (.cells #[.int .u8 0, .int .u8 0, .float .f64 0, .string ⟨#[]⟩, .int .i64 0, .int .u8 0, .float .f64 0, .string ⟨#[]⟩, .int .i64 0, .int .u8 0, .float .f64 0, .string ⟨#[]⟩, .int .i64 0, .bool false, .bool false, .bool false] 63)) = w1 at *
    go_wp2_with (first | ((with_reducible refine ldId 63 (.tmp 1) ?_); refine wpList_load_row (by rfl) 63 (.tmp 1) (by rfl) w.heap.size (by rfl) 63 _ (0, 0) _ (by exact U.out) Try.underlying63 (by rfl) (by exact size_desc) ?_))
    refine (CA.out _).mono ?_; rintro e w2 ⟨rfl, hb⟩
    have U2 := hidB (U.out.on hb)
    have R2 := hidB (R.out.on hb)
    have B2 := hidB (Bt.out.trans (hb.mono Bt.out.size))
    clear hb U R Bt
    go_wp2_with (first | ((with_reducible refine ldId 63 (.tmp 1) ?_); refine wpList_load_row (by rfl) 63 (.tmp 1) (by rfl) w.heap.size (by rfl) 63 _ (0, 0) _ (by exact U2.out) Try.underlying63 (by rfl) (by exact size_desc) ?_))
    refine (WA.out _).mono ?_; rintro e w3 ⟨rfl, hb⟩
    have R3 := hidB (R2.out.on hb)
    have B3 := hidB (B2.out.trans (hb.mono B2.out.size))
    clear hb U2 R2 B2
    go_wp2_with (first | ((with_reducible refine wpId ?_); refine wpList_store_row (by rfl) 63 (.tmp 2) (.tmp 12) (by rfl) (w.heap.size + 1) d.whole.cs (by rfl) (by rfl) 63 DI.zero.cs (by exact R3.out) (by exact size_desc) (by rfl) (by exact DI.one _) ?_))
    exact bodyPost_ret (v := .tuple #[d.whole.a, .int .i64 0]) (results_row2 Try.results51 _ _ (w.heap.size + 1) 63 d.whole.cs (0, 0) _ rfl (R3.out.setRow _) Try.underlying63 rfl size_desc) rfl ⟨rfl, below_setRow B3.out (by omega) _⟩
  · rw [if_neg he]
    have hne : (d.err != 0) = true := by rw [bne_iff_ne]; exact he
    generalize d.err = er at *
    clear he
    go_enter Try.func51, Try.ntmps51
    go_upto_region 1 with fail
    generalize ((w.alloc (.cells d.cs 63)).alloc (.cells #[.int .u8 0, .int .u8 0, .float .f64 0, .string ⟨#[]⟩, .int .i64 0, .int .u8 0, .float .f64 0, .string ⟨#[]⟩, .int .i64 0, .int .u8 0, .float .f64 0, .string ⟨#[]⟩, .int .i64 0, .bool false, .bool false, .bool false] 63)) = w1 at *
    go_wp2_with (first | ((with_reducible refine ldId 63 (.tmp 1) ?_); refine wpList_load_row (by rfl) 63 (.tmp 1) (by rfl) w.heap.size (by rfl) 63 _ (0, 0) _ (by exact U.out) Try.underlying63 (by rfl) (by exact size_desc) ?_))
    refine (CA.out _).mono ?_; rintro e w2 ⟨rfl, hb⟩
    have R2 := hidB (R.out.on hb)
    have B2 := hidB (Bt.out.trans (hb.mono Bt.out.size))
    clear hb U R Bt
    go_wp2_with (first | ((with_reducible refine wpId ?_); refine wpList_store_row (by rfl) 63 (.tmp 2) (.tmp 9) (by rfl) (w.heap.size + 1) DI.zero.cs (by rfl) (by rfl) 63 DI.zero.cs (by exact R2.out) (by exact size_desc) (by rfl) (by exact DI.one _) ?_))
    exact bodyPost_ret (v := .tuple #[DI.zero.a, .int .i64 er]) (results_row2 Try.results51 _ _ (w.heap.size + 1) 63 DI.zero.cs (0, 0) _ rfl (R2.out.setRow _) Try.underlying63 rfl size_desc) rfl ⟨rfl, below_setRow B2.out (by omega) _⟩
  
/-- Complete as it stands. -/
def DI.isW (d : DI) : Bool := (d.err == 0) && (d.com.has == d.has)
end Go.Proofs.Ytnidamkgfgddfaa
