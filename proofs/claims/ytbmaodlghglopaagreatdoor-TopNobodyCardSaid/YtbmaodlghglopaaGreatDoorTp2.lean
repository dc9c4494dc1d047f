/-
  The engine on an object that lies in a heap: where it has a property, and what it tells of itself.
-/
import Derived.Test.YtbmaodlghglopaaGreatDoorMxA
import Derived.Test.YtbmaodlghglopaaGreatDoorTp1
namespace Go.Proofs.YtbmaodlghglopaaGreatDoor
open Go.RowKit

/-- An object in a heap, with its properties. -/
structure RdJ (e : OJ × List PI) (g o : Nat) (w : World) : Prop where
  lt : g < w.heap.size
  row : w.rangeAt g o e.1.cs.toList
  props : RdP e.2 e.1.props w
theorem RdJ.on {e : OJ × List PI} {g o : Nat} {w w' : World} (h : RdJ e g o w) (hb : Below w.heap.size w w') : RdJ e g o w' := ⟨Nat.lt_of_lt_of_le h.lt hb.size, rangeOn hb h.lt h.row, h.props.on hb⟩
theorem RdH.obj {h : HI} {hv : Value} {w : World} (r : RdH h hv w) {n : Nat} (hn : n < h.length) : ∃ g o c, hv = .slice (some ⟨g, o, none⟩) h.length c ∧ h.length ≤ maxLen ∧ RdJ h[n] g (o + n * 18) w := by
  obtain ⟨⟨pa, c, rfl, h1, h2, h3⟩, hp⟩ := r
  obtain ⟨g, o, rfl, hg, hrow⟩ := h3 (by omega)
  exact ⟨g, o, c, rfl, Nat.le_trans h1 h2, hg, hrow n hn, hp _ (List.getElem_mem hn)⟩
/-- Which property a function picks. -/
def PickR (tst : PI → Bool) (l : List PI) (n : Int) : Prop := (n = -1 ∧ l.find? tst = none) ∨ ∃ i, ∃ h : i < l.length, n = i ∧ l.find? tst = some l[i]
theorem pick_take {tst : PI → Bool} {l : List PI} {i : Nat} (h : i < l.length) (h0 : (l.take i).find? tst = none) : (tst l[i] = true → l.find? tst = some l[i]) ∧ (tst l[i] = false → (l.take (i + 1)).find? tst = none) := by
  refine ⟨fun he => ?_, fun he => ?_⟩
  · have e : l.find? tst = (l.take i ++ l.drop i).find? tst := by rw [List.take_append_drop]
    rw [e, List.find?_append, h0, List.drop_eq_getElem_cons h, List.find?_cons, he]
    simp
  · rw [List.take_succ_eq_append_getElem h, List.find?_append, h0, List.find?_cons, he]; rfl
theorem results_tr {P : Program} {fn : Func} {p u : Tmp} {ty : TypeId} (h : fn.results = #[.tmp u, .cell p ty]) (tmps : Array Value) (w : World) (g : Nat) (t : TypeId) (cs : Array Value) (fr : Nat × Nat) (d : TypeDesc)
    (hp : tmps.getD p undef = .pointer (some ⟨g, 0, none⟩)) (hg : w.heap[g]? = some (.cells cs t fr))
    (hu : P.underlying ty = some d) (hd : (match d with | .struct _ | .array _ _ => true | _ => false) = true) (hi : (P.info? ty).map (·.size) = some cs.size) :
    (results fn tmps).run P w = .ok (.tuple #[tmps.getD u undef, .agg cs]) w := by
  have hp' : tmps[p]?.getD undef = .pointer (some ⟨g, 0, none⟩) := by simpa using hp
  simp [results, h, hp', asAddr, run_loadVar_row w g t ty cs fr d hg hu hd hi]
/-- What an object tells of an own property. -/
def ownI (e : OJ × List PI) (k : KI) : OI := match findP e.2 k with
  | some q => { OI.zero with kd := 1, fo := true, d := q.d }
  | none => { OI.zero with kd := 1 }
theorem ownI_key (e : OJ × List PI) (k : KI) : (ownI e k).keys.oneCell' = true := by unfold ownI; split <;> rfl

set_option maxHeartbeats 8000000 in
set_option maxRecDepth 100000 in
theorem pickP_any (fn : FuncId) (cap : Array Value) (tst : PI → Bool) (l : List PI) (v : Value) (w : World) (hr : RdP l v w) (hf : Pick fn cap tst l w) : Calls Tryz.prog 123 #[v, .func (.func fn) #[] cap] w fun e w' => ∃ n : Int, e = .returned (.int .i64 n) ∧ PickR tst l n ∧ Below w.heap.size w w' := by
  obtain ⟨pa, c, rfl, h1, h2, h3⟩ := hr
  unfold maxLen at h2
  have hlm : l.length ≤ 9223372036854775807 := by omega
  have HC := hidB h3
  have HF := hidB hf
  clear h3 hf
  go_enter Tryz.func123, Tryz.ntmps123
  go_wp2_with fail
  go_loopw [8] (fun i wr => ∃ k : Nat, k ≤ l.length ∧ i = .int .i64 k ∧ (l.take k).find? tst = none ∧ Below w.heap.size w wr) (fun i _ => l.length - (intOf i).toNat)
  case atStart => exact ⟨0, by omega, rfl, rfl, Below.refl _ _⟩
  case round =>
    obtain ⟨k, hk, rfl, ha, hb⟩ := hrel
    have Ha := hidB ha
    have B := hidB hb
    clear ha hb
    by_cases hlt : k < l.length
    · have hx1 : (k : Int) < (l.length : Int) := by omega
      have hx2 : (0 : Int) ≤ (k : Int) := by omega
      obtain ⟨g, o, rfl, hg, hcell⟩ := HC.out (by omega)
      have HR := hidB (rangeOn B.out hg (hcell k hlt))
      have BV := hidB (HF.out.run l[k] (List.getElem_mem hlt))
      have BD := hidB HF.out.body
      have HQ := hidB (pick_take hlt Ha.out).2
      have HI := hidB (fun h => show PickR tst l (k : Int) from .inr ⟨k, hlt, rfl, (pick_take hlt Ha.out).1 h⟩)
      clear HC hcell hg Ha HF
      generalize l[k]'hlt = kk at *
      go_wp2_with (first | ((with_reducible refine ldId 91 (.tmp 14) ?_); refine wpList_load_mid (by rfl) 91 (.tmp 14) (by rfl) g (o + k * 18) (by rfl) kk.cs.toList _ (by exact HR.out) Tryz.underlying91 (by rfl) (by kernel_rfl) ?_))
      rw [BD.out, Oper.upon_enter]
      refine (BV.out _ B.out).mono ?_; rintro e w2 ⟨rfl, hb⟩
      replace B := hidB (B.out.trans (hb.mono B.out.size))
      clear hb BV BD
      have HT := hidB (rfl : tst kk = tst kk)
      generalize hm : tst kk = m at *
      cases m
      · have HQ2 := hidB (HQ.out rfl)
        clear hm HT HI
        go_wp2_with fail
        go_roundw
        case rel => exact ⟨k + 1, by omega, by go_num, HQ2.out, B.out⟩
        case measure => simp [intOf]; omega
      · have HQ2 := hidB (HI.out rfl)
        clear hm HT HQ
        go_wp2_with fail
        go_ret
        exact ⟨k, rfl, HQ2.out, B.out⟩
    · obtain rfl : k = l.length := by omega
      have hx4 : ¬ ((l.length : Int) < (l.length : Int)) := by omega
      have HE : Hid (l.find? tst = none) := hidB (by have := Ha.out; rwa [List.take_length] at this)
      clear Ha HC hk
      go_wp2_with fail
      go_ret
      exact ⟨-1, rfl, .inl ⟨rfl, HE.out⟩, B.out⟩
set_option maxHeartbeats 8000000 in
set_option maxRecDepth 100000 in
theorem find1_any (k : KI) (q : PI) (gk : Nat) (w : World) (hg : Bk w gk 26 k.cells.toArray) : Calls Tryz.prog 124 #[q.a, .pointer (some ⟨gk, 0, none⟩)] w fun e w' => e = .returned (.bool (KI.eq q.k k)) ∧ Below w.heap.size w w' := by
  have X := hidB (show Bk (w.alloc (.cells (q.cs) 91)) (w.heap.size) 91 (q.cs) from Bk.new w _ _)
  have B := hidB (show Below w.heap.size w (w.alloc (.cells (q.cs) 91)) from box_one w _)
  have Y := hidB (show Bk (w.alloc (.cells (q.cs) 91)) gk 26 k.cells.toArray from hg.alloc _)
  clear hg
  go_enter Tryz.func124, Tryz.ntmps124
  go_upto_region 1 with fail
  generalize hW : (w.alloc (.cells (q.cs) 91)) = w1 at *
  clear hW
  have V1 : ∀ W : World, (Op.equal 26 q.k.a k.a).run Tryz.prog W = .ok (KI.eq q.k k) W := fun W => run_equalK q.k k W
  clear V1
  go_wp2_with (first | ((with_reducible refine ldId 26 (.tmp 4) ?_); refine wpList_load_mid (by rfl) 26 (.tmp 4) (by rfl) (w.heap.size) 0 (by rfl) (q.k.cells) _ (by exact Bk.mid X.out 0 _ rfl) Tryz.underlying26 (by rfl) (by kernel_rfl) ?_) | ((with_reducible refine ldId 26 (.tmp 1) ?_); refine wpList_load_row (by rfl) 26 (.tmp 1) (by rfl) (gk) (by rfl) 26 (k.cells.toArray) (0, 0) _ (by exact Y.out) Tryz.underlying26 (by rfl) (by kernel_rfl) ?_))
  all_goals (go_ret; refine ⟨?_, B.out⟩; unfold KI.eq; simp [*])
set_option maxHeartbeats 8000000 in
set_option maxRecDepth 100000 in
theorem findE_any (e : OJ × List PI) (k : KI) (g o : Nat) (w : World) (hr : RdJ e g o w) : Calls Tryz.prog 85 #[.pointer (some ⟨g, o, none⟩), k.a] w fun x w' => ∃ n : Int, x = .returned (.int .i64 n) ∧ AtR e.2 k n ∧ Below w.heap.size w w' := by
  have Y := hidB (show Bk (w.alloc (.cells (k.cells.toArray) 26)) (w.heap.size) 26 (k.cells.toArray) from Bk.new w _ _)
  have B := hidB (show Below w.heap.size w (w.alloc (.cells (k.cells.toArray) 26)) from box_one w _)
  have HR := hidB hr
  clear hr
  go_enter Tryz.func85, Tryz.ntmps85
  go_upto_region 1 with fail
  generalize hW : (w.alloc (.cells (k.cells.toArray) 26)) = w1 at *
  clear hW
  have RJ := hidB (HR.out.on B.out)
  have c6 : w1.cell? ⟨g, o + 6, none⟩ = some e.1.props := RJ.out.row 6 _ rfl
  go_wp2_with fail
  refine (pickP_any 124 #[.pointer (some ⟨w.heap.size, 0, none⟩)] (fun q => KI.eq q.k k) e.2 e.1.props w1 RJ.out.props ⟨fun args w => by kernel_rfl, fun q _ W hb => find1_any k q _ W (Y.out.on hb)⟩).mono ?_; rintro x w2 ⟨n, rfl, hn, hb⟩
  have HN := hidB hn
  replace B := hidB (B.out.trans (hb.mono B.out.size))
  clear hb hn
  go_wp2_with fail
  go_ret
  exact ⟨n, rfl, HN.out, B.out⟩
set_option maxHeartbeats 8000000 in
set_option maxRecDepth 100000 in
theorem byteOf_no (e : OJ × List PI) (k : KI) (g o : Nat) (hk : e.1.kd ≠ 3) (w : World) (hr : RdJ e g o w) : Calls Tryz.prog 84 #[.pointer (some ⟨g, o, none⟩), k.a] w fun x w' => x = .returned (.tuple #[DI.zero.a, .bool false]) ∧ Below w.heap.size w w' := by
  have Y := hidB (show Bk ((w.alloc (.cells (k.cells.toArray) 26)).alloc (.cells (#[.int .u8 0, .int .u8 0, .float .f64 0, .string ⟨#[]⟩, .int .i64 0, .int .u8 0, .float .f64 0, .string ⟨#[]⟩, .int .i64 0, .int .u8 0, .float .f64 0, .string ⟨#[]⟩, .int .i64 0, .bool false, .bool false, .bool false]) 31)) (w.heap.size) 26 (k.cells.toArray) from (Bk.new w _ _).alloc _)
  have R := hidB (show Bk ((w.alloc (.cells (k.cells.toArray) 26)).alloc (.cells (#[.int .u8 0, .int .u8 0, .float .f64 0, .string ⟨#[]⟩, .int .i64 0, .int .u8 0, .float .f64 0, .string ⟨#[]⟩, .int .i64 0, .int .u8 0, .float .f64 0, .string ⟨#[]⟩, .int .i64 0, .bool false, .bool false, .bool false]) 31)) (w.heap.size + 1) 31 (#[.int .u8 0, .int .u8 0, .float .f64 0, .string ⟨#[]⟩, .int .i64 0, .int .u8 0, .float .f64 0, .string ⟨#[]⟩, .int .i64 0, .int .u8 0, .float .f64 0, .string ⟨#[]⟩, .int .i64 0, .bool false, .bool false, .bool false]) from Bk.new2 w _ _ _)
  have B := hidB (show Below w.heap.size w ((w.alloc (.cells (k.cells.toArray) 26)).alloc (.cells (#[.int .u8 0, .int .u8 0, .float .f64 0, .string ⟨#[]⟩, .int .i64 0, .int .u8 0, .float .f64 0, .string ⟨#[]⟩, .int .i64 0, .int .u8 0, .float .f64 0, .string ⟨#[]⟩, .int .i64 0, .bool false, .bool false, .bool false]) 31)) from (box_one w _).alloc (by simp) _)
  have HR := hidB hr
  clear hr
  have hn : (e.1.kd != 3) = true := by rw [bne_iff_ne]; exact hk
  go_enter Tryz.func84, Tryz.ntmps84
  go_upto_region 1 with fail
  generalize hW : ((w.alloc (.cells (k.cells.toArray) 26)).alloc (.cells (#[.int .u8 0, .int .u8 0, .float .f64 0, .string ⟨#[]⟩, .int .i64 0, .int .u8 0, .float .f64 0, .string ⟨#[]⟩, .int .i64 0, .int .u8 0, .float .f64 0, .string ⟨#[]⟩, .int .i64 0, .bool false, .bool false, .bool false]) 31)) = w1 at *
  clear hW
  have RJ := hidB (HR.out.on B.out)
  have c0 : w1.cell? ⟨g, o, none⟩ = some (.int .u8 e.1.kd) := RJ.out.row 0 _ rfl
  go_wp2_with (first | ((with_reducible refine wpId ?_); refine wpList_build_to (by rfl) 31 _ (by rfl) (#[.int .u8 0, .int .u8 0, .float .f64 0, .string ⟨#[]⟩, .int .i64 0, .int .u8 0, .float .f64 0, .string ⟨#[]⟩, .int .i64 0, .int .u8 0, .float .f64 0, .string ⟨#[]⟩, .int .i64 0, .bool false, .bool false, .bool false]) (by kernel_rfl) ?_) | ((with_reducible refine stId 31 (.tmp 4) (.tmp 14) ?_); refine wpList_store_row (by rfl) 31 (.tmp 4) (.tmp 14) (by rfl) (w.heap.size + 1) (#[.int .u8 0, .int .u8 0, .float .f64 0, .string ⟨#[]⟩, .int .i64 0, .int .u8 0, .float .f64 0, .string ⟨#[]⟩, .int .i64 0, .int .u8 0, .float .f64 0, .string ⟨#[]⟩, .int .i64 0, .bool false, .bool false, .bool false]) (by rfl) (by rfl) 31 (#[.int .u8 0, .int .u8 0, .float .f64 0, .string ⟨#[]⟩, .int .i64 0, .int .u8 0, .float .f64 0, .string ⟨#[]⟩, .int .i64 0, .int .u8 0, .float .f64 0, .string ⟨#[]⟩, .int .i64 0, .bool false, .bool false, .bool false]) (by exact R.out) (by kernel_rfl) (by rfl) (by exact DI.one DI.zero) ?_))
  exact bodyPost_ret (v := .tuple #[DI.zero.a, .bool false]) (results_row2 Tryz.results84 _ _ (w.heap.size + 1) 31 (#[.int .u8 0, .int .u8 0, .float .f64 0, .string ⟨#[]⟩, .int .i64 0, .int .u8 0, .float .f64 0, .string ⟨#[]⟩, .int .i64 0, .int .u8 0, .float .f64 0, .string ⟨#[]⟩, .int .i64 0, .bool false, .bool false, .bool false]) (0, 0) _ rfl (R.out.setRow _) Tryz.underlying31 rfl (by kernel_rfl)) rfl (⟨rfl, below_setRow B.out (Nat.le_succ _) _⟩)
set_option maxHeartbeats 8000000 in
set_option maxRecDepth 100000 in
theorem does3_any (h : HI) (hv : Value) (n : Nat) (hn : n < h.length) (hk : (h[n]'hn).1.kd ≠ 3) (a : AI) (hm : a.m = 3) (ho : a.ob = n) (gw : Nat) (w : World) (hw : Bk w gw 65 #[hv]) (hr : RdH h hv w) : Calls Tryz.prog 59 #[.pointer (some ⟨gw, 0, none⟩), a.a] w fun e w' => e = .returned (yesI (h[n]'hn).1.ext).a ∧ Below w.heap.size w w' := by
  obtain ⟨g, o, c, rfl, hlm, hj⟩ := hr.obj hn
  have HJ := hidB hj
  unfold maxLen at hlm
  have hlm2 : h.length ≤ 9223372036854775807 := by omega
  clear hr hj hlm
  have hn0 : (0 : Int) ≤ (n : Int) := by omega
  have hn1 : (n : Int) < (h.length : Int) := by omega
  generalize (h[n]'hn) = e0 at *
  have Y := hidB (show Bk ((w.alloc (.cells (a.cs) 34)).alloc (.cells (#[.int .u8 0, .int .u8 0, .float .f64 0, .string ⟨#[]⟩, .int .i64 0, .bool false, .bool false, .int .u8 0, .int .u8 0, .float .f64 0, .string ⟨#[]⟩, .int .i64 0, .int .u8 0, .float .f64 0, .string ⟨#[]⟩, .int .i64 0, .int .u8 0, .float .f64 0, .string ⟨#[]⟩, .int .i64 0, .bool false, .bool false, .bool false, .slice none 0 0, .int .u8 0, .string ⟨#[]⟩]) 49)) (w.heap.size) 34 (a.cs) from (Bk.new w _ _).alloc _)
  have R := hidB (show Bk ((w.alloc (.cells (a.cs) 34)).alloc (.cells (#[.int .u8 0, .int .u8 0, .float .f64 0, .string ⟨#[]⟩, .int .i64 0, .bool false, .bool false, .int .u8 0, .int .u8 0, .float .f64 0, .string ⟨#[]⟩, .int .i64 0, .int .u8 0, .float .f64 0, .string ⟨#[]⟩, .int .i64 0, .int .u8 0, .float .f64 0, .string ⟨#[]⟩, .int .i64 0, .bool false, .bool false, .bool false, .slice none 0 0, .int .u8 0, .string ⟨#[]⟩]) 49)) (w.heap.size + 1) 49 (OI.zero.cs) from Bk.new2 w _ _ _)
  have B := hidB (show Below w.heap.size w ((w.alloc (.cells (a.cs) 34)).alloc (.cells (#[.int .u8 0, .int .u8 0, .float .f64 0, .string ⟨#[]⟩, .int .i64 0, .bool false, .bool false, .int .u8 0, .int .u8 0, .float .f64 0, .string ⟨#[]⟩, .int .i64 0, .int .u8 0, .float .f64 0, .string ⟨#[]⟩, .int .i64 0, .int .u8 0, .float .f64 0, .string ⟨#[]⟩, .int .i64 0, .bool false, .bool false, .bool false, .slice none 0 0, .int .u8 0, .string ⟨#[]⟩]) 49)) from (box_one w _).alloc (by simp) _)
  have GW := hidB (show Bk ((w.alloc (.cells (a.cs) 34)).alloc (.cells (#[.int .u8 0, .int .u8 0, .float .f64 0, .string ⟨#[]⟩, .int .i64 0, .bool false, .bool false, .int .u8 0, .int .u8 0, .float .f64 0, .string ⟨#[]⟩, .int .i64 0, .int .u8 0, .float .f64 0, .string ⟨#[]⟩, .int .i64 0, .int .u8 0, .float .f64 0, .string ⟨#[]⟩, .int .i64 0, .bool false, .bool false, .bool false, .slice none 0 0, .int .u8 0, .string ⟨#[]⟩]) 49)) gw 65 #[(.slice (some ⟨g, o, none⟩) h.length c)] from (hw.alloc _).alloc _)
  have HM := hidB hm
  have HO := hidB ho
  have HK := hidB hk
  clear hw hm ho hk
  go_enter Tryz.func59, Tryz.ntmps59
  go_upto_region 1 with fail
  generalize hW : ((w.alloc (.cells (a.cs) 34)).alloc (.cells (#[.int .u8 0, .int .u8 0, .float .f64 0, .string ⟨#[]⟩, .int .i64 0, .bool false, .bool false, .int .u8 0, .int .u8 0, .float .f64 0, .string ⟨#[]⟩, .int .i64 0, .int .u8 0, .float .f64 0, .string ⟨#[]⟩, .int .i64 0, .int .u8 0, .float .f64 0, .string ⟨#[]⟩, .int .i64 0, .bool false, .bool false, .bool false, .slice none 0 0, .int .u8 0, .string ⟨#[]⟩]) 49)) = w1 at *
  clear hW
  replace HJ := hidB (HJ.out.on B.out)
  refine wp_region_noPanic ?_
  refine wp_region_held_drew (S := fun W => Below w.heap.size w W ∧ Below w1.heap.size w1 W) (by kernel_rfl) ?_ (fun hHeld => ?_)
  · exact ⟨B.out.drew, (Below.refl _ _).drew⟩
  generalize hWd : w1.drew = wd at *
  clear hWd
  first | (refine wpAnyH_take (i := 0) (v := undef) (by exact gE rfl) (by kernel_rfl) (by kernel_rfl) (by kernel_rfl) (fun _ _ _ h => h) (Or.inr ⟨?_, rfl⟩) (by assumption) ?_; (rfl); try simp only [Act.put, List.setIfInBounds_toArray, List.set_cons_zero, List.set_cons_succ]) | (refine wpAnyH_take (i := 0) (v := ?_) (by exact gE rfl) (by kernel_rfl) (by kernel_rfl) (by kernel_rfl) (fun _ _ _ h => h) (Or.inl ⟨?_, ?_⟩) (by assumption) ?_; rotate_left; (rfl); (focus (intro w hSw; (try dsimp only at hSw); go_simp; try with_reducible rfl)); try simp only [Act.put, List.setIfInBounds_toArray, List.set_cons_zero, List.set_cons_succ])
  first | (refine wpAnyH_take (i := 1) (v := undef) (by exact gE rfl) (by kernel_rfl) (by kernel_rfl) (by kernel_rfl) (fun _ _ _ h => h) (Or.inr ⟨?_, rfl⟩) (by assumption) ?_; (rfl); try simp only [Act.put, List.setIfInBounds_toArray, List.set_cons_zero, List.set_cons_succ]) | (refine wpAnyH_take (i := 1) (v := ?_) (by exact gE rfl) (by kernel_rfl) (by kernel_rfl) (by kernel_rfl) (fun _ _ _ h => h) (Or.inl ⟨?_, ?_⟩) (by assumption) ?_; rotate_left; (rfl); (focus (intro w hSw; (try dsimp only at hSw); go_simp; try with_reducible rfl)); try simp only [Act.put, List.setIfInBounds_toArray, List.set_cons_zero, List.set_cons_succ])
  first | (refine wpAnyH_take (i := 2) (v := undef) (by exact gE rfl) (by kernel_rfl) (by kernel_rfl) (by kernel_rfl) (fun _ _ _ h => h) (Or.inr ⟨?_, rfl⟩) (by assumption) ?_; (rfl); try simp only [Act.put, List.setIfInBounds_toArray, List.set_cons_zero, List.set_cons_succ]) | (refine wpAnyH_take (i := 2) (v := ?_) (by exact gE rfl) (by kernel_rfl) (by kernel_rfl) (by kernel_rfl) (fun _ _ _ h => h) (Or.inl ⟨?_, ?_⟩) (by assumption) ?_; rotate_left; (rfl); (focus (intro w hSw; (try dsimp only at hSw); go_simp; try with_reducible rfl)); try simp only [Act.put, List.setIfInBounds_toArray, List.set_cons_zero, List.set_cons_succ])
  first | (refine wpAnyH_take (i := 3) (v := undef) (by exact gE rfl) (by kernel_rfl) (by kernel_rfl) (by kernel_rfl) (fun _ _ _ h => h) (Or.inr ⟨?_, rfl⟩) (by assumption) ?_; (rfl); try simp only [Act.put, List.setIfInBounds_toArray, List.set_cons_zero, List.set_cons_succ]) | (refine wpAnyH_take (i := 3) (v := ?_) (by exact gE rfl) (by kernel_rfl) (by kernel_rfl) (by kernel_rfl) (fun _ _ _ h => h) (Or.inl ⟨?_, ?_⟩) (by assumption) ?_; rotate_left; (rfl); (focus (intro w hSw; (try dsimp only at hSw); go_simp; try with_reducible rfl)); try simp only [Act.put, List.setIfInBounds_toArray, List.set_cons_zero, List.set_cons_succ])
  first | (refine wpAnyH_take (i := 4) (v := undef) (by exact gE rfl) (by kernel_rfl) (by kernel_rfl) (by kernel_rfl) (fun _ _ _ h => h) (Or.inr ⟨?_, rfl⟩) (by assumption) ?_; (rfl); try simp only [Act.put, List.setIfInBounds_toArray, List.set_cons_zero, List.set_cons_succ]) | (refine wpAnyH_take (i := 4) (v := ?_) (by exact gE rfl) (by kernel_rfl) (by kernel_rfl) (by kernel_rfl) (fun _ _ _ h => h) (Or.inl ⟨?_, ?_⟩) (by assumption) ?_; rotate_left; (rfl); (focus (intro W hSw; have hc0 := (show W.cell? ⟨gw, 0, none⟩ = some ((.slice (some ⟨g, o, none⟩) h.length c)) from (GW.out.on hSw.2).cell 0); clear hSw; go_simp; try with_reducible rfl)); try simp only [Act.put, List.setIfInBounds_toArray, List.set_cons_zero, List.set_cons_succ])
  first | (refine wpAnyH_take (i := 5) (v := undef) (by exact gE rfl) (by kernel_rfl) (by kernel_rfl) (by kernel_rfl) (fun _ _ _ h => h) (Or.inr ⟨?_, rfl⟩) (by assumption) ?_; (rfl); try simp only [Act.put, List.setIfInBounds_toArray, List.set_cons_zero, List.set_cons_succ]) | (refine wpAnyH_take (i := 5) (v := ?_) (by exact gE rfl) (by kernel_rfl) (by kernel_rfl) (by kernel_rfl) (fun _ _ _ h => h) (Or.inl ⟨?_, ?_⟩) (by assumption) ?_; rotate_left; (rfl); (focus (intro w hSw; (try dsimp only at hSw); go_simp; try with_reducible rfl)); try simp only [Act.put, List.setIfInBounds_toArray, List.set_cons_zero, List.set_cons_succ])
  first | (refine wpAnyH_take (i := 6) (v := undef) (by exact gE rfl) (by kernel_rfl) (by kernel_rfl) (by kernel_rfl) (fun _ _ _ h => h) (Or.inr ⟨?_, rfl⟩) (by assumption) ?_; (rfl); try simp only [Act.put, List.setIfInBounds_toArray, List.set_cons_zero, List.set_cons_succ]) | (refine wpAnyH_take (i := 6) (v := ?_) (by exact gE rfl) (by kernel_rfl) (by kernel_rfl) (by kernel_rfl) (fun _ _ _ h => h) (Or.inl ⟨?_, ?_⟩) (by assumption) ?_; rotate_left; (rfl); (focus (intro W hSw; have hc0 := (show W.cell? ⟨w.heap.size, 1, none⟩ = some (.int .i64 (n : Int)) from by rw [← HO.out]; exact (Y.out.on hSw.2).cell 1); clear hSw; go_simp; try with_reducible rfl)); try simp only [Act.put, List.setIfInBounds_toArray, List.set_cons_zero, List.set_cons_succ])
  first | (refine wpAnyH_take (i := 7) (v := undef) (by exact gE rfl) (by kernel_rfl) (by kernel_rfl) (by kernel_rfl) (fun _ _ _ h => h) (Or.inr ⟨?_, rfl⟩) (by assumption) ?_; (rfl); try simp only [Act.put, List.setIfInBounds_toArray, List.set_cons_zero, List.set_cons_succ]) | (refine wpAnyH_take (i := 7) (v := ?_) (by exact gE rfl) (by kernel_rfl) (by kernel_rfl) (by kernel_rfl) (fun _ _ _ h => h) (Or.inl ⟨?_, ?_⟩) (by assumption) ?_; rotate_left; (rfl); (focus (intro w hSw; (try dsimp only at hSw); go_simp; try with_reducible rfl)); try simp only [Act.put, List.setIfInBounds_toArray, List.set_cons_zero, List.set_cons_succ])
  first | (refine wpAnyH_take (i := 8) (v := undef) (by exact gE rfl) (by kernel_rfl) (by kernel_rfl) (by kernel_rfl) (fun _ _ _ h => h) (Or.inr ⟨?_, rfl⟩) (by assumption) ?_; (rfl); try simp only [Act.put, List.setIfInBounds_toArray, List.set_cons_zero, List.set_cons_succ]) | (refine wpAnyH_take (i := 8) (v := ?_) (by exact gE rfl) (by kernel_rfl) (by kernel_rfl) (by kernel_rfl) (fun _ _ _ h => h) (Or.inl ⟨?_, ?_⟩) (by assumption) ?_; rotate_left; (rfl); (focus (intro w hSw; (try dsimp only at hSw); go_simp; try with_reducible rfl)); try simp only [Act.put, List.setIfInBounds_toArray, List.set_cons_zero, List.set_cons_succ])
  refine wpAnyH_done (by kernel_rfl) ?_ _
  refine NoPanic.normal ?_
  replace Y := hidB (Y.out.on hHeld.2)
  replace R := hidB (R.out.on hHeld.2)
  replace HJ := hidB (HJ.out.on hHeld.2)
  have B := hidB hHeld.1
  clear hHeld GW
  go_wp2_with (first | ((with_reducible refine ldId 26 (.tmp 21) ?_); refine wpList_load_mid (by rfl) 26 (.tmp 21) (by rfl) (w.heap.size) 2 (by rfl) (a.k.cells) _ (by exact Bk.mid Y.out 2 _ rfl) Tryz.underlying26 (by rfl) (by kernel_rfl) ?_))
  refine (byteOf_no e0 a.k g (o + n * 18) HK.out _ HJ.out).mono ?_; rintro e w2 ⟨rfl, hb⟩
  replace Y := hidB (Y.out.on hb)
  replace R := hidB (R.out.on hb)
  replace HJ := hidB (HJ.out.on hb)
  replace B := hidB (B.out.trans (hb.mono B.out.size))
  clear hb
  have hgd := hidB B.out.size
  replace Y := hidB (Y.out.alloc (.cells (DI.zero.cs) 31))
  replace R := hidB (R.out.alloc (.cells (DI.zero.cs) 31))
  replace HJ := hidB (HJ.out.on (box_one w2 (.cells (DI.zero.cs) 31)))
  replace B := hidB (show Below w.heap.size w (w2.alloc (.cells (DI.zero.cs) 31)) from B.out.alloc B.out.size _)
  go_upto_region 3 with (first | ((with_reducible refine wpId ?_); refine wpList_store_new (by rfl) 31 (.tmp 6) (.tmp 24) (by rfl) (DI.zero.cs) 31 _ (by rfl) (by rfl) (by kernel_rfl) (by rfl) (by exact DI.one _) ?_))
  generalize hW : (w2.alloc (.cells (DI.zero.cs) 31)) = w3 at *
  clear hW hgd
  go_wp2_with (first | ((with_reducible refine ldId 26 (.tmp 27) ?_); refine wpList_load_mid (by rfl) 26 (.tmp 27) (by rfl) (w.heap.size) 2 (by rfl) (a.k.cells) _ (by exact Bk.mid Y.out 2 _ rfl) Tryz.underlying26 (by rfl) (by kernel_rfl) ?_))
  refine (findE_any e0 a.k g (o + n * 18) _ HJ.out).mono ?_; rintro e w4 ⟨at4, rfl, hat, hb⟩
  have HAT := hidB hat
  clear hat
  replace Y := hidB (Y.out.on hb)
  replace R := hidB (R.out.on hb)
  replace HJ := hidB (HJ.out.on hb)
  replace B := hidB (B.out.trans (hb.mono B.out.size))
  clear hb
  have y0 : w4.cell? ⟨w.heap.size, 0, none⟩ = some (.int .u8 3) := by rw [← HM.out]; exact Y.out.cell 0
  have c5 : w4.cell? ⟨g, o + n * 18 + 5, none⟩ = some (.bool e0.1.ext) := HJ.out.row 5 _ rfl
  go_wp2_with fail
  refine (yesI_any e0.1.ext _).mono ?_; rintro e w5 ⟨rfl, hb⟩
  replace R := hidB (R.out.on hb)
  replace B := hidB (B.out.trans (hb.mono B.out.size))
  clear hb
  go_wp2_with (first | ((with_reducible refine stId 49 (.tmp 4) (.tmp 51) ?_); refine wpList_store_row (by rfl) 49 (.tmp 4) (.tmp 51) (by rfl) (w.heap.size + 1) ((yesI e0.1.ext).cs) (by rfl) (by rfl) 49 (OI.zero.cs) (by exact R.out) (by kernel_rfl) (by rfl) (by exact OI.one _ rfl) ?_))
  exact bodyPost_ret (v := .agg ((yesI e0.1.ext).cs)) (results_cell_row Tryz.results59 _ _ (w.heap.size + 1) 49 ((yesI e0.1.ext).cs) (0, 0) _ rfl (R.out.setRow _) Tryz.underlying49 rfl (by kernel_rfl)) rfl (⟨rfl, below_setRow B.out (Nat.le_succ _) _⟩)
set_option maxHeartbeats 8000000 in
set_option maxRecDepth 100000 in
theorem does5_any (h : HI) (hv : Value) (n : Nat) (hn : n < h.length) (hk : (h[n]'hn).1.kd ≠ 3) (a : AI) (hm : a.m = 5) (ho : a.ob = n) (gw : Nat) (w : World) (hw : Bk w gw 65 #[hv]) (hr : RdH h hv w) : Calls Tryz.prog 59 #[.pointer (some ⟨gw, 0, none⟩), a.a] w fun e w' => e = .returned (ownI (h[n]'hn) a.k).a ∧ Below w.heap.size w w' := by
  obtain ⟨g, o, c, rfl, hlm, hj⟩ := hr.obj hn
  have HJ := hidB hj
  unfold maxLen at hlm
  have hlm2 : h.length ≤ 9223372036854775807 := by omega
  clear hr hj hlm
  have hn0 : (0 : Int) ≤ (n : Int) := by omega
  have hn1 : (n : Int) < (h.length : Int) := by omega
  generalize (h[n]'hn) = e0 at *
  have Y := hidB (show Bk ((w.alloc (.cells (a.cs) 34)).alloc (.cells (#[.int .u8 0, .int .u8 0, .float .f64 0, .string ⟨#[]⟩, .int .i64 0, .bool false, .bool false, .int .u8 0, .int .u8 0, .float .f64 0, .string ⟨#[]⟩, .int .i64 0, .int .u8 0, .float .f64 0, .string ⟨#[]⟩, .int .i64 0, .int .u8 0, .float .f64 0, .string ⟨#[]⟩, .int .i64 0, .bool false, .bool false, .bool false, .slice none 0 0, .int .u8 0, .string ⟨#[]⟩]) 49)) (w.heap.size) 34 (a.cs) from (Bk.new w _ _).alloc _)
  have R := hidB (show Bk ((w.alloc (.cells (a.cs) 34)).alloc (.cells (#[.int .u8 0, .int .u8 0, .float .f64 0, .string ⟨#[]⟩, .int .i64 0, .bool false, .bool false, .int .u8 0, .int .u8 0, .float .f64 0, .string ⟨#[]⟩, .int .i64 0, .int .u8 0, .float .f64 0, .string ⟨#[]⟩, .int .i64 0, .int .u8 0, .float .f64 0, .string ⟨#[]⟩, .int .i64 0, .bool false, .bool false, .bool false, .slice none 0 0, .int .u8 0, .string ⟨#[]⟩]) 49)) (w.heap.size + 1) 49 (OI.zero.cs) from Bk.new2 w _ _ _)
  have B := hidB (show Below w.heap.size w ((w.alloc (.cells (a.cs) 34)).alloc (.cells (#[.int .u8 0, .int .u8 0, .float .f64 0, .string ⟨#[]⟩, .int .i64 0, .bool false, .bool false, .int .u8 0, .int .u8 0, .float .f64 0, .string ⟨#[]⟩, .int .i64 0, .int .u8 0, .float .f64 0, .string ⟨#[]⟩, .int .i64 0, .int .u8 0, .float .f64 0, .string ⟨#[]⟩, .int .i64 0, .bool false, .bool false, .bool false, .slice none 0 0, .int .u8 0, .string ⟨#[]⟩]) 49)) from (box_one w _).alloc (by simp) _)
  have GW := hidB (show Bk ((w.alloc (.cells (a.cs) 34)).alloc (.cells (#[.int .u8 0, .int .u8 0, .float .f64 0, .string ⟨#[]⟩, .int .i64 0, .bool false, .bool false, .int .u8 0, .int .u8 0, .float .f64 0, .string ⟨#[]⟩, .int .i64 0, .int .u8 0, .float .f64 0, .string ⟨#[]⟩, .int .i64 0, .int .u8 0, .float .f64 0, .string ⟨#[]⟩, .int .i64 0, .bool false, .bool false, .bool false, .slice none 0 0, .int .u8 0, .string ⟨#[]⟩]) 49)) gw 65 #[(.slice (some ⟨g, o, none⟩) h.length c)] from (hw.alloc _).alloc _)
  have HM := hidB hm
  have HO := hidB ho
  have HK := hidB hk
  clear hw hm ho hk
  go_enter Tryz.func59, Tryz.ntmps59
  go_upto_region 1 with fail
  generalize hW : ((w.alloc (.cells (a.cs) 34)).alloc (.cells (#[.int .u8 0, .int .u8 0, .float .f64 0, .string ⟨#[]⟩, .int .i64 0, .bool false, .bool false, .int .u8 0, .int .u8 0, .float .f64 0, .string ⟨#[]⟩, .int .i64 0, .int .u8 0, .float .f64 0, .string ⟨#[]⟩, .int .i64 0, .int .u8 0, .float .f64 0, .string ⟨#[]⟩, .int .i64 0, .bool false, .bool false, .bool false, .slice none 0 0, .int .u8 0, .string ⟨#[]⟩]) 49)) = w1 at *
  clear hW
  replace HJ := hidB (HJ.out.on B.out)
  refine wp_region_noPanic ?_
  refine wp_region_held_drew (S := fun W => Below w.heap.size w W ∧ Below w1.heap.size w1 W) (by kernel_rfl) ?_ (fun hHeld => ?_)
  · exact ⟨B.out.drew, (Below.refl _ _).drew⟩
  generalize hWd : w1.drew = wd at *
  clear hWd
  first | (refine wpAnyH_take (i := 0) (v := undef) (by exact gE rfl) (by kernel_rfl) (by kernel_rfl) (by kernel_rfl) (fun _ _ _ h => h) (Or.inr ⟨?_, rfl⟩) (by assumption) ?_; (rfl); try simp only [Act.put, List.setIfInBounds_toArray, List.set_cons_zero, List.set_cons_succ]) | (refine wpAnyH_take (i := 0) (v := ?_) (by exact gE rfl) (by kernel_rfl) (by kernel_rfl) (by kernel_rfl) (fun _ _ _ h => h) (Or.inl ⟨?_, ?_⟩) (by assumption) ?_; rotate_left; (rfl); (focus (intro w hSw; (try dsimp only at hSw); go_simp; try with_reducible rfl)); try simp only [Act.put, List.setIfInBounds_toArray, List.set_cons_zero, List.set_cons_succ])
  first | (refine wpAnyH_take (i := 1) (v := undef) (by exact gE rfl) (by kernel_rfl) (by kernel_rfl) (by kernel_rfl) (fun _ _ _ h => h) (Or.inr ⟨?_, rfl⟩) (by assumption) ?_; (rfl); try simp only [Act.put, List.setIfInBounds_toArray, List.set_cons_zero, List.set_cons_succ]) | (refine wpAnyH_take (i := 1) (v := ?_) (by exact gE rfl) (by kernel_rfl) (by kernel_rfl) (by kernel_rfl) (fun _ _ _ h => h) (Or.inl ⟨?_, ?_⟩) (by assumption) ?_; rotate_left; (rfl); (focus (intro w hSw; (try dsimp only at hSw); go_simp; try with_reducible rfl)); try simp only [Act.put, List.setIfInBounds_toArray, List.set_cons_zero, List.set_cons_succ])
  first | (refine wpAnyH_take (i := 2) (v := undef) (by exact gE rfl) (by kernel_rfl) (by kernel_rfl) (by kernel_rfl) (fun _ _ _ h => h) (Or.inr ⟨?_, rfl⟩) (by assumption) ?_; (rfl); try simp only [Act.put, List.setIfInBounds_toArray, List.set_cons_zero, List.set_cons_succ]) | (refine wpAnyH_take (i := 2) (v := ?_) (by exact gE rfl) (by kernel_rfl) (by kernel_rfl) (by kernel_rfl) (fun _ _ _ h => h) (Or.inl ⟨?_, ?_⟩) (by assumption) ?_; rotate_left; (rfl); (focus (intro w hSw; (try dsimp only at hSw); go_simp; try with_reducible rfl)); try simp only [Act.put, List.setIfInBounds_toArray, List.set_cons_zero, List.set_cons_succ])
  first | (refine wpAnyH_take (i := 3) (v := undef) (by exact gE rfl) (by kernel_rfl) (by kernel_rfl) (by kernel_rfl) (fun _ _ _ h => h) (Or.inr ⟨?_, rfl⟩) (by assumption) ?_; (rfl); try simp only [Act.put, List.setIfInBounds_toArray, List.set_cons_zero, List.set_cons_succ]) | (refine wpAnyH_take (i := 3) (v := ?_) (by exact gE rfl) (by kernel_rfl) (by kernel_rfl) (by kernel_rfl) (fun _ _ _ h => h) (Or.inl ⟨?_, ?_⟩) (by assumption) ?_; rotate_left; (rfl); (focus (intro w hSw; (try dsimp only at hSw); go_simp; try with_reducible rfl)); try simp only [Act.put, List.setIfInBounds_toArray, List.set_cons_zero, List.set_cons_succ])
  first | (refine wpAnyH_take (i := 4) (v := undef) (by exact gE rfl) (by kernel_rfl) (by kernel_rfl) (by kernel_rfl) (fun _ _ _ h => h) (Or.inr ⟨?_, rfl⟩) (by assumption) ?_; (rfl); try simp only [Act.put, List.setIfInBounds_toArray, List.set_cons_zero, List.set_cons_succ]) | (refine wpAnyH_take (i := 4) (v := ?_) (by exact gE rfl) (by kernel_rfl) (by kernel_rfl) (by kernel_rfl) (fun _ _ _ h => h) (Or.inl ⟨?_, ?_⟩) (by assumption) ?_; rotate_left; (rfl); (focus (intro W hSw; have hc0 := (show W.cell? ⟨gw, 0, none⟩ = some ((.slice (some ⟨g, o, none⟩) h.length c)) from (GW.out.on hSw.2).cell 0); clear hSw; go_simp; try with_reducible rfl)); try simp only [Act.put, List.setIfInBounds_toArray, List.set_cons_zero, List.set_cons_succ])
  first | (refine wpAnyH_take (i := 5) (v := undef) (by exact gE rfl) (by kernel_rfl) (by kernel_rfl) (by kernel_rfl) (fun _ _ _ h => h) (Or.inr ⟨?_, rfl⟩) (by assumption) ?_; (rfl); try simp only [Act.put, List.setIfInBounds_toArray, List.set_cons_zero, List.set_cons_succ]) | (refine wpAnyH_take (i := 5) (v := ?_) (by exact gE rfl) (by kernel_rfl) (by kernel_rfl) (by kernel_rfl) (fun _ _ _ h => h) (Or.inl ⟨?_, ?_⟩) (by assumption) ?_; rotate_left; (rfl); (focus (intro w hSw; (try dsimp only at hSw); go_simp; try with_reducible rfl)); try simp only [Act.put, List.setIfInBounds_toArray, List.set_cons_zero, List.set_cons_succ])
  first | (refine wpAnyH_take (i := 6) (v := undef) (by exact gE rfl) (by kernel_rfl) (by kernel_rfl) (by kernel_rfl) (fun _ _ _ h => h) (Or.inr ⟨?_, rfl⟩) (by assumption) ?_; (rfl); try simp only [Act.put, List.setIfInBounds_toArray, List.set_cons_zero, List.set_cons_succ]) | (refine wpAnyH_take (i := 6) (v := ?_) (by exact gE rfl) (by kernel_rfl) (by kernel_rfl) (by kernel_rfl) (fun _ _ _ h => h) (Or.inl ⟨?_, ?_⟩) (by assumption) ?_; rotate_left; (rfl); (focus (intro W hSw; have hc0 := (show W.cell? ⟨w.heap.size, 1, none⟩ = some (.int .i64 (n : Int)) from by rw [← HO.out]; exact (Y.out.on hSw.2).cell 1); clear hSw; go_simp; try with_reducible rfl)); try simp only [Act.put, List.setIfInBounds_toArray, List.set_cons_zero, List.set_cons_succ])
  first | (refine wpAnyH_take (i := 7) (v := undef) (by exact gE rfl) (by kernel_rfl) (by kernel_rfl) (by kernel_rfl) (fun _ _ _ h => h) (Or.inr ⟨?_, rfl⟩) (by assumption) ?_; (rfl); try simp only [Act.put, List.setIfInBounds_toArray, List.set_cons_zero, List.set_cons_succ]) | (refine wpAnyH_take (i := 7) (v := ?_) (by exact gE rfl) (by kernel_rfl) (by kernel_rfl) (by kernel_rfl) (fun _ _ _ h => h) (Or.inl ⟨?_, ?_⟩) (by assumption) ?_; rotate_left; (rfl); (focus (intro w hSw; (try dsimp only at hSw); go_simp; try with_reducible rfl)); try simp only [Act.put, List.setIfInBounds_toArray, List.set_cons_zero, List.set_cons_succ])
  first | (refine wpAnyH_take (i := 8) (v := undef) (by exact gE rfl) (by kernel_rfl) (by kernel_rfl) (by kernel_rfl) (fun _ _ _ h => h) (Or.inr ⟨?_, rfl⟩) (by assumption) ?_; (rfl); try simp only [Act.put, List.setIfInBounds_toArray, List.set_cons_zero, List.set_cons_succ]) | (refine wpAnyH_take (i := 8) (v := ?_) (by exact gE rfl) (by kernel_rfl) (by kernel_rfl) (by kernel_rfl) (fun _ _ _ h => h) (Or.inl ⟨?_, ?_⟩) (by assumption) ?_; rotate_left; (rfl); (focus (intro w hSw; (try dsimp only at hSw); go_simp; try with_reducible rfl)); try simp only [Act.put, List.setIfInBounds_toArray, List.set_cons_zero, List.set_cons_succ])
  refine wpAnyH_done (by kernel_rfl) ?_ _
  refine NoPanic.normal ?_
  replace Y := hidB (Y.out.on hHeld.2)
  replace R := hidB (R.out.on hHeld.2)
  replace HJ := hidB (HJ.out.on hHeld.2)
  have B := hidB hHeld.1
  clear hHeld GW
  go_wp2_with (first | ((with_reducible refine ldId 26 (.tmp 21) ?_); refine wpList_load_mid (by rfl) 26 (.tmp 21) (by rfl) (w.heap.size) 2 (by rfl) (a.k.cells) _ (by exact Bk.mid Y.out 2 _ rfl) Tryz.underlying26 (by rfl) (by kernel_rfl) ?_))
  refine (byteOf_no e0 a.k g (o + n * 18) HK.out _ HJ.out).mono ?_; rintro e w2 ⟨rfl, hb⟩
  replace Y := hidB (Y.out.on hb)
  replace R := hidB (R.out.on hb)
  replace HJ := hidB (HJ.out.on hb)
  replace B := hidB (B.out.trans (hb.mono B.out.size))
  clear hb
  have hgd := hidB B.out.size
  replace Y := hidB (Y.out.alloc (.cells (DI.zero.cs) 31))
  replace R := hidB (R.out.alloc (.cells (DI.zero.cs) 31))
  replace HJ := hidB (HJ.out.on (box_one w2 (.cells (DI.zero.cs) 31)))
  replace B := hidB (show Below w.heap.size w (w2.alloc (.cells (DI.zero.cs) 31)) from B.out.alloc B.out.size _)
  go_upto_region 3 with (first | ((with_reducible refine wpId ?_); refine wpList_store_new (by rfl) 31 (.tmp 6) (.tmp 24) (by rfl) (DI.zero.cs) 31 _ (by rfl) (by rfl) (by kernel_rfl) (by rfl) (by exact DI.one _) ?_))
  generalize hW : (w2.alloc (.cells (DI.zero.cs) 31)) = w3 at *
  clear hW hgd
  go_wp2_with (first | ((with_reducible refine ldId 26 (.tmp 27) ?_); refine wpList_load_mid (by rfl) 26 (.tmp 27) (by rfl) (w.heap.size) 2 (by rfl) (a.k.cells) _ (by exact Bk.mid Y.out 2 _ rfl) Tryz.underlying26 (by rfl) (by kernel_rfl) ?_))
  refine (findE_any e0 a.k g (o + n * 18) _ HJ.out).mono ?_; rintro e w4 ⟨at4, rfl, hat, hb⟩
  have HAT := hidB hat
  clear hat
  replace Y := hidB (Y.out.on hb)
  replace R := hidB (R.out.on hb)
  replace HJ := hidB (HJ.out.on hb)
  replace B := hidB (B.out.trans (hb.mono B.out.size))
  clear hb
  have y0 : w4.cell? ⟨w.heap.size, 0, none⟩ = some (.int .u8 5) := by rw [← HM.out]; exact Y.out.cell 0
  rcases HAT.out with ⟨rfl, hnone⟩ | ⟨i, hi, rfl, hsome⟩
  · have HQ0 := hidB (show ownI e0 a.k = ({ OI.zero with kd := 1 } : OI) by unfold ownI; rw [hnone])
    clear hnone
    go_wp2_with (first | ((with_reducible refine wpId ?_); refine wpList_build_to (by rfl) 49 _ (by rfl) (({ OI.zero with kd := 1 } : OI).cs) (by kernel_rfl) ?_) | ((with_reducible refine stId 49 (.tmp 4) (.tmp 67) ?_); refine wpList_store_row (by rfl) 49 (.tmp 4) (.tmp 67) (by rfl) (w.heap.size + 1) (({ OI.zero with kd := 1 } : OI).cs) (by rfl) (by rfl) 49 (OI.zero.cs) (by exact R.out) (by kernel_rfl) (by rfl) (by exact OI.one _ rfl) ?_))
    exact bodyPost_ret (v := .agg (({ OI.zero with kd := 1 } : OI).cs)) (results_cell_row Tryz.results59 _ _ (w.heap.size + 1) 49 (({ OI.zero with kd := 1 } : OI).cs) (0, 0) _ rfl (R.out.setRow _) Tryz.underlying49 rfl (by kernel_rfl)) rfl (⟨by rw [HQ0.out], below_setRow B.out (Nat.le_succ _) _⟩)
  have hi0 : (0 : Int) ≤ (i : Int) := by omega
  have hi1 : (i : Int) < (e0.2.length : Int) := by omega
  have hi2 : ¬ ((i : Int) < 0) := by omega
  have HP := HJ.out.props
  obtain ⟨pp, cp, hpv, hp1, hp2, hp3⟩ := HP
  obtain ⟨gp, op, rfl, hgp, hrow⟩ := hp3 (by omega)
  have HGP := hidB hgp
  have HPR := hidB (hrow i hi)
  have HQ0 := hidB (show ownI e0 a.k = { OI.zero with kd := 1, fo := true, d := (e0.2[i]'hi).d } by unfold ownI; rw [hsome])
  clear hrow hp3 hgp hsome
  generalize e0.2[i]'hi = q0 at *
  have c6 : w4.cell? ⟨g, o + n * 18 + 6, none⟩ = some (.slice (some ⟨gp, op, none⟩) e0.2.length cp) := hpv ▸ HJ.out.row 6 _ rfl
  skip
  have HPQ := hidB (show w4.rangeAt gp (op + i * 18 + 2) q0.d.cs.toList from range_field HPR.out 2 16)
  go_wp2_with (first | ((with_reducible refine ldId 31 (.tmp 74) ?_); refine wpList_load_mid (by rfl) 31 (.tmp 74) (by rfl) (gp) (op + i * 18 + 2) (by rfl) (q0.d.cs.toList) _ (by exact HPQ.out) Tryz.underlying31 (by rfl) (by kernel_rfl) ?_) | ((with_reducible refine wpId ?_); refine wpList_build_to (by rfl) 49 _ (by rfl) (({ OI.zero with kd := 1, fo := true, d := q0.d } : OI).cs) (by kernel_rfl) ?_) | ((with_reducible refine stId 49 (.tmp 4) (.tmp 76) ?_); refine wpList_store_row (by rfl) 49 (.tmp 4) (.tmp 76) (by rfl) (w.heap.size + 1) (({ OI.zero with kd := 1, fo := true, d := q0.d } : OI).cs) (by rfl) (by rfl) 49 (OI.zero.cs) (by exact R.out) (by kernel_rfl) (by rfl) (by exact OI.one _ rfl) ?_))
  exact bodyPost_ret (v := .agg (({ OI.zero with kd := 1, fo := true, d := q0.d } : OI).cs)) (results_cell_row Tryz.results59 _ _ (w.heap.size + 1) 49 (({ OI.zero with kd := 1, fo := true, d := q0.d } : OI).cs) (0, 0) _ rfl (R.out.setRow _) Tryz.underlying49 rfl (by kernel_rfl)) rfl (⟨by rw [HQ0.out], below_setRow B.out (Nat.le_succ _) _⟩)

end Go.Proofs.YtbmaodlghglopaaGreatDoor
