/-
  The facts: the walk of post.known.
-/
import Derived.Test.YtlpldhcoplbopaaPostNone
import Derived.Test.YtlpldhcoplbopaaPostAsked
namespace Go.Proofs.Ytlpldhcoplbopaa
open Go.RowKit

/-- No key stands twice. -/
abbrev Apart (l : List KI) : Prop := ∀ i (h : i < l.length), (l.take i).any (KI.eq l[i]) = false
/-- A slice of descriptors that can be read. -/
def RdD (l : List DI) (v : Value) (w : World) : Prop := ∃ pa c, v = .slice pa l.length c ∧ l.length ≤ c ∧ c ≤ maxLen ∧ (0 < l.length → ∃ g o, pa = some ⟨g, o, none⟩ ∧ g < w.heap.size ∧ ∀ i (h : i < l.length), w.rangeAt g (o + i * 16) l[i].cs.toList)
theorem RdD.on {l : List DI} {v : Value} {w w1 : World} (h : RdD l v w) (hb : Below w.heap.size w w1) : RdD l v w1 := by
  obtain ⟨pa, c, h1, h2, h3, h4⟩ := h
  refine ⟨pa, c, h1, h2, h3, fun h0 => ?_⟩
  obtain ⟨g, o, e, hg, hx⟩ := h4 h0
  exact ⟨g, o, e, Nat.lt_of_lt_of_le hg hb.size, fun i hi => rangeOn hb hg (hx i hi)⟩
/-- The first keys of a list. -/
theorem RdK.take {l : List KI} {pa : Option Addr} {c : Nat} {w : World} (hc : l.length ≤ c) (hm : c ≤ maxLen) (h : 0 < l.length → ∃ g o, pa = some ⟨g, o, none⟩ ∧ g < w.heap.size ∧ ∀ i (h : i < l.length), w.rangeAt g (o + i * 2) l[i].cells) {k : Nat} (hk : k ≤ l.length) : RdK (l.take k) (.slice pa k c) w := by
  have hl : (l.take k).length = k := by simp; omega
  refine ⟨pa, c, by rw [hl], by omega, hm, fun h0 => ?_⟩
  obtain ⟨g, o, e, hg, hx⟩ := h (by omega)
  refine ⟨g, o, e, hg, fun i hi => ?_⟩
  rw [List.getElem_take]
  exact hx i (by omega)
def DI.own (d : DI) : Bool := d.none || d.isW
/-- The error of keys and their descriptors. -/
def ownE (ks : List KI) (ds : List DI) : Int := if keysE ks ≠ 0 then keysE ks else if ¬ Apart ks then 2 else if ds.length ≠ ks.length then 2 else if ds.all DI.own then 0 else 90
/-- The error of facts. -/
def knownE (m : Int) (x : FI) (ks : List KI) (ds : List DI) : Int :=
  if m = 1 ∨ m = 2 then (if x.pr.proto then 0 else 9)
  else if m = 5 ∨ m = 6 ∨ m = 7 ∨ m = 8 ∨ m = 9 ∨ m = 10 then (if x.fo && !x.d.isW then 90 else 0)
  else if m = 11 then ownE ks ds
  else 0

set_option maxHeartbeats 8000000 in
set_option maxRecDepth 100000 in
theorem known_1 (x : FI) (h0 : 0 ≤ x.pr.k) (w : World)  : Calls Try.prog 25 #[.int .u8 1, x.a] w fun e w' => e = .returned (.int .i64 (if x.pr.proto then 0 else 9)) ∧ Below w.heap.size w w' := by
  have CA := hidB (fun W => proto_any x.pr h0 W)
  clear h0
  generalize x.pr.proto = q at *
  have N := hidB (show Bk (w.alloc (.cells x.cs 48)) (w.heap.size) 48 x.cs from Bk.new w _ _)
  have Bt := hidB (show Below w.heap.size w (w.alloc (.cells x.cs 48)) from box_one w _)
  cases q
  all_goals
    go_enter Try.func25, Try.ntmps25
    go_upto_region 1 with fail
    generalize (w.alloc (.cells x.cs 48)) = w1 at *
    go_wp2_with (first | ((with_reducible refine ldId 30 (.tmp 14) ?_); refine wpList_load_mid (by rfl) 30 (.tmp 14) (by rfl) (w.heap.size) 1 (by rfl) (x.pr.cells) _ (by exact Bk.mid N.out 1 _ rfl) Try.underlying30 (by rfl) (by kernel_rfl) ?_))
    refine (CA.out _).mono ?_; rintro e w2 ⟨rfl, hb⟩
    have B2 := hidB (Bt.out.trans (hb.mono Bt.out.size))
    clear hb
    go_wp2_with fail
    go_ret
    exact ⟨rfl, B2.out⟩
    
set_option maxHeartbeats 8000000 in
set_option maxRecDepth 100000 in
theorem known_2 (x : FI) (h0 : 0 ≤ x.pr.k) (w : World)  : Calls Try.prog 25 #[.int .u8 2, x.a] w fun e w' => e = .returned (.int .i64 (if x.pr.proto then 0 else 9)) ∧ Below w.heap.size w w' := by
  have CA := hidB (fun W => proto_any x.pr h0 W)
  clear h0
  generalize x.pr.proto = q at *
  have N := hidB (show Bk (w.alloc (.cells x.cs 48)) (w.heap.size) 48 x.cs from Bk.new w _ _)
  have Bt := hidB (show Below w.heap.size w (w.alloc (.cells x.cs 48)) from box_one w _)
  cases q
  all_goals
    go_enter Try.func25, Try.ntmps25
    go_upto_region 1 with fail
    generalize (w.alloc (.cells x.cs 48)) = w1 at *
    go_wp2_with (first | ((with_reducible refine ldId 30 (.tmp 14) ?_); refine wpList_load_mid (by rfl) 30 (.tmp 14) (by rfl) (w.heap.size) 1 (by rfl) (x.pr.cells) _ (by exact Bk.mid N.out 1 _ rfl) Try.underlying30 (by rfl) (by kernel_rfl) ?_))
    refine (CA.out _).mono ?_; rintro e w2 ⟨rfl, hb⟩
    have B2 := hidB (Bt.out.trans (hb.mono Bt.out.size))
    clear hb
    go_wp2_with fail
    go_ret
    exact ⟨rfl, B2.out⟩
    
set_option maxHeartbeats 8000000 in
set_option maxRecDepth 100000 in
theorem known_5 (x : FI) (hd : x.d.ok) (w : World)  : Calls Try.prog 25 #[.int .u8 5, x.a] w fun e w' => e = .returned (.int .i64 (if x.fo && !x.d.isW then 90 else 0)) ∧ Below w.heap.size w w' := by
  have CA := hidB (fun W => postWhole_any x.d hd W)
  clear hd
  generalize x.d.isW = q at *
  generalize hf : x.fo = fo at *
  have HF := hidB hf
  clear hf
  have N := hidB (show Bk (w.alloc (.cells x.cs 48)) (w.heap.size) 48 x.cs from Bk.new w _ _)
  have Bt := hidB (show Below w.heap.size w (w.alloc (.cells x.cs 48)) from box_one w _)
  cases fo
  · skip
    go_enter Try.func25, Try.ntmps25
    go_upto_region 1 with fail
    generalize (w.alloc (.cells x.cs 48)) = w1 at *
    have z5 : w1.cell? ⟨w.heap.size, 5, none⟩ = some (.bool false) := by rw [← HF.out]; exact N.out.cell 5
    go_wp2_with fail
    go_ret
    exact ⟨rfl, Bt.out⟩
  · cases q
    all_goals
      go_enter Try.func25, Try.ntmps25
      go_upto_region 1 with fail
      generalize (w.alloc (.cells x.cs 48)) = w1 at *
      have z5 : w1.cell? ⟨w.heap.size, 5, none⟩ = some (.bool true) := by rw [← HF.out]; exact N.out.cell 5
      go_wp2_with (first | ((with_reducible refine ldId 32 (.tmp 28) ?_); refine wpList_wload_mid 32 (.tmp 28) (by rfl) (by rfl) (w.heap.size) 6 (by rfl) (x.d.cs.toList) _ (by exact Bk.mid N.out 6 _ rfl) Try.underlying32 (by rfl) (by kernel_rfl) ?_))
      refine (CA.out _).mono ?_; rintro e w2 ⟨rfl, hb⟩
      have B2 := hidB (Bt.out.trans (hb.mono Bt.out.size))
      clear hb
      go_wp2_with fail
      go_ret
      exact ⟨rfl, B2.out⟩
  
set_option maxHeartbeats 8000000 in
set_option maxRecDepth 100000 in
theorem known_6 (x : FI) (hd : x.d.ok) (w : World)  : Calls Try.prog 25 #[.int .u8 6, x.a] w fun e w' => e = .returned (.int .i64 (if x.fo && !x.d.isW then 90 else 0)) ∧ Below w.heap.size w w' := by
  have CA := hidB (fun W => postWhole_any x.d hd W)
  clear hd
  generalize x.d.isW = q at *
  generalize hf : x.fo = fo at *
  have HF := hidB hf
  clear hf
  have N := hidB (show Bk (w.alloc (.cells x.cs 48)) (w.heap.size) 48 x.cs from Bk.new w _ _)
  have Bt := hidB (show Below w.heap.size w (w.alloc (.cells x.cs 48)) from box_one w _)
  cases fo
  · skip
    go_enter Try.func25, Try.ntmps25
    go_upto_region 1 with fail
    generalize (w.alloc (.cells x.cs 48)) = w1 at *
    have z5 : w1.cell? ⟨w.heap.size, 5, none⟩ = some (.bool false) := by rw [← HF.out]; exact N.out.cell 5
    go_wp2_with fail
    go_ret
    exact ⟨rfl, Bt.out⟩
  · cases q
    all_goals
      go_enter Try.func25, Try.ntmps25
      go_upto_region 1 with fail
      generalize (w.alloc (.cells x.cs 48)) = w1 at *
      have z5 : w1.cell? ⟨w.heap.size, 5, none⟩ = some (.bool true) := by rw [← HF.out]; exact N.out.cell 5
      go_wp2_with (first | ((with_reducible refine ldId 32 (.tmp 28) ?_); refine wpList_wload_mid 32 (.tmp 28) (by rfl) (by rfl) (w.heap.size) 6 (by rfl) (x.d.cs.toList) _ (by exact Bk.mid N.out 6 _ rfl) Try.underlying32 (by rfl) (by kernel_rfl) ?_))
      refine (CA.out _).mono ?_; rintro e w2 ⟨rfl, hb⟩
      have B2 := hidB (Bt.out.trans (hb.mono Bt.out.size))
      clear hb
      go_wp2_with fail
      go_ret
      exact ⟨rfl, B2.out⟩
  
set_option maxHeartbeats 8000000 in
set_option maxRecDepth 100000 in
theorem known_7 (x : FI) (hd : x.d.ok) (w : World)  : Calls Try.prog 25 #[.int .u8 7, x.a] w fun e w' => e = .returned (.int .i64 (if x.fo && !x.d.isW then 90 else 0)) ∧ Below w.heap.size w w' := by
  have CA := hidB (fun W => postWhole_any x.d hd W)
  clear hd
  generalize x.d.isW = q at *
  generalize hf : x.fo = fo at *
  have HF := hidB hf
  clear hf
  have N := hidB (show Bk (w.alloc (.cells x.cs 48)) (w.heap.size) 48 x.cs from Bk.new w _ _)
  have Bt := hidB (show Below w.heap.size w (w.alloc (.cells x.cs 48)) from box_one w _)
  cases fo
  · skip
    go_enter Try.func25, Try.ntmps25
    go_upto_region 1 with fail
    generalize (w.alloc (.cells x.cs 48)) = w1 at *
    have z5 : w1.cell? ⟨w.heap.size, 5, none⟩ = some (.bool false) := by rw [← HF.out]; exact N.out.cell 5
    go_wp2_with fail
    go_ret
    exact ⟨rfl, Bt.out⟩
  · cases q
    all_goals
      go_enter Try.func25, Try.ntmps25
      go_upto_region 1 with fail
      generalize (w.alloc (.cells x.cs 48)) = w1 at *
      have z5 : w1.cell? ⟨w.heap.size, 5, none⟩ = some (.bool true) := by rw [← HF.out]; exact N.out.cell 5
      go_wp2_with (first | ((with_reducible refine ldId 32 (.tmp 28) ?_); refine wpList_wload_mid 32 (.tmp 28) (by rfl) (by rfl) (w.heap.size) 6 (by rfl) (x.d.cs.toList) _ (by exact Bk.mid N.out 6 _ rfl) Try.underlying32 (by rfl) (by kernel_rfl) ?_))
      refine (CA.out _).mono ?_; rintro e w2 ⟨rfl, hb⟩
      have B2 := hidB (Bt.out.trans (hb.mono Bt.out.size))
      clear hb
      go_wp2_with fail
      go_ret
      exact ⟨rfl, B2.out⟩
  
set_option maxHeartbeats 8000000 in
set_option maxRecDepth 100000 in
theorem known_8 (x : FI) (hd : x.d.ok) (w : World)  : Calls Try.prog 25 #[.int .u8 8, x.a] w fun e w' => e = .returned (.int .i64 (if x.fo && !x.d.isW then 90 else 0)) ∧ Below w.heap.size w w' := by
  have CA := hidB (fun W => postWhole_any x.d hd W)
  clear hd
  generalize x.d.isW = q at *
  generalize hf : x.fo = fo at *
  have HF := hidB hf
  clear hf
  have N := hidB (show Bk (w.alloc (.cells x.cs 48)) (w.heap.size) 48 x.cs from Bk.new w _ _)
  have Bt := hidB (show Below w.heap.size w (w.alloc (.cells x.cs 48)) from box_one w _)
  cases fo
  · skip
    go_enter Try.func25, Try.ntmps25
    go_upto_region 1 with fail
    generalize (w.alloc (.cells x.cs 48)) = w1 at *
    have z5 : w1.cell? ⟨w.heap.size, 5, none⟩ = some (.bool false) := by rw [← HF.out]; exact N.out.cell 5
    go_wp2_with fail
    go_ret
    exact ⟨rfl, Bt.out⟩
  · cases q
    all_goals
      go_enter Try.func25, Try.ntmps25
      go_upto_region 1 with fail
      generalize (w.alloc (.cells x.cs 48)) = w1 at *
      have z5 : w1.cell? ⟨w.heap.size, 5, none⟩ = some (.bool true) := by rw [← HF.out]; exact N.out.cell 5
      go_wp2_with (first | ((with_reducible refine ldId 32 (.tmp 28) ?_); refine wpList_wload_mid 32 (.tmp 28) (by rfl) (by rfl) (w.heap.size) 6 (by rfl) (x.d.cs.toList) _ (by exact Bk.mid N.out 6 _ rfl) Try.underlying32 (by rfl) (by kernel_rfl) ?_))
      refine (CA.out _).mono ?_; rintro e w2 ⟨rfl, hb⟩
      have B2 := hidB (Bt.out.trans (hb.mono Bt.out.size))
      clear hb
      go_wp2_with fail
      go_ret
      exact ⟨rfl, B2.out⟩
  
set_option maxHeartbeats 8000000 in
set_option maxRecDepth 100000 in
theorem known_9 (x : FI) (hd : x.d.ok) (w : World)  : Calls Try.prog 25 #[.int .u8 9, x.a] w fun e w' => e = .returned (.int .i64 (if x.fo && !x.d.isW then 90 else 0)) ∧ Below w.heap.size w w' := by
  have CA := hidB (fun W => postWhole_any x.d hd W)
  clear hd
  generalize x.d.isW = q at *
  generalize hf : x.fo = fo at *
  have HF := hidB hf
  clear hf
  have N := hidB (show Bk (w.alloc (.cells x.cs 48)) (w.heap.size) 48 x.cs from Bk.new w _ _)
  have Bt := hidB (show Below w.heap.size w (w.alloc (.cells x.cs 48)) from box_one w _)
  cases fo
  · skip
    go_enter Try.func25, Try.ntmps25
    go_upto_region 1 with fail
    generalize (w.alloc (.cells x.cs 48)) = w1 at *
    have z5 : w1.cell? ⟨w.heap.size, 5, none⟩ = some (.bool false) := by rw [← HF.out]; exact N.out.cell 5
    go_wp2_with fail
    go_ret
    exact ⟨rfl, Bt.out⟩
  · cases q
    all_goals
      go_enter Try.func25, Try.ntmps25
      go_upto_region 1 with fail
      generalize (w.alloc (.cells x.cs 48)) = w1 at *
      have z5 : w1.cell? ⟨w.heap.size, 5, none⟩ = some (.bool true) := by rw [← HF.out]; exact N.out.cell 5
      go_wp2_with (first | ((with_reducible refine ldId 32 (.tmp 28) ?_); refine wpList_wload_mid 32 (.tmp 28) (by rfl) (by rfl) (w.heap.size) 6 (by rfl) (x.d.cs.toList) _ (by exact Bk.mid N.out 6 _ rfl) Try.underlying32 (by rfl) (by kernel_rfl) ?_))
      refine (CA.out _).mono ?_; rintro e w2 ⟨rfl, hb⟩
      have B2 := hidB (Bt.out.trans (hb.mono Bt.out.size))
      clear hb
      go_wp2_with fail
      go_ret
      exact ⟨rfl, B2.out⟩
  
set_option maxHeartbeats 8000000 in
set_option maxRecDepth 100000 in
theorem known_10 (x : FI) (hd : x.d.ok) (w : World)  : Calls Try.prog 25 #[.int .u8 10, x.a] w fun e w' => e = .returned (.int .i64 (if x.fo && !x.d.isW then 90 else 0)) ∧ Below w.heap.size w w' := by
  have CA := hidB (fun W => postWhole_any x.d hd W)
  clear hd
  generalize x.d.isW = q at *
  generalize hf : x.fo = fo at *
  have HF := hidB hf
  clear hf
  have N := hidB (show Bk (w.alloc (.cells x.cs 48)) (w.heap.size) 48 x.cs from Bk.new w _ _)
  have Bt := hidB (show Below w.heap.size w (w.alloc (.cells x.cs 48)) from box_one w _)
  cases fo
  · skip
    go_enter Try.func25, Try.ntmps25
    go_upto_region 1 with fail
    generalize (w.alloc (.cells x.cs 48)) = w1 at *
    have z5 : w1.cell? ⟨w.heap.size, 5, none⟩ = some (.bool false) := by rw [← HF.out]; exact N.out.cell 5
    go_wp2_with fail
    go_ret
    exact ⟨rfl, Bt.out⟩
  · cases q
    all_goals
      go_enter Try.func25, Try.ntmps25
      go_upto_region 1 with fail
      generalize (w.alloc (.cells x.cs 48)) = w1 at *
      have z5 : w1.cell? ⟨w.heap.size, 5, none⟩ = some (.bool true) := by rw [← HF.out]; exact N.out.cell 5
      go_wp2_with (first | ((with_reducible refine ldId 32 (.tmp 28) ?_); refine wpList_wload_mid 32 (.tmp 28) (by rfl) (by rfl) (w.heap.size) 6 (by rfl) (x.d.cs.toList) _ (by exact Bk.mid N.out 6 _ rfl) Try.underlying32 (by rfl) (by kernel_rfl) ?_))
      refine (CA.out _).mono ?_; rintro e w2 ⟨rfl, hb⟩
      have B2 := hidB (Bt.out.trans (hb.mono Bt.out.size))
      clear hb
      go_wp2_with fail
      go_ret
      exact ⟨rfl, B2.out⟩
  
set_option maxHeartbeats 8000000 in
set_option maxRecDepth 100000 in
theorem known_none (x : FI) (m : Int) (hm : m = 3 ∨ m = 4 ∨ m = 12 ∨ m = 13) (w : World)  : Calls Try.prog 25 #[.int .u8 m, x.a] w fun e w' => e = .returned (.int .i64 (0)) ∧ Below w.heap.size w w' := by
  have N := hidB (show Bk (w.alloc (.cells x.cs 48)) (w.heap.size) 48 x.cs from Bk.new w _ _)
  have Bt := hidB (show Below w.heap.size w (w.alloc (.cells x.cs 48)) from box_one w _)
  rcases hm with rfl | rfl | rfl | rfl
  all_goals
    go_enter Try.func25, Try.ntmps25
    go_upto_region 1 with fail
    generalize (w.alloc (.cells x.cs 48)) = w1 at *
    go_wp2_with fail
    go_ret
    exact ⟨rfl, Bt.out⟩
    
set_option maxHeartbeats 8000000 in
set_option maxRecDepth 100000 in
theorem known_11 (x : FI) (ks : List KI) (ds : List DI) (hok : ∀ d, d ∈ ds → d.ok) (w : World) (hk : RdK ks x.keys w) (hd : RdD ds x.own w) : Calls Try.prog 25 #[.int .u8 11, x.a] w fun e w' => e = .returned (.int .i64 (ownE ks ds)) ∧ Below w.heap.size w w' := by
  have N := hidB (show Bk (w.alloc (.cells x.cs 48)) (w.heap.size) 48 x.cs from Bk.new w _ _)
  have Bt := hidB (show Below w.heap.size w (w.alloc (.cells x.cs 48)) from box_one w _)
  have KA := hidB (fun W (h : Below w.heap.size w W) => keys_any ks x.keys W (hk.on h))
  obtain ⟨pa, c, ek, hc1, hc2, hc3⟩ := hk
  obtain ⟨pb, c', ed, hd1, hd2, hd3⟩ := hd
  have HK := hidB ek
  have HD := hidB ed
  have RK := hidB hc3
  have RD := hidB hd3
  have TK := hidB (fun (W : World) (h : Below w.heap.size w W) (k : Nat) (hk : k ≤ ks.length) => (RdK.take hc1 hc2 hc3 hk).on h)
  rw [ek] at KA
  clear hc3 hd3 ek ed
  unfold maxLen at hc2 hd2
  have hm1 : ks.length ≤ 9223372036854775807 := by omega
  have hm2 : ds.length ≤ 9223372036854775807 := by omega
  have NA := hidB (fun (d : DI) (h : d ∈ ds) (W : World) => none_any d (hok d h) W)
  have WA := hidB (fun (d : DI) (h : d ∈ ds) (W : World) => postWhole_any d (hok d h) W)
  clear hok
  by_cases he : keysE ks = 0
  · have E2 : Hid (¬ Apart ks → ownE ks ds = 2) := hidB (fun h => by unfold ownE; rw [if_neg (by simpa using he), if_pos h])
    have E3 : Hid (Apart ks → ds.length ≠ ks.length → ownE ks ds = 2) := hidB (fun h h2 => by unfold ownE; rw [if_neg (by simpa using he), if_neg (fun hn => hn h), if_pos h2])
    have E4 : Hid (Apart ks → ds.length = ks.length → ds.all DI.own = true → ownE ks ds = 0) := hidB (fun h h2 h3 => by unfold ownE; rw [if_neg (by simpa using he), if_neg (fun hn => hn h), if_neg (by simpa using h2), if_pos h3])
    have E5 : Hid (Apart ks → ds.length = ks.length → ds.all DI.own = false → ownE ks ds = 90) := hidB (fun h h2 h3 => by unfold ownE; rw [if_neg (by simpa using he), if_neg (fun hn => hn h), if_neg (by simpa using h2), h3]; rfl)
    rw [he] at KA
    clear he
    go_enter Try.func25, Try.ntmps25
    go_upto_region 1 with fail
    generalize (w.alloc (.cells x.cs 48)) = w1 at *
    have z22 : w1.cell? ⟨w.heap.size, 22, none⟩ = some (.slice pa ks.length c) := by rw [← HK.out]; exact N.out.cell 22
    have z23 : w1.cell? ⟨w.heap.size, 23, none⟩ = some (.slice pb ds.length c') := by rw [← HD.out]; exact N.out.cell 23
    go_wp2_with fail
    refine (KA.out _ Bt.out).mono ?_; rintro e w2 ⟨rfl, hb⟩
    have N2 := hidB (N.out.on hb)
    have B2 := hidB (Bt.out.trans (hb.mono Bt.out.size))
    clear hb N Bt z22 z23
    have z22 : w2.cell? ⟨w.heap.size, 22, none⟩ = some (.slice pa ks.length c) := by rw [← HK.out]; exact N2.out.cell 22
    have z23 : w2.cell? ⟨w.heap.size, 23, none⟩ = some (.slice pb ds.length c') := by rw [← HD.out]; exact N2.out.cell 23
    go_wp2_with fail
    go_loopw [44] (fun i wr => ∃ k : Nat, k ≤ ks.length ∧ i = .int .i64 k ∧ (∀ j (h : j < ks.length), j < k → (ks.take j).any (KI.eq ks[j]) = false) ∧ Bk wr (w.heap.size) 48 x.cs ∧ Below w.heap.size w wr) (fun i _ => ks.length - (intOf i).toNat)
    case atStart => exact ⟨0, by omega, rfl, fun j _ h => by omega, N2.out, B2.out⟩
    case round =>
      obtain ⟨k, hk, rfl, ha, hn, hb⟩ := hrel
      have Ha := hidB ha
      have Hb := hidB hb
      have Nr := hidB hn
      clear ha hb hn N2 B2 z22 z23
      have z22 : wr.cell? ⟨w.heap.size, 22, none⟩ = some (.slice pa ks.length c) := by rw [← HK.out]; exact Nr.out.cell 22
      have z23 : wr.cell? ⟨w.heap.size, 23, none⟩ = some (.slice pb ds.length c') := by rw [← HD.out]; exact Nr.out.cell 23
      by_cases hlt : k < ks.length
      · have hx1 : (k : Int) < (ks.length : Int) := by omega
        have hx2 : (0 : Int) ≤ (k : Int) := by omega
        have hx3 : (k : Int) ≤ (c : Int) := by omega
        obtain ⟨g, o, rfl, hg, hcell⟩ := RK.out (by omega)
        obtain ⟨x0, x1⟩ := KI.two (rangeOn Hb.out hg (hcell k hlt))
        have HA := hidB (fun (W : World) (h : Below w.heap.size w W) => holds_any (ks.take k) _ ks[k] W (TK.out W h k hk))
        have HS : Hid ((ks.take k).any (KI.eq ks[k]) = false → ∀ j (h : j < ks.length), j < k + 1 → (ks.take j).any (KI.eq ks[j]) = false) := hidB (fun h j hj hj2 => if e : j = k then (by subst e; exact h) else Ha.out j hj (by omega))
        have HT : Hid ((ks.take k).any (KI.eq ks[k]) = true → ownE ks ds = 2) := hidB (fun h => E2.out (fun ap => by have := ap k hlt; rw [h] at this; cases this))
        clear hcell hg
        generalize hany : (ks.take k).any (KI.eq ks[k]) = q at *
        clear hany
        generalize ks[k]'hlt = kk at *
        obtain ⟨s, n⟩ := kk
        simp only at x0 x1
        have Bk3 := hidB (show Bk (wr.alloc (.cells #[.string s, .int .i64 n] 27)) wr.heap.size 27 #[.string s, .int .i64 n] from Bk.new wr _ _)
        have N3 := hidB (show Bk (wr.alloc (.cells #[.string s, .int .i64 n] 27)) (w.heap.size) 48 x.cs from Nr.out.alloc _)
        have B3 := hidB (show Below w.heap.size w (wr.alloc (.cells #[.string s, .int .i64 n] 27)) from Hb.out.alloc Hb.out.size _)
        go_upto_region 21 with fail
        generalize (wr.alloc (.cells #[.string s, .int .i64 n] 27)) = w3 at *
        generalize wr.heap.size = g3 at *
        refine wp_region_noPanic ?_
        refine wp_region_held_drew (S := (fun W => Bk W (w.heap.size) 48 x.cs ∧ Bk W g3 27 #[.string s, .int .i64 n] ∧ Below w.heap.size w W ∧ W.cell? ⟨w.heap.size, 22, none⟩ = some (.slice (some ⟨g, o, none⟩) ks.length c) ∧ W.cell? ⟨g3, 0, none⟩ = some (.string s) ∧ W.cell? ⟨g3, 1, none⟩ = some (.int .i64 n))) (by kernel_rfl) ?_ (fun hHeld => ?_)
        · first | exact ⟨hHeld.1.on hb, hHeld.2.1.on hb, hHeld.2.2.1.trans (hb.mono hHeld.2.2.1.size), by rw [← HK.out]; exact (hHeld.1.on hb).cell 22, (hHeld.2.1.on hb).cell 0, (hHeld.2.1.on hb).cell 1⟩ | exact ⟨N3.out.drew, Bk3.out.drew, B3.out.drew, by rw [← HK.out]; exact N3.out.drew.cell 22, Bk3.out.drew.cell 0, Bk3.out.drew.cell 1⟩
        first | (refine wpAnyH_take (i := 0) (v := undef) (by simp only [List.getElem?_toArray, List.getElem?_cons_zero]; exact rfl) (by kernel_rfl) (by kernel_rfl) (by kernel_rfl) (fun _ _ _ h => h) (Or.inr ⟨?_, rfl⟩) (by assumption) ?_; (rfl); try simp only [Act.put, List.setIfInBounds_toArray, List.set_cons_zero, List.set_cons_succ]) | (refine wpAnyH_take (i := 0) (v := ?_) (by simp only [List.getElem?_toArray, List.getElem?_cons_zero]; exact rfl) (by kernel_rfl) (by kernel_rfl) (by kernel_rfl) (fun _ _ _ h => h) (Or.inl ⟨?_, ?_⟩) (by assumption) ?_; rotate_left; (rfl); (focus (intro w hSw; (try dsimp only at hSw); go_simp; try with_reducible rfl)); try simp only [Act.put, List.setIfInBounds_toArray, List.set_cons_zero, List.set_cons_succ])
        first | (refine wpAnyH_take (i := 1) (v := undef) (by simp only [List.getElem?_toArray, List.getElem?_cons_succ, List.getElem?_cons_zero]; exact rfl) (by kernel_rfl) (by kernel_rfl) (by kernel_rfl) (fun _ _ _ h => h) (Or.inr ⟨?_, rfl⟩) (by assumption) ?_; (rfl); try simp only [Act.put, List.setIfInBounds_toArray, List.set_cons_zero, List.set_cons_succ]) | (refine wpAnyH_take (i := 1) (v := ?_) (by simp only [List.getElem?_toArray, List.getElem?_cons_succ, List.getElem?_cons_zero]; exact rfl) (by kernel_rfl) (by kernel_rfl) (by kernel_rfl) (fun _ _ _ h => h) (Or.inl ⟨?_, ?_⟩) (by assumption) ?_; rotate_left; (rfl); (focus (intro w hSw; (try dsimp only at hSw); go_simp; try with_reducible rfl)); try simp only [Act.put, List.setIfInBounds_toArray, List.set_cons_zero, List.set_cons_succ])
        first | (refine wpAnyH_take (i := 2) (v := undef) (by simp only [List.getElem?_toArray, List.getElem?_cons_succ, List.getElem?_cons_zero]; exact rfl) (by kernel_rfl) (by kernel_rfl) (by kernel_rfl) (fun _ _ _ h => h) (Or.inr ⟨?_, rfl⟩) (by assumption) ?_; (rfl); try simp only [Act.put, List.setIfInBounds_toArray, List.set_cons_zero, List.set_cons_succ]) | (refine wpAnyH_take (i := 2) (v := ?_) (by simp only [List.getElem?_toArray, List.getElem?_cons_succ, List.getElem?_cons_zero]; exact rfl) (by kernel_rfl) (by kernel_rfl) (by kernel_rfl) (fun _ _ _ h => h) (Or.inl ⟨?_, ?_⟩) (by assumption) ?_; rotate_left; (rfl); (focus (intro w hSw; (try dsimp only at hSw); go_simp; try with_reducible rfl)); try simp only [Act.put, List.setIfInBounds_toArray, List.set_cons_zero, List.set_cons_succ])
        first | (refine wpAnyH_take (i := 3) (v := undef) (by simp only [List.getElem?_toArray, List.getElem?_cons_succ, List.getElem?_cons_zero]; exact rfl) (by kernel_rfl) (by kernel_rfl) (by kernel_rfl) (fun _ _ _ h => h) (Or.inr ⟨?_, rfl⟩) (by assumption) ?_; (rfl); try simp only [Act.put, List.setIfInBounds_toArray, List.set_cons_zero, List.set_cons_succ]) | (refine wpAnyH_take (i := 3) (v := ?_) (by simp only [List.getElem?_toArray, List.getElem?_cons_succ, List.getElem?_cons_zero]; exact rfl) (by kernel_rfl) (by kernel_rfl) (by kernel_rfl) (fun _ _ _ h => h) (Or.inl ⟨?_, ?_⟩) (by assumption) ?_; rotate_left; (rfl); (focus (intro w hSw; (try dsimp only at hSw); go_simp; try with_reducible rfl)); try simp only [Act.put, List.setIfInBounds_toArray, List.set_cons_zero, List.set_cons_succ])
        first | (refine wpAnyH_take (i := 4) (v := undef) (by simp only [List.getElem?_toArray, List.getElem?_cons_succ, List.getElem?_cons_zero]; exact rfl) (by kernel_rfl) (by kernel_rfl) (by kernel_rfl) (fun _ _ _ h => h) (Or.inr ⟨?_, rfl⟩) (by assumption) ?_; (rfl); try simp only [Act.put, List.setIfInBounds_toArray, List.set_cons_zero, List.set_cons_succ]) | (refine wpAnyH_take (i := 4) (v := ?_) (by simp only [List.getElem?_toArray, List.getElem?_cons_succ, List.getElem?_cons_zero]; exact rfl) (by kernel_rfl) (by kernel_rfl) (by kernel_rfl) (fun _ _ _ h => h) (Or.inl ⟨?_, ?_⟩) (by assumption) ?_; rotate_left; (rfl); (focus (intro w hSw; (try dsimp only at hSw); go_simp; try with_reducible rfl)); try simp only [Act.put, List.setIfInBounds_toArray, List.set_cons_zero, List.set_cons_succ])
        first | (refine wpAnyH_take (i := 5) (v := undef) (by simp only [List.getElem?_toArray, List.getElem?_cons_succ, List.getElem?_cons_zero]; exact rfl) (by kernel_rfl) (by kernel_rfl) (by kernel_rfl) (fun _ _ _ h => h) (Or.inr ⟨?_, rfl⟩) (by assumption) ?_; (rfl); try simp only [Act.put, List.setIfInBounds_toArray, List.set_cons_zero, List.set_cons_succ]) | (refine wpAnyH_ready (rs := [5]) (by kernel_rfl) (by simp) ?_; refine AllReadyH.cons rfl (fun K hK => ?_) AllReadyH.nil; go_simp; (refine (HA.out _ hHeld.2.2.1).mono ?_; rintro e wn ⟨rfl, hb⟩); (refine hK.out _ _ ?_ (fun hHeld => ?_); (first | exact ⟨hHeld.1.on hb, hHeld.2.1.on hb, hHeld.2.2.1.trans (hb.mono hHeld.2.2.1.size), by rw [← HK.out]; exact (hHeld.1.on hb).cell 22, (hHeld.2.1.on hb).cell 0, (hHeld.2.1.on hb).cell 1⟩ | exact ⟨N3.out.drew, Bk3.out.drew, B3.out.drew, by rw [← HK.out]; exact N3.out.drew.cell 22, Bk3.out.drew.cell 0, Bk3.out.drew.cell 1⟩)); clear hK K; try simp only [Act.put, List.setIfInBounds_toArray, List.set_cons_zero, List.set_cons_succ])
        refine wpAnyH_done (by kernel_rfl) ?_ _
        refine NoPanic.normal ?_
        have N4 := hidB hHeld.1
        have B4 := hidB hHeld.2.2.1
        cases q
        · have HS2 := hidB (HS.out rfl)
          go_wp2_with fail
          go_roundw
          case rel => exact ⟨k + 1, by omega, by go_num, HS2.out, N4.out, B4.out⟩
          case measure => simp [intOf]; omega
        · have HT2 := hidB (HT.out rfl)
          go_wp2_with fail
          go_ret
          exact ⟨by rw [HT2.out]; rfl, B4.out⟩
      · obtain rfl : k = ks.length := by omega
        have hx4 : ¬ ((ks.length : Int) < (ks.length : Int)) := by omega
        have AP : Hid (Apart ks) := hidB (fun j h => Ha.out j h h)
        by_cases hl : ds.length = ks.length
        · have E4 := hidB (E4.out AP.out hl)
          have E5 := hidB (E5.out AP.out hl)
          clear E2 E3 TK RK HK hc1 hc2 Ha hm1 KA
          have hl2 : (ds.length : Int) = (ks.length : Int) := by rw [hl]
          have hl3 : ((ds.length : Int) != (ks.length : Int)) = false := by rw [hl]; simp
          go_wp2_with fail
          clear hl3 hx4 z22
          go_loopw [66] (fun i wr => ∃ k : Nat, k ≤ ds.length ∧ i = .int .i64 k ∧ (ds.take k).all DI.own = true ∧ Below w.heap.size w wr) (fun i _ => ds.length - (intOf i).toNat)
          case atStart => exact ⟨0, by omega, rfl, rfl, Hb.out⟩
          case round =>
            obtain ⟨k, hk, rfl, ha, hb⟩ := hrel
            have Ha := hidB ha
            have B5 := hidB hb
            clear ha hb z23 Nr Hb
            by_cases hlt : k < ds.length
            · have hx1 : (k : Int) < (ds.length : Int) := by omega
              have hx2 : (0 : Int) ≤ (k : Int) := by omega
              obtain ⟨g, o, rfl, hg, hcell⟩ := RD.out (by omega)
              have RC := hidB (rangeOn B5.out hg (hcell k hlt))
              have hm := List.getElem_mem hlt
              have NC := hidB (NA.out _ hm)
              have WC := hidB (WA.out _ hm)
              have HS : Hid (DI.own ds[k] = true → (ds.take (k + 1)).all DI.own = true) := hidB (fun h => by rw [List.take_succ_eq_append_getElem hlt, List.all_append, Ha.out, List.all_cons, h]; rfl)
              have HT : Hid (DI.own ds[k] = false → ownE ks ds = 90) := hidB (fun h => E5.out (by rw [List.all_eq_false]; exact ⟨_, hm, by rw [h]; decide⟩))
              clear hcell hg hm NA WA RD
              generalize ds[k]'hlt = dd at *
              unfold DI.own at HS HT
              have D6 := hidB (show Bk (wr.alloc (.cells dd.cs 32)) wr.heap.size 32 dd.cs from Bk.new wr _ _)
              have B6 := hidB (show Below w.heap.size w (wr.alloc (.cells dd.cs 32)) from B5.out.alloc B5.out.size _)
              generalize dd.none = q1 at *
              generalize dd.isW = q2 at *
              cases q1
              · cases q2
                · skip
                  go_upto_region 29 with (first | ((with_reducible refine ldId 32 (.tmp 68) ?_); refine wpList_load_mid (by rfl) 32 (.tmp 68) (by rfl) (g) (o + k * 16) (by rfl) (dd.cs.toList) _ (by exact (RC.out)) Try.underlying32 (by rfl) (by kernel_rfl) ?_) | ((with_reducible refine wpId ?_); refine wpList_store_new (by rfl) 32 (.tmp 9) (.tmp 69) (by rfl) dd.cs 32 _ (by rfl) (by rfl) (by exact size_desc) (by rfl) (by exact DI.one _) ?_))
                  generalize (wr.alloc (.cells dd.cs 32)) = w6 at *
                  generalize wr.heap.size = g6 at *
                  go_wp2_with (first | ((with_reducible refine ldId 32 (.tmp 9) ?_); refine wpList_load_row (by rfl) 32 (.tmp 9) (by rfl) (g6) (by rfl) 32 _ (0, 0) _ (by exact D6.out) Try.underlying32 (by rfl) (by exact size_desc) ?_))
                  refine (NC.out _).mono ?_; rintro e w7 ⟨rfl, hb⟩
                  have D7 := hidB (D6.out.on hb)
                  have B7 := hidB (B6.out.trans (hb.mono B6.out.size))
                  clear hb D6 B6
                  go_wp2_with (first | ((with_reducible refine ldId 32 (.tmp 9) ?_); refine wpList_wload_row 32 (.tmp 9) (by rfl) (by rfl) (g6) (by rfl) 32 _ (0, 0) _ (by exact D7.out) Try.underlying32 (by rfl) (by exact size_desc) ?_))
                  refine (WC.out _).mono ?_; rintro e w8 ⟨rfl, hb⟩
                  have B8 := hidB (B7.out.trans (hb.mono B7.out.size))
                  clear hb
                  have HT2 := hidB (HT.out rfl)
                  go_wp2_with fail
                  go_ret
                  exact ⟨by rw [HT2.out]; rfl, B8.out⟩
                · skip
                  go_upto_region 29 with (first | ((with_reducible refine ldId 32 (.tmp 68) ?_); refine wpList_load_mid (by rfl) 32 (.tmp 68) (by rfl) (g) (o + k * 16) (by rfl) (dd.cs.toList) _ (by exact (RC.out)) Try.underlying32 (by rfl) (by kernel_rfl) ?_) | ((with_reducible refine wpId ?_); refine wpList_store_new (by rfl) 32 (.tmp 9) (.tmp 69) (by rfl) dd.cs 32 _ (by rfl) (by rfl) (by exact size_desc) (by rfl) (by exact DI.one _) ?_))
                  generalize (wr.alloc (.cells dd.cs 32)) = w6 at *
                  generalize wr.heap.size = g6 at *
                  go_wp2_with (first | ((with_reducible refine ldId 32 (.tmp 9) ?_); refine wpList_load_row (by rfl) 32 (.tmp 9) (by rfl) (g6) (by rfl) 32 _ (0, 0) _ (by exact D6.out) Try.underlying32 (by rfl) (by exact size_desc) ?_))
                  refine (NC.out _).mono ?_; rintro e w7 ⟨rfl, hb⟩
                  have D7 := hidB (D6.out.on hb)
                  have B7 := hidB (B6.out.trans (hb.mono B6.out.size))
                  clear hb D6 B6
                  go_wp2_with (first | ((with_reducible refine ldId 32 (.tmp 9) ?_); refine wpList_wload_row 32 (.tmp 9) (by rfl) (by rfl) (g6) (by rfl) 32 _ (0, 0) _ (by exact D7.out) Try.underlying32 (by rfl) (by exact size_desc) ?_))
                  refine (WC.out _).mono ?_; rintro e w8 ⟨rfl, hb⟩
                  have B8 := hidB (B7.out.trans (hb.mono B7.out.size))
                  clear hb
                  have HS2 := hidB (HS.out rfl)
                  go_wp2_with fail
                  go_roundw
                  case rel => exact ⟨k + 1, by omega, by go_num, HS2.out, B8.out⟩
                  case measure => simp [intOf]; omega
              · skip
                go_upto_region 29 with (first | ((with_reducible refine ldId 32 (.tmp 68) ?_); refine wpList_load_mid (by rfl) 32 (.tmp 68) (by rfl) (g) (o + k * 16) (by rfl) (dd.cs.toList) _ (by exact (RC.out)) Try.underlying32 (by rfl) (by kernel_rfl) ?_) | ((with_reducible refine wpId ?_); refine wpList_store_new (by rfl) 32 (.tmp 9) (.tmp 69) (by rfl) dd.cs 32 _ (by rfl) (by rfl) (by exact size_desc) (by rfl) (by exact DI.one _) ?_))
                generalize (wr.alloc (.cells dd.cs 32)) = w6 at *
                generalize wr.heap.size = g6 at *
                go_wp2_with (first | ((with_reducible refine ldId 32 (.tmp 9) ?_); refine wpList_load_row (by rfl) 32 (.tmp 9) (by rfl) (g6) (by rfl) 32 _ (0, 0) _ (by exact D6.out) Try.underlying32 (by rfl) (by exact size_desc) ?_))
                refine (NC.out _).mono ?_; rintro e w7 ⟨rfl, hb⟩
                have D7 := hidB (D6.out.on hb)
                have B7 := hidB (B6.out.trans (hb.mono B6.out.size))
                clear hb D6 B6
                have HS2 := hidB (HS.out rfl)
                go_wp2_with fail
                go_roundw
                case rel => exact ⟨k + 1, by omega, by go_num, HS2.out, B7.out⟩
                case measure => simp [intOf]; omega
            · obtain rfl : k = ds.length := by omega
              have hx4 : ¬ ((ds.length : Int) < (ds.length : Int)) := by omega
              have HE := hidB (E4.out (by have := Ha.out; rwa [List.take_length] at this))
              go_wp2_with fail
              go_ret
              exact ⟨by rw [HE.out]; rfl, B5.out⟩
        · have HE := hidB (E3.out AP.out hl)
          have hl3 : ((ds.length : Int) != (ks.length : Int)) = true := by rw [bne_iff_ne]; omega
          go_wp2_with fail
          go_ret
          exact ⟨by rw [HE.out]; rfl, Hb.out⟩
  · have hne : (keysE ks != 0) = true := by rw [bne_iff_ne]; exact he
    have E1 : Hid (ownE ks ds = keysE ks) := hidB (by unfold ownE; rw [if_pos (by simpa using he)])
    rw [E1.out]
    clear E1
    generalize keysE ks = er at *
    clear he
    go_enter Try.func25, Try.ntmps25
    go_upto_region 1 with fail
    generalize (w.alloc (.cells x.cs 48)) = w1 at *
    have z22 : w1.cell? ⟨w.heap.size, 22, none⟩ = some (.slice pa ks.length c) := by rw [← HK.out]; exact N.out.cell 22
    have z23 : w1.cell? ⟨w.heap.size, 23, none⟩ = some (.slice pb ds.length c') := by rw [← HD.out]; exact N.out.cell 23
    go_wp2_with fail
    refine (KA.out _ Bt.out).mono ?_; rintro e w2 ⟨rfl, hb⟩
    have B2 := hidB (Bt.out.trans (hb.mono Bt.out.size))
    clear hb
    go_wp2_with fail
    go_ret
    exact ⟨rfl, B2.out⟩
  
/-- What facts must be to be read. -/
structure FactsOk (x : FI) (ks : List KI) (ds : List DI) (w : World) : Prop where
  pr0 : 0 ≤ x.pr.k
  xd : x.d.ok
  rk : RdK ks x.keys w
  rd : RdD ds x.own w
  dok : ∀ d, d ∈ ds → d.ok
theorem FactsOk.on {x : FI} {ks : List KI} {ds : List DI} {w w1 : World} (h : FactsOk x ks ds w) (hb : Below w.heap.size w w1) : FactsOk x ks ds w1 := ⟨h.pr0, h.xd, h.rk.on hb, h.rd.on hb, h.dok⟩
theorem known_any (m : Int) (x : FI) (ks : List KI) (ds : List DI) (hm : 1 ≤ m ∧ m ≤ 13) (w : World) (h : FactsOk x ks ds w) : Calls Try.prog 25 #[.int .u8 m, x.a] w fun e w' => e = .returned (.int .i64 (knownE m x ks ds)) ∧ Below w.heap.size w w' := by
  have hm : m = 1 ∨ m = 2 ∨ m = 3 ∨ m = 4 ∨ m = 5 ∨ m = 6 ∨ m = 7 ∨ m = 8 ∨ m = 9 ∨ m = 10 ∨ m = 11 ∨ m = 12 ∨ m = 13 := by omega
  unfold knownE
  rcases hm with rfl | rfl | rfl | rfl | rfl | rfl | rfl | rfl | rfl | rfl | rfl | rfl | rfl
  · simpa using known_1 x h.pr0 w
  · simpa using known_2 x h.pr0 w
  · simpa using known_none x 3 (by omega) w
  · simpa using known_none x 4 (by omega) w
  · simpa using known_5 x h.xd w
  · simpa using known_6 x h.xd w
  · simpa using known_7 x h.xd w
  · simpa using known_8 x h.xd w
  · simpa using known_9 x h.xd w
  · simpa using known_10 x h.xd w
  · simpa using known_11 x ks ds h.dok w h.rk h.rd
  · simpa using known_none x 12 (by omega) w
  · simpa using known_none x 13 (by omega) w
end Go.Proofs.Ytlpldhcoplbopaa
