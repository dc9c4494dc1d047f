/-
  A trap's answer held against the facts: the walk of post.Check.
-/
import Derived.Test.YtlpldhcoplbopaaPostWell
namespace Go.Proofs.Ytlpldhcoplbopaa
open Go.RowKit

theorem results_row3 {P : Program} {fn : Func} {p u v : Tmp} {ty : TypeId} (h : fn.results = #[.cell p ty, .tmp u, .tmp v]) (tmps : Array Value) (w : World) (g : Nat) (t : TypeId) (cs : Array Value) (fr : Nat × Nat) (d : TypeDesc)
    (hp : tmps.getD p undef = .pointer (some ⟨g, 0, none⟩)) (hg : w.heap[g]? = some (.cells cs t fr))
    (hu : P.underlying ty = some d) (hd : (match d with | .struct _ | .array _ _ => true | _ => false) = true) (hi : (P.info? ty).map (·.size) = some cs.size) :
    (results fn tmps).run P w = .ok (.tuple #[.agg cs, tmps.getD u undef, tmps.getD v undef]) w := by
  have hp' : tmps[p]?.getD undef = .pointer (some ⟨g, 0, none⟩) := by simpa using hp
  simp [results, h, hp', asAddr, run_loadVar_row w g t ty cs fr d hg hu hd hi]
section
variable {P : Program} {ops : Array Oper} {rest : List Oper} {w : World} {a : Act} {Q : Exit → Act → World → Prop}
/-- (A guard for the arms of a walk: a store of this type through these slots alone.) -/
theorem stId (ty : TypeId) (x y : Operand) {dst : Option Tmp} {type : TypeId} {pos : String} {after : Array Edge} {g : Option (Nat × Bool)} (h : wpList P ops Q ({ dst := dst, op := .store ty x y, type := type, pos := pos, after := after, guard := g } :: rest) a w) : wpList P ops Q ({ dst := dst, op := .store ty x y, type := type, pos := pos, after := after, guard := g } :: rest) a w := h
end

/-! ### cells stored into the middle of a block -/
def putAt (cs : Array Value) (o : Nat) : List Value → Array Value
  | [] => cs
  | v :: r => putAt (cs.setIfInBounds o v) (o + 1) r
theorem putAt_toList : ∀ (vs : List Value) (o : Nat) (cs : Array Value), o + vs.length ≤ cs.size → (putAt cs o vs).toList = cs.toList.take o ++ vs ++ cs.toList.drop (o + vs.length)
  | [], o, cs, _ => by simp [putAt]
  | v :: r, o, cs, h => by
    have hl : o < cs.toList.length := by simp at h ⊢; omega
    rw [putAt, putAt_toList r (o + 1) _ (by simp at h ⊢; omega), Array.toList_setIfInBounds, List.drop_set_of_lt (by omega), List.take_succ_eq_append_getElem (by simpa using hl), List.take_set_of_le (Nat.le_refl _)]
    simp
    rw [show o + 1 + r.length = o + (r.length + 1) by omega]
theorem putAt_eq {vs : List Value} {o : Nat} {cs ds : Array Value} (h : o + vs.length ≤ cs.size) (e : cs.toList.take o ++ (vs ++ cs.toList.drop (o + vs.length)) = ds.toList) : putAt cs o vs = ds := by
  apply Array.ext'
  rw [putAt_toList vs o cs h, List.append_assoc]; exact e
theorem Bk.setCells {g : Nat} {t : TypeId} : ∀ (vs : List Value) (o : Nat) {w : World} {cs : Array Value}, Bk w g t cs → Bk (w.setCells g o vs) g t (putAt cs o vs)
  | [], _, _, _, h => h
  | v :: r, o, _, _, h => by rw [World.setCells, putAt]; exact Bk.setCells r (o + 1) (h.set o v)
theorem Bk.setCells_far {b : Nat} {t : TypeId} {cs : Array Value} {g : Nat} (hn : b ≠ g) : ∀ (vs : List Value) (o : Nat) {w : World}, Bk w b t cs → Bk (w.setCells g o vs) b t cs
  | [], _, _, h => h
  | v :: r, o, _, h => by rw [World.setCells]; exact Bk.setCells_far hn r (o + 1) (h.far (p := ⟨g, o, none⟩) hn v)
theorem below_setCells {B : Nat} {w0 : World} {g : Nat} (hn : B ≤ g) : ∀ (vs : List Value) (o : Nat) {w : World}, Below B w0 w → Below B w0 (w.setCells g o vs)
  | [], _, _, h => h
  | v :: r, o, _, h => by rw [World.setCells]; exact below_setCells hn r (o + 1) (h.setCell (p := ⟨g, o, none⟩) hn v)
theorem Bk.there {w : World} {g : Nat} {t : TypeId} {cs : Array Value} (h : Bk w g t cs) (o n : Nat) (hn : o + n ≤ cs.size) : w.there g o n := fun j hj => by
  refine ⟨?_, h.free _⟩
  rw [h.cell, Array.getElem?_eq_getElem (by omega)]
  rfl

theorem Bk.setCells2 {w : World} {g : Nat} {t : TypeId} {cs ds : Array Value} (h : Bk w g t cs) (vs : List Value) (o : Nat) (hs : o + vs.length ≤ cs.size) (e : cs.toList.take o ++ (vs ++ cs.toList.drop (o + vs.length)) = ds.toList) : Bk (w.setCells g o vs) g t ds := by
  rw [← putAt_eq hs e]; exact Bk.setCells vs o h

/-! ### outcomes -/
def OI.zero : OI := ⟨0, VI.zero, false, false, DI.zero, .slice none 0 0, 0, ⟨#[]⟩⟩
def OI.done : OI := ⟨1, VI.zero, false, false, DI.zero, .slice none 0 0, 0, ⟨#[]⟩⟩
theorem size_out : (Try.prog.info? 38).map (·.size) = some 26 := by kernel_rfl
theorem OI.one (x : OI) (h : x.keys.oneCell' = true) : x.cs.all (·.oneCell') = true := by
  rw [Array.all_eq_true_iff_forall_mem]
  intro u hu
  simp only [OI.cs, List.mem_toArray, List.mem_cons, List.not_mem_nil, or_false] at hu
  rcases hu with rfl | rfl | rfl | rfl | rfl | rfl | rfl | rfl | rfl | rfl | rfl | rfl | rfl | rfl | rfl | rfl | rfl | rfl | rfl | rfl | rfl | rfl | rfl | rfl | rfl | rfl <;> first | rfl | exact h
/-- What is delivered of an answer that is well. -/
def outO (m : Int) (x : OI) (kv : Value) : OI :=
  if m = 1 ∨ m = 8 ∨ m = 12 ∨ m = 13 then { OI.done with v := x.v }
  else if m = 11 then { OI.done with keys := kv }
  else if m = 5 then { OI.done with fo := x.fo, d := if x.fo then x.d.com else DI.zero }
  else { OI.done with b := x.b }
def chkE (a : AI) (x : OI) (f : FI) (lk ks : List KI) (ds : List DI) : Int := if askedE a x lk ≠ 0 then askedE a x lk else knownE a.m f ks ds
def chkB (a : AI) (x : OI) (f : FI) (lk ks : List KI) (ds : List DI) : Bool := (chkE a x f lk ks ds == 0) && wellB a x f lk ks ds
def chkO (a : AI) (x : OI) (f : FI) (lk ks : List KI) (ds : List DI) (kv : Value) : OI := if chkB a x f lk ks ds then outO a.m x kv else OI.zero

theorem Bk.new4 (w : World) (o p q : Obj) (t : TypeId) (cs : Array Value) : Bk ((((w.alloc o).alloc p).alloc q).alloc (.cells cs t)) (w.heap.size + 1 + 1 + 1) t cs := by
  have h := Bk.new3 (w.alloc o) p q t cs
  rwa [show (w.alloc o).heap.size = w.heap.size + 1 by simp] at h
set_option maxHeartbeats 8000000 in
set_option maxRecDepth 100000 in
theorem check_bad1 (a : AI) (x : OI) (f : FI) (lk ks : List KI) (ds : List DI) (he : askedE a x lk ≠ 0) (w : World) (h : AskOk a x lk w) (hf : FactsOk f ks ds w) : Calls Try.prog 13 #[a.a, x.a, f.a] w fun e w' => e = .returned (.tuple #[OI.zero.a, .bool false, .int .i64 (askedE a x lk)]) ∧ Below w.heap.size w w' := by
  have QA := hidB (fun W (hb : Below w.heap.size w W) => pasked_any a x lk W (h.on hb))
  clear h hf
  have hne : (askedE a x lk != 0) = true := by rw [bne_iff_ne]; exact he
  clear he
  generalize askedE a x lk = er at *
  have A1 := hidB (show Bk ((((w.alloc (.cells a.cs 35)).alloc (.cells x.cs 38)).alloc (.cells f.cs 48)).alloc (.cells #[.int .u8 0, .int .u8 0, .float .f64 0, .string ⟨#[]⟩, .int .i64 0, .bool false, .bool false, .int .u8 0, .int .u8 0, .float .f64 0, .string ⟨#[]⟩, .int .i64 0, .int .u8 0, .float .f64 0, .string ⟨#[]⟩, .int .i64 0, .int .u8 0, .float .f64 0, .string ⟨#[]⟩, .int .i64 0, .bool false, .bool false, .bool false, .slice none 0 0, .int .u8 0, .string ⟨#[]⟩] 38)) (w.heap.size) 35 a.cs from (((Bk.new w _ _).alloc _).alloc _).alloc _)
  have X1 := hidB (show Bk ((((w.alloc (.cells a.cs 35)).alloc (.cells x.cs 38)).alloc (.cells f.cs 48)).alloc (.cells #[.int .u8 0, .int .u8 0, .float .f64 0, .string ⟨#[]⟩, .int .i64 0, .bool false, .bool false, .int .u8 0, .int .u8 0, .float .f64 0, .string ⟨#[]⟩, .int .i64 0, .int .u8 0, .float .f64 0, .string ⟨#[]⟩, .int .i64 0, .int .u8 0, .float .f64 0, .string ⟨#[]⟩, .int .i64 0, .bool false, .bool false, .bool false, .slice none 0 0, .int .u8 0, .string ⟨#[]⟩] 38)) (w.heap.size + 1) 38 x.cs from ((Bk.new2 w _ _ _).alloc _).alloc _)
  have F1 := hidB (show Bk ((((w.alloc (.cells a.cs 35)).alloc (.cells x.cs 38)).alloc (.cells f.cs 48)).alloc (.cells #[.int .u8 0, .int .u8 0, .float .f64 0, .string ⟨#[]⟩, .int .i64 0, .bool false, .bool false, .int .u8 0, .int .u8 0, .float .f64 0, .string ⟨#[]⟩, .int .i64 0, .int .u8 0, .float .f64 0, .string ⟨#[]⟩, .int .i64 0, .int .u8 0, .float .f64 0, .string ⟨#[]⟩, .int .i64 0, .bool false, .bool false, .bool false, .slice none 0 0, .int .u8 0, .string ⟨#[]⟩] 38)) (w.heap.size + 1 + 1) 48 f.cs from (Bk.new3 w _ _ _ _).alloc _)
  have R1 := hidB (show Bk ((((w.alloc (.cells a.cs 35)).alloc (.cells x.cs 38)).alloc (.cells f.cs 48)).alloc (.cells #[.int .u8 0, .int .u8 0, .float .f64 0, .string ⟨#[]⟩, .int .i64 0, .bool false, .bool false, .int .u8 0, .int .u8 0, .float .f64 0, .string ⟨#[]⟩, .int .i64 0, .int .u8 0, .float .f64 0, .string ⟨#[]⟩, .int .i64 0, .int .u8 0, .float .f64 0, .string ⟨#[]⟩, .int .i64 0, .bool false, .bool false, .bool false, .slice none 0 0, .int .u8 0, .string ⟨#[]⟩] 38)) (w.heap.size + 1 + 1 + 1) 38 OI.zero.cs from Bk.new4 w _ _ _ _ _)
  have B1 := hidB (show Below w.heap.size w ((((w.alloc (.cells a.cs 35)).alloc (.cells x.cs 38)).alloc (.cells f.cs 48)).alloc (.cells #[.int .u8 0, .int .u8 0, .float .f64 0, .string ⟨#[]⟩, .int .i64 0, .bool false, .bool false, .int .u8 0, .int .u8 0, .float .f64 0, .string ⟨#[]⟩, .int .i64 0, .int .u8 0, .float .f64 0, .string ⟨#[]⟩, .int .i64 0, .int .u8 0, .float .f64 0, .string ⟨#[]⟩, .int .i64 0, .bool false, .bool false, .bool false, .slice none 0 0, .int .u8 0, .string ⟨#[]⟩] 38)) from (((box_one w _).alloc (by simp) _).alloc (by simp; omega) _).alloc (by simp; omega) _)
  go_enter Try.func13, Try.ntmps13
  go_upto_region 1 with fail
  generalize ((((w.alloc (.cells a.cs 35)).alloc (.cells x.cs 38)).alloc (.cells f.cs 48)).alloc (.cells #[.int .u8 0, .int .u8 0, .float .f64 0, .string ⟨#[]⟩, .int .i64 0, .bool false, .bool false, .int .u8 0, .int .u8 0, .float .f64 0, .string ⟨#[]⟩, .int .i64 0, .int .u8 0, .float .f64 0, .string ⟨#[]⟩, .int .i64 0, .int .u8 0, .float .f64 0, .string ⟨#[]⟩, .int .i64 0, .bool false, .bool false, .bool false, .slice none 0 0, .int .u8 0, .string ⟨#[]⟩] 38)) = w1 at *
  go_wp2_with (first | ((with_reducible refine ldId 35 (.tmp 3) ?_); refine wpList_load_row (by rfl) 35 (.tmp 3) (by rfl) (w.heap.size) (by rfl) 35 _ (0, 0) _ (by exact A1.out) Try.underlying35 (by rfl) (by kernel_rfl) ?_) | ((with_reducible refine ldId 38 (.tmp 4) ?_); refine wpList_load_row (by rfl) 38 (.tmp 4) (by rfl) (w.heap.size + 1) (by rfl) 38 _ (0, 0) _ (by exact X1.out) Try.underlying38 (by rfl) (by kernel_rfl) ?_))
  refine (QA.out _ B1.out).mono ?_; rintro e w2 ⟨rfl, hb⟩
  have A2 := hidB (A1.out.on hb)
  have X2 := hidB (X1.out.on hb)
  have F2 := hidB (F1.out.on hb)
  have R2 := hidB (R1.out.on hb)
  have B2 := hidB (B1.out.trans (hb.mono B1.out.size))
  clear hb A1 X1 F1 R1 B1
  go_wp2_with (first | ((with_reducible refine wpId ?_); refine wpList_build_to (by rfl) 38 _ (by rfl) OI.zero.cs (by kernel_rfl) ?_) | ((with_reducible refine stId 38 (.tmp 6) (.tmp 17) ?_); refine wpList_store_row (by rfl) 38 (.tmp 6) (.tmp 17) (by rfl) (w.heap.size + 1 + 1 + 1) OI.zero.cs (by rfl) (by rfl) 38 OI.zero.cs (by exact R2.out) (by exact size_out) (by rfl) (by exact OI.one _ (by rfl)) ?_))
  exact bodyPost_ret (v := .tuple #[OI.zero.a, .bool false, .int .i64 er]) (results_row3 Try.results13 _ _ (w.heap.size + 1 + 1 + 1) 38 OI.zero.cs (0, 0) _ rfl (R2.out.setRow _) Try.underlying38 rfl size_out) rfl ⟨rfl, below_setRow B2.out (by omega) _⟩
set_option maxHeartbeats 8000000 in
set_option maxRecDepth 100000 in
theorem check_bad2 (a : AI) (x : OI) (f : FI) (lk ks : List KI) (ds : List DI) (hm : 1 ≤ a.m ∧ a.m ≤ 13) (he : askedE a x lk = 0) (hk : knownE a.m f ks ds ≠ 0) (w : World) (h : AskOk a x lk w) (hf : FactsOk f ks ds w) : Calls Try.prog 13 #[a.a, x.a, f.a] w fun e w' => e = .returned (.tuple #[OI.zero.a, .bool false, .int .i64 (knownE a.m f ks ds)]) ∧ Below w.heap.size w w' := by
  have QA := hidB (fun W (hb : Below w.heap.size w W) => pasked_any a x lk W (h.on hb))
  have KA := hidB (fun W (hb : Below w.heap.size w W) => known_any a.m f ks ds hm W (hf.on hb))
  clear h hf hm
  rw [he] at QA
  have hne : (knownE a.m f ks ds != 0) = true := by rw [bne_iff_ne]; exact hk
  clear he hk
  generalize knownE a.m f ks ds = er at *
  have A1 := hidB (show Bk ((((w.alloc (.cells a.cs 35)).alloc (.cells x.cs 38)).alloc (.cells f.cs 48)).alloc (.cells #[.int .u8 0, .int .u8 0, .float .f64 0, .string ⟨#[]⟩, .int .i64 0, .bool false, .bool false, .int .u8 0, .int .u8 0, .float .f64 0, .string ⟨#[]⟩, .int .i64 0, .int .u8 0, .float .f64 0, .string ⟨#[]⟩, .int .i64 0, .int .u8 0, .float .f64 0, .string ⟨#[]⟩, .int .i64 0, .bool false, .bool false, .bool false, .slice none 0 0, .int .u8 0, .string ⟨#[]⟩] 38)) (w.heap.size) 35 a.cs from (((Bk.new w _ _).alloc _).alloc _).alloc _)
  have X1 := hidB (show Bk ((((w.alloc (.cells a.cs 35)).alloc (.cells x.cs 38)).alloc (.cells f.cs 48)).alloc (.cells #[.int .u8 0, .int .u8 0, .float .f64 0, .string ⟨#[]⟩, .int .i64 0, .bool false, .bool false, .int .u8 0, .int .u8 0, .float .f64 0, .string ⟨#[]⟩, .int .i64 0, .int .u8 0, .float .f64 0, .string ⟨#[]⟩, .int .i64 0, .int .u8 0, .float .f64 0, .string ⟨#[]⟩, .int .i64 0, .bool false, .bool false, .bool false, .slice none 0 0, .int .u8 0, .string ⟨#[]⟩] 38)) (w.heap.size + 1) 38 x.cs from ((Bk.new2 w _ _ _).alloc _).alloc _)
  have F1 := hidB (show Bk ((((w.alloc (.cells a.cs 35)).alloc (.cells x.cs 38)).alloc (.cells f.cs 48)).alloc (.cells #[.int .u8 0, .int .u8 0, .float .f64 0, .string ⟨#[]⟩, .int .i64 0, .bool false, .bool false, .int .u8 0, .int .u8 0, .float .f64 0, .string ⟨#[]⟩, .int .i64 0, .int .u8 0, .float .f64 0, .string ⟨#[]⟩, .int .i64 0, .int .u8 0, .float .f64 0, .string ⟨#[]⟩, .int .i64 0, .bool false, .bool false, .bool false, .slice none 0 0, .int .u8 0, .string ⟨#[]⟩] 38)) (w.heap.size + 1 + 1) 48 f.cs from (Bk.new3 w _ _ _ _).alloc _)
  have R1 := hidB (show Bk ((((w.alloc (.cells a.cs 35)).alloc (.cells x.cs 38)).alloc (.cells f.cs 48)).alloc (.cells #[.int .u8 0, .int .u8 0, .float .f64 0, .string ⟨#[]⟩, .int .i64 0, .bool false, .bool false, .int .u8 0, .int .u8 0, .float .f64 0, .string ⟨#[]⟩, .int .i64 0, .int .u8 0, .float .f64 0, .string ⟨#[]⟩, .int .i64 0, .int .u8 0, .float .f64 0, .string ⟨#[]⟩, .int .i64 0, .bool false, .bool false, .bool false, .slice none 0 0, .int .u8 0, .string ⟨#[]⟩] 38)) (w.heap.size + 1 + 1 + 1) 38 OI.zero.cs from Bk.new4 w _ _ _ _ _)
  have B1 := hidB (show Below w.heap.size w ((((w.alloc (.cells a.cs 35)).alloc (.cells x.cs 38)).alloc (.cells f.cs 48)).alloc (.cells #[.int .u8 0, .int .u8 0, .float .f64 0, .string ⟨#[]⟩, .int .i64 0, .bool false, .bool false, .int .u8 0, .int .u8 0, .float .f64 0, .string ⟨#[]⟩, .int .i64 0, .int .u8 0, .float .f64 0, .string ⟨#[]⟩, .int .i64 0, .int .u8 0, .float .f64 0, .string ⟨#[]⟩, .int .i64 0, .bool false, .bool false, .bool false, .slice none 0 0, .int .u8 0, .string ⟨#[]⟩] 38)) from (((box_one w _).alloc (by simp) _).alloc (by simp; omega) _).alloc (by simp; omega) _)
  go_enter Try.func13, Try.ntmps13
  go_upto_region 1 with fail
  generalize ((((w.alloc (.cells a.cs 35)).alloc (.cells x.cs 38)).alloc (.cells f.cs 48)).alloc (.cells #[.int .u8 0, .int .u8 0, .float .f64 0, .string ⟨#[]⟩, .int .i64 0, .bool false, .bool false, .int .u8 0, .int .u8 0, .float .f64 0, .string ⟨#[]⟩, .int .i64 0, .int .u8 0, .float .f64 0, .string ⟨#[]⟩, .int .i64 0, .int .u8 0, .float .f64 0, .string ⟨#[]⟩, .int .i64 0, .bool false, .bool false, .bool false, .slice none 0 0, .int .u8 0, .string ⟨#[]⟩] 38)) = w1 at *
  go_wp2_with (first | ((with_reducible refine ldId 35 (.tmp 3) ?_); refine wpList_load_row (by rfl) 35 (.tmp 3) (by rfl) (w.heap.size) (by rfl) 35 _ (0, 0) _ (by exact A1.out) Try.underlying35 (by rfl) (by kernel_rfl) ?_) | ((with_reducible refine ldId 38 (.tmp 4) ?_); refine wpList_load_row (by rfl) 38 (.tmp 4) (by rfl) (w.heap.size + 1) (by rfl) 38 _ (0, 0) _ (by exact X1.out) Try.underlying38 (by rfl) (by kernel_rfl) ?_))
  refine (QA.out _ B1.out).mono ?_; rintro e w2 ⟨rfl, hb⟩
  have A2 := hidB (A1.out.on hb)
  have X2 := hidB (X1.out.on hb)
  have F2 := hidB (F1.out.on hb)
  have R2 := hidB (R1.out.on hb)
  have B2 := hidB (B1.out.trans (hb.mono B1.out.size))
  clear hb A1 X1 F1 R1 B1
  have z_m : w2.cell? ⟨w.heap.size, 0, none⟩ = some (.int .u8 a.m) := A2.out.cell 0
  go_wp2_with (first | ((with_reducible refine ldId 48 (.tmp 5) ?_); refine wpList_load_row (by rfl) 48 (.tmp 5) (by rfl) (w.heap.size + 1 + 1) (by rfl) 48 _ (0, 0) _ (by exact F2.out) Try.underlying48 (by rfl) (by kernel_rfl) ?_))
  refine (KA.out _ B2.out).mono ?_; rintro e w3 ⟨rfl, hb⟩
  have A3 := hidB (A2.out.on hb)
  have X3 := hidB (X2.out.on hb)
  have F3 := hidB (F2.out.on hb)
  have R3 := hidB (R2.out.on hb)
  have B3 := hidB (B2.out.trans (hb.mono B2.out.size))
  clear hb A2 X2 F2 R2 B2
  clear z_m
  go_wp2_with (first | ((with_reducible refine wpId ?_); refine wpList_build_to (by rfl) 38 _ (by rfl) OI.zero.cs (by kernel_rfl) ?_) | ((with_reducible refine stId 38 (.tmp 6) (.tmp 25) ?_); refine wpList_store_row (by rfl) 38 (.tmp 6) (.tmp 25) (by rfl) (w.heap.size + 1 + 1 + 1) OI.zero.cs (by rfl) (by rfl) 38 OI.zero.cs (by exact R3.out) (by exact size_out) (by rfl) (by exact OI.one _ (by rfl)) ?_))
  exact bodyPost_ret (v := .tuple #[OI.zero.a, .bool false, .int .i64 er]) (results_row3 Try.results13 _ _ (w.heap.size + 1 + 1 + 1) 38 OI.zero.cs (0, 0) _ rfl (R3.out.setRow _) Try.underlying38 rfl size_out) rfl ⟨rfl, below_setRow B3.out (by omega) _⟩
set_option maxHeartbeats 8000000 in
set_option maxRecDepth 100000 in
theorem check_bad3 (a : AI) (x : OI) (f : FI) (lk ks : List KI) (ds : List DI) (hm : 1 ≤ a.m ∧ a.m ≤ 13) (hl : a.m = 11 → ds.length = ks.length) (he : askedE a x lk = 0) (hk : knownE a.m f ks ds = 0) (hw : wellB a x f lk ks ds = false) (w : World) (h : AskOk a x lk w) (hf : FactsOk f ks ds w) : Calls Try.prog 13 #[a.a, x.a, f.a] w fun e w' => e = .returned (.tuple #[OI.zero.a, .bool false, .int .i64 0]) ∧ Below w.heap.size w w' := by
  have QA := hidB (fun W (hb : Below w.heap.size w W) => pasked_any a x lk W (h.on hb))
  have KA := hidB (fun W (hb : Below w.heap.size w W) => known_any a.m f ks ds hm W (hf.on hb))
  have WA := hidB (fun W (hb : Below w.heap.size w W) => well_any a x f lk ks ds hm hl W (h.on hb) (hf.on hb))
  clear h hf hm hl
  rw [he] at QA
  rw [hk] at KA
  rw [hw] at WA
  clear he hk hw
  have A1 := hidB (show Bk ((((w.alloc (.cells a.cs 35)).alloc (.cells x.cs 38)).alloc (.cells f.cs 48)).alloc (.cells #[.int .u8 0, .int .u8 0, .float .f64 0, .string ⟨#[]⟩, .int .i64 0, .bool false, .bool false, .int .u8 0, .int .u8 0, .float .f64 0, .string ⟨#[]⟩, .int .i64 0, .int .u8 0, .float .f64 0, .string ⟨#[]⟩, .int .i64 0, .int .u8 0, .float .f64 0, .string ⟨#[]⟩, .int .i64 0, .bool false, .bool false, .bool false, .slice none 0 0, .int .u8 0, .string ⟨#[]⟩] 38)) (w.heap.size) 35 a.cs from (((Bk.new w _ _).alloc _).alloc _).alloc _)
  have X1 := hidB (show Bk ((((w.alloc (.cells a.cs 35)).alloc (.cells x.cs 38)).alloc (.cells f.cs 48)).alloc (.cells #[.int .u8 0, .int .u8 0, .float .f64 0, .string ⟨#[]⟩, .int .i64 0, .bool false, .bool false, .int .u8 0, .int .u8 0, .float .f64 0, .string ⟨#[]⟩, .int .i64 0, .int .u8 0, .float .f64 0, .string ⟨#[]⟩, .int .i64 0, .int .u8 0, .float .f64 0, .string ⟨#[]⟩, .int .i64 0, .bool false, .bool false, .bool false, .slice none 0 0, .int .u8 0, .string ⟨#[]⟩] 38)) (w.heap.size + 1) 38 x.cs from ((Bk.new2 w _ _ _).alloc _).alloc _)
  have F1 := hidB (show Bk ((((w.alloc (.cells a.cs 35)).alloc (.cells x.cs 38)).alloc (.cells f.cs 48)).alloc (.cells #[.int .u8 0, .int .u8 0, .float .f64 0, .string ⟨#[]⟩, .int .i64 0, .bool false, .bool false, .int .u8 0, .int .u8 0, .float .f64 0, .string ⟨#[]⟩, .int .i64 0, .int .u8 0, .float .f64 0, .string ⟨#[]⟩, .int .i64 0, .int .u8 0, .float .f64 0, .string ⟨#[]⟩, .int .i64 0, .bool false, .bool false, .bool false, .slice none 0 0, .int .u8 0, .string ⟨#[]⟩] 38)) (w.heap.size + 1 + 1) 48 f.cs from (Bk.new3 w _ _ _ _).alloc _)
  have R1 := hidB (show Bk ((((w.alloc (.cells a.cs 35)).alloc (.cells x.cs 38)).alloc (.cells f.cs 48)).alloc (.cells #[.int .u8 0, .int .u8 0, .float .f64 0, .string ⟨#[]⟩, .int .i64 0, .bool false, .bool false, .int .u8 0, .int .u8 0, .float .f64 0, .string ⟨#[]⟩, .int .i64 0, .int .u8 0, .float .f64 0, .string ⟨#[]⟩, .int .i64 0, .int .u8 0, .float .f64 0, .string ⟨#[]⟩, .int .i64 0, .bool false, .bool false, .bool false, .slice none 0 0, .int .u8 0, .string ⟨#[]⟩] 38)) (w.heap.size + 1 + 1 + 1) 38 OI.zero.cs from Bk.new4 w _ _ _ _ _)
  have B1 := hidB (show Below w.heap.size w ((((w.alloc (.cells a.cs 35)).alloc (.cells x.cs 38)).alloc (.cells f.cs 48)).alloc (.cells #[.int .u8 0, .int .u8 0, .float .f64 0, .string ⟨#[]⟩, .int .i64 0, .bool false, .bool false, .int .u8 0, .int .u8 0, .float .f64 0, .string ⟨#[]⟩, .int .i64 0, .int .u8 0, .float .f64 0, .string ⟨#[]⟩, .int .i64 0, .int .u8 0, .float .f64 0, .string ⟨#[]⟩, .int .i64 0, .bool false, .bool false, .bool false, .slice none 0 0, .int .u8 0, .string ⟨#[]⟩] 38)) from (((box_one w _).alloc (by simp) _).alloc (by simp; omega) _).alloc (by simp; omega) _)
  go_enter Try.func13, Try.ntmps13
  go_upto_region 1 with fail
  generalize ((((w.alloc (.cells a.cs 35)).alloc (.cells x.cs 38)).alloc (.cells f.cs 48)).alloc (.cells #[.int .u8 0, .int .u8 0, .float .f64 0, .string ⟨#[]⟩, .int .i64 0, .bool false, .bool false, .int .u8 0, .int .u8 0, .float .f64 0, .string ⟨#[]⟩, .int .i64 0, .int .u8 0, .float .f64 0, .string ⟨#[]⟩, .int .i64 0, .int .u8 0, .float .f64 0, .string ⟨#[]⟩, .int .i64 0, .bool false, .bool false, .bool false, .slice none 0 0, .int .u8 0, .string ⟨#[]⟩] 38)) = w1 at *
  go_wp2_with (first | ((with_reducible refine ldId 35 (.tmp 3) ?_); refine wpList_load_row (by rfl) 35 (.tmp 3) (by rfl) (w.heap.size) (by rfl) 35 _ (0, 0) _ (by exact A1.out) Try.underlying35 (by rfl) (by kernel_rfl) ?_) | ((with_reducible refine ldId 38 (.tmp 4) ?_); refine wpList_load_row (by rfl) 38 (.tmp 4) (by rfl) (w.heap.size + 1) (by rfl) 38 _ (0, 0) _ (by exact X1.out) Try.underlying38 (by rfl) (by kernel_rfl) ?_))
  refine (QA.out _ B1.out).mono ?_; rintro e w2 ⟨rfl, hb⟩
  have A2 := hidB (A1.out.on hb)
  have X2 := hidB (X1.out.on hb)
  have F2 := hidB (F1.out.on hb)
  have R2 := hidB (R1.out.on hb)
  have B2 := hidB (B1.out.trans (hb.mono B1.out.size))
  clear hb A1 X1 F1 R1 B1
  have z_m : w2.cell? ⟨w.heap.size, 0, none⟩ = some (.int .u8 a.m) := A2.out.cell 0
  go_wp2_with (first | ((with_reducible refine ldId 48 (.tmp 5) ?_); refine wpList_load_row (by rfl) 48 (.tmp 5) (by rfl) (w.heap.size + 1 + 1) (by rfl) 48 _ (0, 0) _ (by exact F2.out) Try.underlying48 (by rfl) (by kernel_rfl) ?_))
  refine (KA.out _ B2.out).mono ?_; rintro e w3 ⟨rfl, hb⟩
  have A3 := hidB (A2.out.on hb)
  have X3 := hidB (X2.out.on hb)
  have F3 := hidB (F2.out.on hb)
  have R3 := hidB (R2.out.on hb)
  have B3 := hidB (B2.out.trans (hb.mono B2.out.size))
  clear hb A2 X2 F2 R2 B2
  clear z_m
  go_wp2_with (first | ((with_reducible refine ldId 35 (.tmp 3) ?_); refine wpList_load_row (by rfl) 35 (.tmp 3) (by rfl) (w.heap.size) (by rfl) 35 _ (0, 0) _ (by exact A3.out) Try.underlying35 (by rfl) (by kernel_rfl) ?_) | ((with_reducible refine ldId 38 (.tmp 4) ?_); refine wpList_load_row (by rfl) 38 (.tmp 4) (by rfl) (w.heap.size + 1) (by rfl) 38 _ (0, 0) _ (by exact X3.out) Try.underlying38 (by rfl) (by kernel_rfl) ?_) | ((with_reducible refine ldId 48 (.tmp 5) ?_); refine wpList_load_row (by rfl) 48 (.tmp 5) (by rfl) (w.heap.size + 1 + 1) (by rfl) 48 _ (0, 0) _ (by exact F3.out) Try.underlying48 (by rfl) (by kernel_rfl) ?_))
  refine (WA.out _ B3.out).mono ?_; rintro e w4 ⟨rfl, hb⟩
  have A4 := hidB (A3.out.on hb)
  have X4 := hidB (X3.out.on hb)
  have F4 := hidB (F3.out.on hb)
  have R4 := hidB (R3.out.on hb)
  have B4 := hidB (B3.out.trans (hb.mono B3.out.size))
  clear hb A3 X3 F3 R3 B3
  go_wp2_with (first | ((with_reducible refine wpId ?_); refine wpList_build_to (by rfl) 38 _ (by rfl) OI.zero.cs (by kernel_rfl) ?_) | ((with_reducible refine stId 38 (.tmp 6) (.tmp 32) ?_); refine wpList_store_row (by rfl) 38 (.tmp 6) (.tmp 32) (by rfl) (w.heap.size + 1 + 1 + 1) OI.zero.cs (by rfl) (by rfl) 38 OI.zero.cs (by exact R4.out) (by exact size_out) (by rfl) (by exact OI.one _ (by rfl)) ?_))
  exact bodyPost_ret (v := .tuple #[OI.zero.a, .bool false, .int .i64 0]) (results_row3 Try.results13 _ _ (w.heap.size + 1 + 1 + 1) 38 OI.zero.cs (0, 0) _ rfl (R4.out.setRow _) Try.underlying38 rfl size_out) rfl ⟨rfl, below_setRow B4.out (by omega) _⟩
set_option maxHeartbeats 8000000 in
set_option maxRecDepth 100000 in
theorem check_val1 (a : AI) (x : OI) (f : FI) (lk ks : List KI) (ds : List DI) (hm2 : a.m = 1) (hm : 1 ≤ a.m ∧ a.m ≤ 13) (hl : a.m = 11 → ds.length = ks.length) (he : askedE a x lk = 0) (hk : knownE a.m f ks ds = 0) (hw : wellB a x f lk ks ds = true)  (w : World) (h : AskOk a x lk w) (hf : FactsOk f ks ds w) : Calls Try.prog 13 #[a.a, x.a, f.a] w fun e w' => e = .returned (.tuple #[OI.a { OI.done with v := x.v }, .bool true, .int .i64 0]) ∧ Below w.heap.size w w' := by
  have QA := hidB (fun W (hb : Below w.heap.size w W) => pasked_any a x lk W (h.on hb))
  have KA := hidB (fun W (hb : Below w.heap.size w W) => known_any a.m f ks ds hm W (hf.on hb))
  have WA := hidB (fun W (hb : Below w.heap.size w W) => well_any a x f lk ks ds hm hl W (h.on hb) (hf.on hb))
  clear h hf hm hl
  rw [he] at QA
  rw [hk] at KA
  rw [hw] at WA
  clear he hk hw
  have A1 := hidB (show Bk ((((w.alloc (.cells a.cs 35)).alloc (.cells x.cs 38)).alloc (.cells f.cs 48)).alloc (.cells #[.int .u8 0, .int .u8 0, .float .f64 0, .string ⟨#[]⟩, .int .i64 0, .bool false, .bool false, .int .u8 0, .int .u8 0, .float .f64 0, .string ⟨#[]⟩, .int .i64 0, .int .u8 0, .float .f64 0, .string ⟨#[]⟩, .int .i64 0, .int .u8 0, .float .f64 0, .string ⟨#[]⟩, .int .i64 0, .bool false, .bool false, .bool false, .slice none 0 0, .int .u8 0, .string ⟨#[]⟩] 38)) (w.heap.size) 35 a.cs from (((Bk.new w _ _).alloc _).alloc _).alloc _)
  have X1 := hidB (show Bk ((((w.alloc (.cells a.cs 35)).alloc (.cells x.cs 38)).alloc (.cells f.cs 48)).alloc (.cells #[.int .u8 0, .int .u8 0, .float .f64 0, .string ⟨#[]⟩, .int .i64 0, .bool false, .bool false, .int .u8 0, .int .u8 0, .float .f64 0, .string ⟨#[]⟩, .int .i64 0, .int .u8 0, .float .f64 0, .string ⟨#[]⟩, .int .i64 0, .int .u8 0, .float .f64 0, .string ⟨#[]⟩, .int .i64 0, .bool false, .bool false, .bool false, .slice none 0 0, .int .u8 0, .string ⟨#[]⟩] 38)) (w.heap.size + 1) 38 x.cs from ((Bk.new2 w _ _ _).alloc _).alloc _)
  have F1 := hidB (show Bk ((((w.alloc (.cells a.cs 35)).alloc (.cells x.cs 38)).alloc (.cells f.cs 48)).alloc (.cells #[.int .u8 0, .int .u8 0, .float .f64 0, .string ⟨#[]⟩, .int .i64 0, .bool false, .bool false, .int .u8 0, .int .u8 0, .float .f64 0, .string ⟨#[]⟩, .int .i64 0, .int .u8 0, .float .f64 0, .string ⟨#[]⟩, .int .i64 0, .int .u8 0, .float .f64 0, .string ⟨#[]⟩, .int .i64 0, .bool false, .bool false, .bool false, .slice none 0 0, .int .u8 0, .string ⟨#[]⟩] 38)) (w.heap.size + 1 + 1) 48 f.cs from (Bk.new3 w _ _ _ _).alloc _)
  have R1 := hidB (show Bk ((((w.alloc (.cells a.cs 35)).alloc (.cells x.cs 38)).alloc (.cells f.cs 48)).alloc (.cells #[.int .u8 0, .int .u8 0, .float .f64 0, .string ⟨#[]⟩, .int .i64 0, .bool false, .bool false, .int .u8 0, .int .u8 0, .float .f64 0, .string ⟨#[]⟩, .int .i64 0, .int .u8 0, .float .f64 0, .string ⟨#[]⟩, .int .i64 0, .int .u8 0, .float .f64 0, .string ⟨#[]⟩, .int .i64 0, .bool false, .bool false, .bool false, .slice none 0 0, .int .u8 0, .string ⟨#[]⟩] 38)) (w.heap.size + 1 + 1 + 1) 38 OI.zero.cs from Bk.new4 w _ _ _ _ _)
  have B1 := hidB (show Below w.heap.size w ((((w.alloc (.cells a.cs 35)).alloc (.cells x.cs 38)).alloc (.cells f.cs 48)).alloc (.cells #[.int .u8 0, .int .u8 0, .float .f64 0, .string ⟨#[]⟩, .int .i64 0, .bool false, .bool false, .int .u8 0, .int .u8 0, .float .f64 0, .string ⟨#[]⟩, .int .i64 0, .int .u8 0, .float .f64 0, .string ⟨#[]⟩, .int .i64 0, .int .u8 0, .float .f64 0, .string ⟨#[]⟩, .int .i64 0, .bool false, .bool false, .bool false, .slice none 0 0, .int .u8 0, .string ⟨#[]⟩] 38)) from (((box_one w _).alloc (by simp) _).alloc (by simp; omega) _).alloc (by simp; omega) _)
  have HM := hidB hm2
  clear hm2
  go_enter Try.func13, Try.ntmps13
  go_upto_region 1 with fail
  generalize ((((w.alloc (.cells a.cs 35)).alloc (.cells x.cs 38)).alloc (.cells f.cs 48)).alloc (.cells #[.int .u8 0, .int .u8 0, .float .f64 0, .string ⟨#[]⟩, .int .i64 0, .bool false, .bool false, .int .u8 0, .int .u8 0, .float .f64 0, .string ⟨#[]⟩, .int .i64 0, .int .u8 0, .float .f64 0, .string ⟨#[]⟩, .int .i64 0, .int .u8 0, .float .f64 0, .string ⟨#[]⟩, .int .i64 0, .bool false, .bool false, .bool false, .slice none 0 0, .int .u8 0, .string ⟨#[]⟩] 38)) = w1 at *
  go_wp2_with (first | ((with_reducible refine ldId 35 (.tmp 3) ?_); refine wpList_load_row (by rfl) 35 (.tmp 3) (by rfl) (w.heap.size) (by rfl) 35 _ (0, 0) _ (by exact A1.out) Try.underlying35 (by rfl) (by kernel_rfl) ?_) | ((with_reducible refine ldId 38 (.tmp 4) ?_); refine wpList_load_row (by rfl) 38 (.tmp 4) (by rfl) (w.heap.size + 1) (by rfl) 38 _ (0, 0) _ (by exact X1.out) Try.underlying38 (by rfl) (by kernel_rfl) ?_))
  refine (QA.out _ B1.out).mono ?_; rintro e w2 ⟨rfl, hb⟩
  have A2 := hidB (A1.out.on hb)
  have X2 := hidB (X1.out.on hb)
  have F2 := hidB (F1.out.on hb)
  have R2 := hidB (R1.out.on hb)
  have B2 := hidB (B1.out.trans (hb.mono B1.out.size))
  clear hb A1 X1 F1 R1 B1
  have z_m : w2.cell? ⟨w.heap.size, 0, none⟩ = some (.int .u8 a.m) := A2.out.cell 0
  go_wp2_with (first | ((with_reducible refine ldId 48 (.tmp 5) ?_); refine wpList_load_row (by rfl) 48 (.tmp 5) (by rfl) (w.heap.size + 1 + 1) (by rfl) 48 _ (0, 0) _ (by exact F2.out) Try.underlying48 (by rfl) (by kernel_rfl) ?_))
  refine (KA.out _ B2.out).mono ?_; rintro e w3 ⟨rfl, hb⟩
  have A3 := hidB (A2.out.on hb)
  have X3 := hidB (X2.out.on hb)
  have F3 := hidB (F2.out.on hb)
  have R3 := hidB (R2.out.on hb)
  have B3 := hidB (B2.out.trans (hb.mono B2.out.size))
  clear hb A2 X2 F2 R2 B2
  clear z_m
  go_wp2_with (first | ((with_reducible refine ldId 35 (.tmp 3) ?_); refine wpList_load_row (by rfl) 35 (.tmp 3) (by rfl) (w.heap.size) (by rfl) 35 _ (0, 0) _ (by exact A3.out) Try.underlying35 (by rfl) (by kernel_rfl) ?_) | ((with_reducible refine ldId 38 (.tmp 4) ?_); refine wpList_load_row (by rfl) 38 (.tmp 4) (by rfl) (w.heap.size + 1) (by rfl) 38 _ (0, 0) _ (by exact X3.out) Try.underlying38 (by rfl) (by kernel_rfl) ?_) | ((with_reducible refine ldId 48 (.tmp 5) ?_); refine wpList_load_row (by rfl) 48 (.tmp 5) (by rfl) (w.heap.size + 1 + 1) (by rfl) 48 _ (0, 0) _ (by exact F3.out) Try.underlying48 (by rfl) (by kernel_rfl) ?_))
  refine (WA.out _ B3.out).mono ?_; rintro e w4 ⟨rfl, hb⟩
  have A4 := hidB (A3.out.on hb)
  have X4 := hidB (X3.out.on hb)
  have F4 := hidB (F3.out.on hb)
  have R4 := hidB (R3.out.on hb)
  have B4 := hidB (B3.out.trans (hb.mono B3.out.size))
  clear hb A3 X3 F3 R3 B3
  have A5 := hidB (show Bk (w4.alloc (.cells OI.done.cs 38)) (w.heap.size) 35 a.cs from A4.out.alloc _)
  have X5 := hidB (show Bk (w4.alloc (.cells OI.done.cs 38)) (w.heap.size + 1) 38 x.cs from X4.out.alloc _)
  have R5 := hidB (show Bk (w4.alloc (.cells OI.done.cs 38)) (w.heap.size + 1 + 1 + 1) 38 OI.zero.cs from R4.out.alloc _)
  have O5 := hidB (show Bk (w4.alloc (.cells OI.done.cs 38)) w4.heap.size 38 OI.done.cs from Bk.new w4 _ _)
  have B5 := hidB (show Below w.heap.size w (w4.alloc (.cells OI.done.cs 38)) from B4.out.alloc B4.out.size _)
  have hn5 : w.heap.size + 1 + 1 + 1 < w4.heap.size := R4.out.lt
  have hw5 : w4.heap.size < (w4.alloc (.cells OI.done.cs 38)).heap.size := by simp
  go_upto_region 10 with (first | ((with_reducible refine wpId ?_); refine wpList_build_to (by rfl) 38 _ (by rfl) OI.done.cs (by kernel_rfl) ?_) | ((with_reducible refine stId 38 (.tmp 11) (.tmp 33) ?_); refine wpList_store_new (by rfl) 38 (.tmp 11) (.tmp 33) (by rfl) OI.done.cs 38 _ (by rfl) (by rfl) (by exact size_out) (by rfl) (by exact OI.one _ (by rfl)) ?_))
  generalize (w4.alloc (.cells OI.done.cs 38)) = w5 at *
  generalize w4.heap.size = g5 at *
  clear A4 X4 F4 R4 B4
  have hn6 : w.heap.size + 1 + 1 + 1 ≠ g5 := by omega
  have hn7 : w.heap.size ≤ g5 := by omega
  have z_m : w5.cell? ⟨w.heap.size, 0, none⟩ = some (.int .u8 1) := by rw [← HM.out]; exact A5.out.cell 0
  have O6 := hidB (show Bk (w5.setCells g5 1 (x.v.cells)) g5 38 (OI.cs { OI.done with v := x.v }) from Bk.setCells2 O5.out (x.v.cells) 1 (Nat.le_of_ble_eq_true rfl) (by rfl))
  have R6 := hidB (show Bk (w5.setCells g5 1 (x.v.cells)) (w.heap.size + 1 + 1 + 1) 38 OI.zero.cs from Bk.setCells_far hn6 (x.v.cells) 1 R5.out)
  have B6 := hidB (show Below w.heap.size w (w5.setCells g5 1 (x.v.cells)) from below_setCells hn7 (x.v.cells) 1 B5.out)
  go_wp2_with (first | ((with_reducible refine ldId 30 (.tmp 44) ?_); refine wpList_load_mid (by rfl) 30 (.tmp 44) (by rfl) (w.heap.size + 1) 1 (by rfl) (x.v.cells) _ (by exact Bk.mid X5.out 1 _ rfl) Try.underlying30 (by rfl) (by kernel_rfl) ?_) | ((with_reducible refine stId 30 (.tmp 46) (.tmp 45) ?_); refine wpList_store_mid (by rfl) 30 (.tmp 46) (.tmp 45) (by rfl) g5 1 (x.v.cells).toArray (by rfl) (by rfl) (by exact Bk.there O5.out 1 4 (by decide)) (by kernel_rfl) (by kernel_rfl) ?_; generalize (w5.setCells g5 1 _) = w6 at *) | ((with_reducible refine ldId 38 (.tmp 11) ?_); refine wpList_load_row (by rfl) 38 (.tmp 11) (by rfl) g5 (by rfl) 38 _ (0, 0) _ (by exact O6.out) Try.underlying38 (by rfl) (by exact size_out) ?_) | ((with_reducible refine stId 38 (.tmp 6) (.tmp 67) ?_); refine wpList_store_row (by rfl) 38 (.tmp 6) (.tmp 67) (by rfl) (w.heap.size + 1 + 1 + 1) ({ OI.done with v := x.v } : OI).cs (by rfl) (by rfl) 38 OI.zero.cs (by exact R6.out) (by exact size_out) (by rfl) (by exact OI.one _ (by rfl)) ?_))
  exact bodyPost_ret (v := .tuple #[OI.a { OI.done with v := x.v }, .bool true, .int .i64 0]) (results_row3 Try.results13 _ _ (w.heap.size + 1 + 1 + 1) 38 (OI.cs { OI.done with v := x.v }) (0, 0) _ rfl (R6.out.setRow _) Try.underlying38 rfl size_out) rfl ⟨rfl, below_setRow B6.out (by omega) _⟩

set_option maxHeartbeats 8000000 in
set_option maxRecDepth 100000 in
theorem check_val8 (a : AI) (x : OI) (f : FI) (lk ks : List KI) (ds : List DI) (hm2 : a.m = 8) (hm : 1 ≤ a.m ∧ a.m ≤ 13) (hl : a.m = 11 → ds.length = ks.length) (he : askedE a x lk = 0) (hk : knownE a.m f ks ds = 0) (hw : wellB a x f lk ks ds = true)  (w : World) (h : AskOk a x lk w) (hf : FactsOk f ks ds w) : Calls Try.prog 13 #[a.a, x.a, f.a] w fun e w' => e = .returned (.tuple #[OI.a { OI.done with v := x.v }, .bool true, .int .i64 0]) ∧ Below w.heap.size w w' := by
  have QA := hidB (fun W (hb : Below w.heap.size w W) => pasked_any a x lk W (h.on hb))
  have KA := hidB (fun W (hb : Below w.heap.size w W) => known_any a.m f ks ds hm W (hf.on hb))
  have WA := hidB (fun W (hb : Below w.heap.size w W) => well_any a x f lk ks ds hm hl W (h.on hb) (hf.on hb))
  clear h hf hm hl
  rw [he] at QA
  rw [hk] at KA
  rw [hw] at WA
  clear he hk hw
  have A1 := hidB (show Bk ((((w.alloc (.cells a.cs 35)).alloc (.cells x.cs 38)).alloc (.cells f.cs 48)).alloc (.cells #[.int .u8 0, .int .u8 0, .float .f64 0, .string ⟨#[]⟩, .int .i64 0, .bool false, .bool false, .int .u8 0, .int .u8 0, .float .f64 0, .string ⟨#[]⟩, .int .i64 0, .int .u8 0, .float .f64 0, .string ⟨#[]⟩, .int .i64 0, .int .u8 0, .float .f64 0, .string ⟨#[]⟩, .int .i64 0, .bool false, .bool false, .bool false, .slice none 0 0, .int .u8 0, .string ⟨#[]⟩] 38)) (w.heap.size) 35 a.cs from (((Bk.new w _ _).alloc _).alloc _).alloc _)
  have X1 := hidB (show Bk ((((w.alloc (.cells a.cs 35)).alloc (.cells x.cs 38)).alloc (.cells f.cs 48)).alloc (.cells #[.int .u8 0, .int .u8 0, .float .f64 0, .string ⟨#[]⟩, .int .i64 0, .bool false, .bool false, .int .u8 0, .int .u8 0, .float .f64 0, .string ⟨#[]⟩, .int .i64 0, .int .u8 0, .float .f64 0, .string ⟨#[]⟩, .int .i64 0, .int .u8 0, .float .f64 0, .string ⟨#[]⟩, .int .i64 0, .bool false, .bool false, .bool false, .slice none 0 0, .int .u8 0, .string ⟨#[]⟩] 38)) (w.heap.size + 1) 38 x.cs from ((Bk.new2 w _ _ _).alloc _).alloc _)
  have F1 := hidB (show Bk ((((w.alloc (.cells a.cs 35)).alloc (.cells x.cs 38)).alloc (.cells f.cs 48)).alloc (.cells #[.int .u8 0, .int .u8 0, .float .f64 0, .string ⟨#[]⟩, .int .i64 0, .bool false, .bool false, .int .u8 0, .int .u8 0, .float .f64 0, .string ⟨#[]⟩, .int .i64 0, .int .u8 0, .float .f64 0, .string ⟨#[]⟩, .int .i64 0, .int .u8 0, .float .f64 0, .string ⟨#[]⟩, .int .i64 0, .bool false, .bool false, .bool false, .slice none 0 0, .int .u8 0, .string ⟨#[]⟩] 38)) (w.heap.size + 1 + 1) 48 f.cs from (Bk.new3 w _ _ _ _).alloc _)
  have R1 := hidB (show Bk ((((w.alloc (.cells a.cs 35)).alloc (.cells x.cs 38)).alloc (.cells f.cs 48)).alloc (.cells #[.int .u8 0, .int .u8 0, .float .f64 0, .string ⟨#[]⟩, .int .i64 0, .bool false, .bool false, .int .u8 0, .int .u8 0, .float .f64 0, .string ⟨#[]⟩, .int .i64 0, .int .u8 0, .float .f64 0, .string ⟨#[]⟩, .int .i64 0, .int .u8 0, .float .f64 0, .string ⟨#[]⟩, .int .i64 0, .bool false, .bool false, .bool false, .slice none 0 0, .int .u8 0, .string ⟨#[]⟩] 38)) (w.heap.size + 1 + 1 + 1) 38 OI.zero.cs from Bk.new4 w _ _ _ _ _)
  have B1 := hidB (show Below w.heap.size w ((((w.alloc (.cells a.cs 35)).alloc (.cells x.cs 38)).alloc (.cells f.cs 48)).alloc (.cells #[.int .u8 0, .int .u8 0, .float .f64 0, .string ⟨#[]⟩, .int .i64 0, .bool false, .bool false, .int .u8 0, .int .u8 0, .float .f64 0, .string ⟨#[]⟩, .int .i64 0, .int .u8 0, .float .f64 0, .string ⟨#[]⟩, .int .i64 0, .int .u8 0, .float .f64 0, .string ⟨#[]⟩, .int .i64 0, .bool false, .bool false, .bool false, .slice none 0 0, .int .u8 0, .string ⟨#[]⟩] 38)) from (((box_one w _).alloc (by simp) _).alloc (by simp; omega) _).alloc (by simp; omega) _)
  have HM := hidB hm2
  clear hm2
  go_enter Try.func13, Try.ntmps13
  go_upto_region 1 with fail
  generalize ((((w.alloc (.cells a.cs 35)).alloc (.cells x.cs 38)).alloc (.cells f.cs 48)).alloc (.cells #[.int .u8 0, .int .u8 0, .float .f64 0, .string ⟨#[]⟩, .int .i64 0, .bool false, .bool false, .int .u8 0, .int .u8 0, .float .f64 0, .string ⟨#[]⟩, .int .i64 0, .int .u8 0, .float .f64 0, .string ⟨#[]⟩, .int .i64 0, .int .u8 0, .float .f64 0, .string ⟨#[]⟩, .int .i64 0, .bool false, .bool false, .bool false, .slice none 0 0, .int .u8 0, .string ⟨#[]⟩] 38)) = w1 at *
  go_wp2_with (first | ((with_reducible refine ldId 35 (.tmp 3) ?_); refine wpList_load_row (by rfl) 35 (.tmp 3) (by rfl) (w.heap.size) (by rfl) 35 _ (0, 0) _ (by exact A1.out) Try.underlying35 (by rfl) (by kernel_rfl) ?_) | ((with_reducible refine ldId 38 (.tmp 4) ?_); refine wpList_load_row (by rfl) 38 (.tmp 4) (by rfl) (w.heap.size + 1) (by rfl) 38 _ (0, 0) _ (by exact X1.out) Try.underlying38 (by rfl) (by kernel_rfl) ?_))
  refine (QA.out _ B1.out).mono ?_; rintro e w2 ⟨rfl, hb⟩
  have A2 := hidB (A1.out.on hb)
  have X2 := hidB (X1.out.on hb)
  have F2 := hidB (F1.out.on hb)
  have R2 := hidB (R1.out.on hb)
  have B2 := hidB (B1.out.trans (hb.mono B1.out.size))
  clear hb A1 X1 F1 R1 B1
  have z_m : w2.cell? ⟨w.heap.size, 0, none⟩ = some (.int .u8 a.m) := A2.out.cell 0
  go_wp2_with (first | ((with_reducible refine ldId 48 (.tmp 5) ?_); refine wpList_load_row (by rfl) 48 (.tmp 5) (by rfl) (w.heap.size + 1 + 1) (by rfl) 48 _ (0, 0) _ (by exact F2.out) Try.underlying48 (by rfl) (by kernel_rfl) ?_))
  refine (KA.out _ B2.out).mono ?_; rintro e w3 ⟨rfl, hb⟩
  have A3 := hidB (A2.out.on hb)
  have X3 := hidB (X2.out.on hb)
  have F3 := hidB (F2.out.on hb)
  have R3 := hidB (R2.out.on hb)
  have B3 := hidB (B2.out.trans (hb.mono B2.out.size))
  clear hb A2 X2 F2 R2 B2
  clear z_m
  go_wp2_with (first | ((with_reducible refine ldId 35 (.tmp 3) ?_); refine wpList_load_row (by rfl) 35 (.tmp 3) (by rfl) (w.heap.size) (by rfl) 35 _ (0, 0) _ (by exact A3.out) Try.underlying35 (by rfl) (by kernel_rfl) ?_) | ((with_reducible refine ldId 38 (.tmp 4) ?_); refine wpList_load_row (by rfl) 38 (.tmp 4) (by rfl) (w.heap.size + 1) (by rfl) 38 _ (0, 0) _ (by exact X3.out) Try.underlying38 (by rfl) (by kernel_rfl) ?_) | ((with_reducible refine ldId 48 (.tmp 5) ?_); refine wpList_load_row (by rfl) 48 (.tmp 5) (by rfl) (w.heap.size + 1 + 1) (by rfl) 48 _ (0, 0) _ (by exact F3.out) Try.underlying48 (by rfl) (by kernel_rfl) ?_))
  refine (WA.out _ B3.out).mono ?_; rintro e w4 ⟨rfl, hb⟩
  have A4 := hidB (A3.out.on hb)
  have X4 := hidB (X3.out.on hb)
  have F4 := hidB (F3.out.on hb)
  have R4 := hidB (R3.out.on hb)
  have B4 := hidB (B3.out.trans (hb.mono B3.out.size))
  clear hb A3 X3 F3 R3 B3
  have A5 := hidB (show Bk (w4.alloc (.cells OI.done.cs 38)) (w.heap.size) 35 a.cs from A4.out.alloc _)
  have X5 := hidB (show Bk (w4.alloc (.cells OI.done.cs 38)) (w.heap.size + 1) 38 x.cs from X4.out.alloc _)
  have R5 := hidB (show Bk (w4.alloc (.cells OI.done.cs 38)) (w.heap.size + 1 + 1 + 1) 38 OI.zero.cs from R4.out.alloc _)
  have O5 := hidB (show Bk (w4.alloc (.cells OI.done.cs 38)) w4.heap.size 38 OI.done.cs from Bk.new w4 _ _)
  have B5 := hidB (show Below w.heap.size w (w4.alloc (.cells OI.done.cs 38)) from B4.out.alloc B4.out.size _)
  have hn5 : w.heap.size + 1 + 1 + 1 < w4.heap.size := R4.out.lt
  have hw5 : w4.heap.size < (w4.alloc (.cells OI.done.cs 38)).heap.size := by simp
  go_upto_region 10 with (first | ((with_reducible refine wpId ?_); refine wpList_build_to (by rfl) 38 _ (by rfl) OI.done.cs (by kernel_rfl) ?_) | ((with_reducible refine stId 38 (.tmp 11) (.tmp 33) ?_); refine wpList_store_new (by rfl) 38 (.tmp 11) (.tmp 33) (by rfl) OI.done.cs 38 _ (by rfl) (by rfl) (by exact size_out) (by rfl) (by exact OI.one _ (by rfl)) ?_))
  generalize (w4.alloc (.cells OI.done.cs 38)) = w5 at *
  generalize w4.heap.size = g5 at *
  clear A4 X4 F4 R4 B4
  have hn6 : w.heap.size + 1 + 1 + 1 ≠ g5 := by omega
  have hn7 : w.heap.size ≤ g5 := by omega
  have z_m : w5.cell? ⟨w.heap.size, 0, none⟩ = some (.int .u8 8) := by rw [← HM.out]; exact A5.out.cell 0
  have O6 := hidB (show Bk (w5.setCells g5 1 (x.v.cells)) g5 38 (OI.cs { OI.done with v := x.v }) from Bk.setCells2 O5.out (x.v.cells) 1 (Nat.le_of_ble_eq_true rfl) (by rfl))
  have R6 := hidB (show Bk (w5.setCells g5 1 (x.v.cells)) (w.heap.size + 1 + 1 + 1) 38 OI.zero.cs from Bk.setCells_far hn6 (x.v.cells) 1 R5.out)
  have B6 := hidB (show Below w.heap.size w (w5.setCells g5 1 (x.v.cells)) from below_setCells hn7 (x.v.cells) 1 B5.out)
  go_wp2_with (first | ((with_reducible refine ldId 30 (.tmp 44) ?_); refine wpList_load_mid (by rfl) 30 (.tmp 44) (by rfl) (w.heap.size + 1) 1 (by rfl) (x.v.cells) _ (by exact Bk.mid X5.out 1 _ rfl) Try.underlying30 (by rfl) (by kernel_rfl) ?_) | ((with_reducible refine stId 30 (.tmp 46) (.tmp 45) ?_); refine wpList_store_mid (by rfl) 30 (.tmp 46) (.tmp 45) (by rfl) g5 1 (x.v.cells).toArray (by rfl) (by rfl) (by exact Bk.there O5.out 1 4 (by decide)) (by kernel_rfl) (by kernel_rfl) ?_; generalize (w5.setCells g5 1 _) = w6 at *) | ((with_reducible refine ldId 38 (.tmp 11) ?_); refine wpList_load_row (by rfl) 38 (.tmp 11) (by rfl) g5 (by rfl) 38 _ (0, 0) _ (by exact O6.out) Try.underlying38 (by rfl) (by exact size_out) ?_) | ((with_reducible refine stId 38 (.tmp 6) (.tmp 67) ?_); refine wpList_store_row (by rfl) 38 (.tmp 6) (.tmp 67) (by rfl) (w.heap.size + 1 + 1 + 1) ({ OI.done with v := x.v } : OI).cs (by rfl) (by rfl) 38 OI.zero.cs (by exact R6.out) (by exact size_out) (by rfl) (by exact OI.one _ (by rfl)) ?_))
  exact bodyPost_ret (v := .tuple #[OI.a { OI.done with v := x.v }, .bool true, .int .i64 0]) (results_row3 Try.results13 _ _ (w.heap.size + 1 + 1 + 1) 38 (OI.cs { OI.done with v := x.v }) (0, 0) _ rfl (R6.out.setRow _) Try.underlying38 rfl size_out) rfl ⟨rfl, below_setRow B6.out (by omega) _⟩

set_option maxHeartbeats 8000000 in
set_option maxRecDepth 100000 in
theorem check_val12 (a : AI) (x : OI) (f : FI) (lk ks : List KI) (ds : List DI) (hm2 : a.m = 12) (hm : 1 ≤ a.m ∧ a.m ≤ 13) (hl : a.m = 11 → ds.length = ks.length) (he : askedE a x lk = 0) (hk : knownE a.m f ks ds = 0) (hw : wellB a x f lk ks ds = true)  (w : World) (h : AskOk a x lk w) (hf : FactsOk f ks ds w) : Calls Try.prog 13 #[a.a, x.a, f.a] w fun e w' => e = .returned (.tuple #[OI.a { OI.done with v := x.v }, .bool true, .int .i64 0]) ∧ Below w.heap.size w w' := by
  have QA := hidB (fun W (hb : Below w.heap.size w W) => pasked_any a x lk W (h.on hb))
  have KA := hidB (fun W (hb : Below w.heap.size w W) => known_any a.m f ks ds hm W (hf.on hb))
  have WA := hidB (fun W (hb : Below w.heap.size w W) => well_any a x f lk ks ds hm hl W (h.on hb) (hf.on hb))
  clear h hf hm hl
  rw [he] at QA
  rw [hk] at KA
  rw [hw] at WA
  clear he hk hw
  have A1 := hidB (show Bk ((((w.alloc (.cells a.cs 35)).alloc (.cells x.cs 38)).alloc (.cells f.cs 48)).alloc (.cells #[.int .u8 0, .int .u8 0, .float .f64 0, .string ⟨#[]⟩, .int .i64 0, .bool false, .bool false, .int .u8 0, .int .u8 0, .float .f64 0, .string ⟨#[]⟩, .int .i64 0, .int .u8 0, .float .f64 0, .string ⟨#[]⟩, .int .i64 0, .int .u8 0, .float .f64 0, .string ⟨#[]⟩, .int .i64 0, .bool false, .bool false, .bool false, .slice none 0 0, .int .u8 0, .string ⟨#[]⟩] 38)) (w.heap.size) 35 a.cs from (((Bk.new w _ _).alloc _).alloc _).alloc _)
  have X1 := hidB (show Bk ((((w.alloc (.cells a.cs 35)).alloc (.cells x.cs 38)).alloc (.cells f.cs 48)).alloc (.cells #[.int .u8 0, .int .u8 0, .float .f64 0, .string ⟨#[]⟩, .int .i64 0, .bool false, .bool false, .int .u8 0, .int .u8 0, .float .f64 0, .string ⟨#[]⟩, .int .i64 0, .int .u8 0, .float .f64 0, .string ⟨#[]⟩, .int .i64 0, .int .u8 0, .float .f64 0, .string ⟨#[]⟩, .int .i64 0, .bool false, .bool false, .bool false, .slice none 0 0, .int .u8 0, .string ⟨#[]⟩] 38)) (w.heap.size + 1) 38 x.cs from ((Bk.new2 w _ _ _).alloc _).alloc _)
  have F1 := hidB (show Bk ((((w.alloc (.cells a.cs 35)).alloc (.cells x.cs 38)).alloc (.cells f.cs 48)).alloc (.cells #[.int .u8 0, .int .u8 0, .float .f64 0, .string ⟨#[]⟩, .int .i64 0, .bool false, .bool false, .int .u8 0, .int .u8 0, .float .f64 0, .string ⟨#[]⟩, .int .i64 0, .int .u8 0, .float .f64 0, .string ⟨#[]⟩, .int .i64 0, .int .u8 0, .float .f64 0, .string ⟨#[]⟩, .int .i64 0, .bool false, .bool false, .bool false, .slice none 0 0, .int .u8 0, .string ⟨#[]⟩] 38)) (w.heap.size + 1 + 1) 48 f.cs from (Bk.new3 w _ _ _ _).alloc _)
  have R1 := hidB (show Bk ((((w.alloc (.cells a.cs 35)).alloc (.cells x.cs 38)).alloc (.cells f.cs 48)).alloc (.cells #[.int .u8 0, .int .u8 0, .float .f64 0, .string ⟨#[]⟩, .int .i64 0, .bool false, .bool false, .int .u8 0, .int .u8 0, .float .f64 0, .string ⟨#[]⟩, .int .i64 0, .int .u8 0, .float .f64 0, .string ⟨#[]⟩, .int .i64 0, .int .u8 0, .float .f64 0, .string ⟨#[]⟩, .int .i64 0, .bool false, .bool false, .bool false, .slice none 0 0, .int .u8 0, .string ⟨#[]⟩] 38)) (w.heap.size + 1 + 1 + 1) 38 OI.zero.cs from Bk.new4 w _ _ _ _ _)
  have B1 := hidB (show Below w.heap.size w ((((w.alloc (.cells a.cs 35)).alloc (.cells x.cs 38)).alloc (.cells f.cs 48)).alloc (.cells #[.int .u8 0, .int .u8 0, .float .f64 0, .string ⟨#[]⟩, .int .i64 0, .bool false, .bool false, .int .u8 0, .int .u8 0, .float .f64 0, .string ⟨#[]⟩, .int .i64 0, .int .u8 0, .float .f64 0, .string ⟨#[]⟩, .int .i64 0, .int .u8 0, .float .f64 0, .string ⟨#[]⟩, .int .i64 0, .bool false, .bool false, .bool false, .slice none 0 0, .int .u8 0, .string ⟨#[]⟩] 38)) from (((box_one w _).alloc (by simp) _).alloc (by simp; omega) _).alloc (by simp; omega) _)
  have HM := hidB hm2
  clear hm2
  go_enter Try.func13, Try.ntmps13
  go_upto_region 1 with fail
  generalize ((((w.alloc (.cells a.cs 35)).alloc (.cells x.cs 38)).alloc (.cells f.cs 48)).alloc (.cells #[.int .u8 0, .int .u8 0, .float .f64 0, .string ⟨#[]⟩, .int .i64 0, .bool false, .bool false, .int .u8 0, .int .u8 0, .float .f64 0, .string ⟨#[]⟩, .int .i64 0, .int .u8 0, .float .f64 0, .string ⟨#[]⟩, .int .i64 0, .int .u8 0, .float .f64 0, .string ⟨#[]⟩, .int .i64 0, .bool false, .bool false, .bool false, .slice none 0 0, .int .u8 0, .string ⟨#[]⟩] 38)) = w1 at *
  go_wp2_with (first | ((with_reducible refine ldId 35 (.tmp 3) ?_); refine wpList_load_row (by rfl) 35 (.tmp 3) (by rfl) (w.heap.size) (by rfl) 35 _ (0, 0) _ (by exact A1.out) Try.underlying35 (by rfl) (by kernel_rfl) ?_) | ((with_reducible refine ldId 38 (.tmp 4) ?_); refine wpList_load_row (by rfl) 38 (.tmp 4) (by rfl) (w.heap.size + 1) (by rfl) 38 _ (0, 0) _ (by exact X1.out) Try.underlying38 (by rfl) (by kernel_rfl) ?_))
  refine (QA.out _ B1.out).mono ?_; rintro e w2 ⟨rfl, hb⟩
  have A2 := hidB (A1.out.on hb)
  have X2 := hidB (X1.out.on hb)
  have F2 := hidB (F1.out.on hb)
  have R2 := hidB (R1.out.on hb)
  have B2 := hidB (B1.out.trans (hb.mono B1.out.size))
  clear hb A1 X1 F1 R1 B1
  have z_m : w2.cell? ⟨w.heap.size, 0, none⟩ = some (.int .u8 a.m) := A2.out.cell 0
  go_wp2_with (first | ((with_reducible refine ldId 48 (.tmp 5) ?_); refine wpList_load_row (by rfl) 48 (.tmp 5) (by rfl) (w.heap.size + 1 + 1) (by rfl) 48 _ (0, 0) _ (by exact F2.out) Try.underlying48 (by rfl) (by kernel_rfl) ?_))
  refine (KA.out _ B2.out).mono ?_; rintro e w3 ⟨rfl, hb⟩
  have A3 := hidB (A2.out.on hb)
  have X3 := hidB (X2.out.on hb)
  have F3 := hidB (F2.out.on hb)
  have R3 := hidB (R2.out.on hb)
  have B3 := hidB (B2.out.trans (hb.mono B2.out.size))
  clear hb A2 X2 F2 R2 B2
  clear z_m
  go_wp2_with (first | ((with_reducible refine ldId 35 (.tmp 3) ?_); refine wpList_load_row (by rfl) 35 (.tmp 3) (by rfl) (w.heap.size) (by rfl) 35 _ (0, 0) _ (by exact A3.out) Try.underlying35 (by rfl) (by kernel_rfl) ?_) | ((with_reducible refine ldId 38 (.tmp 4) ?_); refine wpList_load_row (by rfl) 38 (.tmp 4) (by rfl) (w.heap.size + 1) (by rfl) 38 _ (0, 0) _ (by exact X3.out) Try.underlying38 (by rfl) (by kernel_rfl) ?_) | ((with_reducible refine ldId 48 (.tmp 5) ?_); refine wpList_load_row (by rfl) 48 (.tmp 5) (by rfl) (w.heap.size + 1 + 1) (by rfl) 48 _ (0, 0) _ (by exact F3.out) Try.underlying48 (by rfl) (by kernel_rfl) ?_))
  refine (WA.out _ B3.out).mono ?_; rintro e w4 ⟨rfl, hb⟩
  have A4 := hidB (A3.out.on hb)
  have X4 := hidB (X3.out.on hb)
  have F4 := hidB (F3.out.on hb)
  have R4 := hidB (R3.out.on hb)
  have B4 := hidB (B3.out.trans (hb.mono B3.out.size))
  clear hb A3 X3 F3 R3 B3
  have A5 := hidB (show Bk (w4.alloc (.cells OI.done.cs 38)) (w.heap.size) 35 a.cs from A4.out.alloc _)
  have X5 := hidB (show Bk (w4.alloc (.cells OI.done.cs 38)) (w.heap.size + 1) 38 x.cs from X4.out.alloc _)
  have R5 := hidB (show Bk (w4.alloc (.cells OI.done.cs 38)) (w.heap.size + 1 + 1 + 1) 38 OI.zero.cs from R4.out.alloc _)
  have O5 := hidB (show Bk (w4.alloc (.cells OI.done.cs 38)) w4.heap.size 38 OI.done.cs from Bk.new w4 _ _)
  have B5 := hidB (show Below w.heap.size w (w4.alloc (.cells OI.done.cs 38)) from B4.out.alloc B4.out.size _)
  have hn5 : w.heap.size + 1 + 1 + 1 < w4.heap.size := R4.out.lt
  have hw5 : w4.heap.size < (w4.alloc (.cells OI.done.cs 38)).heap.size := by simp
  go_upto_region 10 with (first | ((with_reducible refine wpId ?_); refine wpList_build_to (by rfl) 38 _ (by rfl) OI.done.cs (by kernel_rfl) ?_) | ((with_reducible refine stId 38 (.tmp 11) (.tmp 33) ?_); refine wpList_store_new (by rfl) 38 (.tmp 11) (.tmp 33) (by rfl) OI.done.cs 38 _ (by rfl) (by rfl) (by exact size_out) (by rfl) (by exact OI.one _ (by rfl)) ?_))
  generalize (w4.alloc (.cells OI.done.cs 38)) = w5 at *
  generalize w4.heap.size = g5 at *
  clear A4 X4 F4 R4 B4
  have hn6 : w.heap.size + 1 + 1 + 1 ≠ g5 := by omega
  have hn7 : w.heap.size ≤ g5 := by omega
  have z_m : w5.cell? ⟨w.heap.size, 0, none⟩ = some (.int .u8 12) := by rw [← HM.out]; exact A5.out.cell 0
  have O6 := hidB (show Bk (w5.setCells g5 1 (x.v.cells)) g5 38 (OI.cs { OI.done with v := x.v }) from Bk.setCells2 O5.out (x.v.cells) 1 (Nat.le_of_ble_eq_true rfl) (by rfl))
  have R6 := hidB (show Bk (w5.setCells g5 1 (x.v.cells)) (w.heap.size + 1 + 1 + 1) 38 OI.zero.cs from Bk.setCells_far hn6 (x.v.cells) 1 R5.out)
  have B6 := hidB (show Below w.heap.size w (w5.setCells g5 1 (x.v.cells)) from below_setCells hn7 (x.v.cells) 1 B5.out)
  go_wp2_with (first | ((with_reducible refine ldId 30 (.tmp 44) ?_); refine wpList_load_mid (by rfl) 30 (.tmp 44) (by rfl) (w.heap.size + 1) 1 (by rfl) (x.v.cells) _ (by exact Bk.mid X5.out 1 _ rfl) Try.underlying30 (by rfl) (by kernel_rfl) ?_) | ((with_reducible refine stId 30 (.tmp 46) (.tmp 45) ?_); refine wpList_store_mid (by rfl) 30 (.tmp 46) (.tmp 45) (by rfl) g5 1 (x.v.cells).toArray (by rfl) (by rfl) (by exact Bk.there O5.out 1 4 (by decide)) (by kernel_rfl) (by kernel_rfl) ?_; generalize (w5.setCells g5 1 _) = w6 at *) | ((with_reducible refine ldId 38 (.tmp 11) ?_); refine wpList_load_row (by rfl) 38 (.tmp 11) (by rfl) g5 (by rfl) 38 _ (0, 0) _ (by exact O6.out) Try.underlying38 (by rfl) (by exact size_out) ?_) | ((with_reducible refine stId 38 (.tmp 6) (.tmp 67) ?_); refine wpList_store_row (by rfl) 38 (.tmp 6) (.tmp 67) (by rfl) (w.heap.size + 1 + 1 + 1) ({ OI.done with v := x.v } : OI).cs (by rfl) (by rfl) 38 OI.zero.cs (by exact R6.out) (by exact size_out) (by rfl) (by exact OI.one _ (by rfl)) ?_))
  exact bodyPost_ret (v := .tuple #[OI.a { OI.done with v := x.v }, .bool true, .int .i64 0]) (results_row3 Try.results13 _ _ (w.heap.size + 1 + 1 + 1) 38 (OI.cs { OI.done with v := x.v }) (0, 0) _ rfl (R6.out.setRow _) Try.underlying38 rfl size_out) rfl ⟨rfl, below_setRow B6.out (by omega) _⟩

set_option maxHeartbeats 8000000 in
set_option maxRecDepth 100000 in
theorem check_val13 (a : AI) (x : OI) (f : FI) (lk ks : List KI) (ds : List DI) (hm2 : a.m = 13) (hm : 1 ≤ a.m ∧ a.m ≤ 13) (hl : a.m = 11 → ds.length = ks.length) (he : askedE a x lk = 0) (hk : knownE a.m f ks ds = 0) (hw : wellB a x f lk ks ds = true)  (w : World) (h : AskOk a x lk w) (hf : FactsOk f ks ds w) : Calls Try.prog 13 #[a.a, x.a, f.a] w fun e w' => e = .returned (.tuple #[OI.a { OI.done with v := x.v }, .bool true, .int .i64 0]) ∧ Below w.heap.size w w' := by
  have QA := hidB (fun W (hb : Below w.heap.size w W) => pasked_any a x lk W (h.on hb))
  have KA := hidB (fun W (hb : Below w.heap.size w W) => known_any a.m f ks ds hm W (hf.on hb))
  have WA := hidB (fun W (hb : Below w.heap.size w W) => well_any a x f lk ks ds hm hl W (h.on hb) (hf.on hb))
  clear h hf hm hl
  rw [he] at QA
  rw [hk] at KA
  rw [hw] at WA
  clear he hk hw
  have A1 := hidB (show Bk ((((w.alloc (.cells a.cs 35)).alloc (.cells x.cs 38)).alloc (.cells f.cs 48)).alloc (.cells #[.int .u8 0, .int .u8 0, .float .f64 0, .string ⟨#[]⟩, .int .i64 0, .bool false, .bool false, .int .u8 0, .int .u8 0, .float .f64 0, .string ⟨#[]⟩, .int .i64 0, .int .u8 0, .float .f64 0, .string ⟨#[]⟩, .int .i64 0, .int .u8 0, .float .f64 0, .string ⟨#[]⟩, .int .i64 0, .bool false, .bool false, .bool false, .slice none 0 0, .int .u8 0, .string ⟨#[]⟩] 38)) (w.heap.size) 35 a.cs from (((Bk.new w _ _).alloc _).alloc _).alloc _)
  have X1 := hidB (show Bk ((((w.alloc (.cells a.cs 35)).alloc (.cells x.cs 38)).alloc (.cells f.cs 48)).alloc (.cells #[.int .u8 0, .int .u8 0, .float .f64 0, .string ⟨#[]⟩, .int .i64 0, .bool false, .bool false, .int .u8 0, .int .u8 0, .float .f64 0, .string ⟨#[]⟩, .int .i64 0, .int .u8 0, .float .f64 0, .string ⟨#[]⟩, .int .i64 0, .int .u8 0, .float .f64 0, .string ⟨#[]⟩, .int .i64 0, .bool false, .bool false, .bool false, .slice none 0 0, .int .u8 0, .string ⟨#[]⟩] 38)) (w.heap.size + 1) 38 x.cs from ((Bk.new2 w _ _ _).alloc _).alloc _)
  have F1 := hidB (show Bk ((((w.alloc (.cells a.cs 35)).alloc (.cells x.cs 38)).alloc (.cells f.cs 48)).alloc (.cells #[.int .u8 0, .int .u8 0, .float .f64 0, .string ⟨#[]⟩, .int .i64 0, .bool false, .bool false, .int .u8 0, .int .u8 0, .float .f64 0, .string ⟨#[]⟩, .int .i64 0, .int .u8 0, .float .f64 0, .string ⟨#[]⟩, .int .i64 0, .int .u8 0, .float .f64 0, .string ⟨#[]⟩, .int .i64 0, .bool false, .bool false, .bool false, .slice none 0 0, .int .u8 0, .string ⟨#[]⟩] 38)) (w.heap.size + 1 + 1) 48 f.cs from (Bk.new3 w _ _ _ _).alloc _)
  have R1 := hidB (show Bk ((((w.alloc (.cells a.cs 35)).alloc (.cells x.cs 38)).alloc (.cells f.cs 48)).alloc (.cells #[.int .u8 0, .int .u8 0, .float .f64 0, .string ⟨#[]⟩, .int .i64 0, .bool false, .bool false, .int .u8 0, .int .u8 0, .float .f64 0, .string ⟨#[]⟩, .int .i64 0, .int .u8 0, .float .f64 0, .string ⟨#[]⟩, .int .i64 0, .int .u8 0, .float .f64 0, .string ⟨#[]⟩, .int .i64 0, .bool false, .bool false, .bool false, .slice none 0 0, .int .u8 0, .string ⟨#[]⟩] 38)) (w.heap.size + 1 + 1 + 1) 38 OI.zero.cs from Bk.new4 w _ _ _ _ _)
  have B1 := hidB (show Below w.heap.size w ((((w.alloc (.cells a.cs 35)).alloc (.cells x.cs 38)).alloc (.cells f.cs 48)).alloc (.cells #[.int .u8 0, .int .u8 0, .float .f64 0, .string ⟨#[]⟩, .int .i64 0, .bool false, .bool false, .int .u8 0, .int .u8 0, .float .f64 0, .string ⟨#[]⟩, .int .i64 0, .int .u8 0, .float .f64 0, .string ⟨#[]⟩, .int .i64 0, .int .u8 0, .float .f64 0, .string ⟨#[]⟩, .int .i64 0, .bool false, .bool false, .bool false, .slice none 0 0, .int .u8 0, .string ⟨#[]⟩] 38)) from (((box_one w _).alloc (by simp) _).alloc (by simp; omega) _).alloc (by simp; omega) _)
  have HM := hidB hm2
  clear hm2
  go_enter Try.func13, Try.ntmps13
  go_upto_region 1 with fail
  generalize ((((w.alloc (.cells a.cs 35)).alloc (.cells x.cs 38)).alloc (.cells f.cs 48)).alloc (.cells #[.int .u8 0, .int .u8 0, .float .f64 0, .string ⟨#[]⟩, .int .i64 0, .bool false, .bool false, .int .u8 0, .int .u8 0, .float .f64 0, .string ⟨#[]⟩, .int .i64 0, .int .u8 0, .float .f64 0, .string ⟨#[]⟩, .int .i64 0, .int .u8 0, .float .f64 0, .string ⟨#[]⟩, .int .i64 0, .bool false, .bool false, .bool false, .slice none 0 0, .int .u8 0, .string ⟨#[]⟩] 38)) = w1 at *
  go_wp2_with (first | ((with_reducible refine ldId 35 (.tmp 3) ?_); refine wpList_load_row (by rfl) 35 (.tmp 3) (by rfl) (w.heap.size) (by rfl) 35 _ (0, 0) _ (by exact A1.out) Try.underlying35 (by rfl) (by kernel_rfl) ?_) | ((with_reducible refine ldId 38 (.tmp 4) ?_); refine wpList_load_row (by rfl) 38 (.tmp 4) (by rfl) (w.heap.size + 1) (by rfl) 38 _ (0, 0) _ (by exact X1.out) Try.underlying38 (by rfl) (by kernel_rfl) ?_))
  refine (QA.out _ B1.out).mono ?_; rintro e w2 ⟨rfl, hb⟩
  have A2 := hidB (A1.out.on hb)
  have X2 := hidB (X1.out.on hb)
  have F2 := hidB (F1.out.on hb)
  have R2 := hidB (R1.out.on hb)
  have B2 := hidB (B1.out.trans (hb.mono B1.out.size))
  clear hb A1 X1 F1 R1 B1
  have z_m : w2.cell? ⟨w.heap.size, 0, none⟩ = some (.int .u8 a.m) := A2.out.cell 0
  go_wp2_with (first | ((with_reducible refine ldId 48 (.tmp 5) ?_); refine wpList_load_row (by rfl) 48 (.tmp 5) (by rfl) (w.heap.size + 1 + 1) (by rfl) 48 _ (0, 0) _ (by exact F2.out) Try.underlying48 (by rfl) (by kernel_rfl) ?_))
  refine (KA.out _ B2.out).mono ?_; rintro e w3 ⟨rfl, hb⟩
  have A3 := hidB (A2.out.on hb)
  have X3 := hidB (X2.out.on hb)
  have F3 := hidB (F2.out.on hb)
  have R3 := hidB (R2.out.on hb)
  have B3 := hidB (B2.out.trans (hb.mono B2.out.size))
  clear hb A2 X2 F2 R2 B2
  clear z_m
  go_wp2_with (first | ((with_reducible refine ldId 35 (.tmp 3) ?_); refine wpList_load_row (by rfl) 35 (.tmp 3) (by rfl) (w.heap.size) (by rfl) 35 _ (0, 0) _ (by exact A3.out) Try.underlying35 (by rfl) (by kernel_rfl) ?_) | ((with_reducible refine ldId 38 (.tmp 4) ?_); refine wpList_load_row (by rfl) 38 (.tmp 4) (by rfl) (w.heap.size + 1) (by rfl) 38 _ (0, 0) _ (by exact X3.out) Try.underlying38 (by rfl) (by kernel_rfl) ?_) | ((with_reducible refine ldId 48 (.tmp 5) ?_); refine wpList_load_row (by rfl) 48 (.tmp 5) (by rfl) (w.heap.size + 1 + 1) (by rfl) 48 _ (0, 0) _ (by exact F3.out) Try.underlying48 (by rfl) (by kernel_rfl) ?_))
  refine (WA.out _ B3.out).mono ?_; rintro e w4 ⟨rfl, hb⟩
  have A4 := hidB (A3.out.on hb)
  have X4 := hidB (X3.out.on hb)
  have F4 := hidB (F3.out.on hb)
  have R4 := hidB (R3.out.on hb)
  have B4 := hidB (B3.out.trans (hb.mono B3.out.size))
  clear hb A3 X3 F3 R3 B3
  have A5 := hidB (show Bk (w4.alloc (.cells OI.done.cs 38)) (w.heap.size) 35 a.cs from A4.out.alloc _)
  have X5 := hidB (show Bk (w4.alloc (.cells OI.done.cs 38)) (w.heap.size + 1) 38 x.cs from X4.out.alloc _)
  have R5 := hidB (show Bk (w4.alloc (.cells OI.done.cs 38)) (w.heap.size + 1 + 1 + 1) 38 OI.zero.cs from R4.out.alloc _)
  have O5 := hidB (show Bk (w4.alloc (.cells OI.done.cs 38)) w4.heap.size 38 OI.done.cs from Bk.new w4 _ _)
  have B5 := hidB (show Below w.heap.size w (w4.alloc (.cells OI.done.cs 38)) from B4.out.alloc B4.out.size _)
  have hn5 : w.heap.size + 1 + 1 + 1 < w4.heap.size := R4.out.lt
  have hw5 : w4.heap.size < (w4.alloc (.cells OI.done.cs 38)).heap.size := by simp
  go_upto_region 10 with (first | ((with_reducible refine wpId ?_); refine wpList_build_to (by rfl) 38 _ (by rfl) OI.done.cs (by kernel_rfl) ?_) | ((with_reducible refine stId 38 (.tmp 11) (.tmp 33) ?_); refine wpList_store_new (by rfl) 38 (.tmp 11) (.tmp 33) (by rfl) OI.done.cs 38 _ (by rfl) (by rfl) (by exact size_out) (by rfl) (by exact OI.one _ (by rfl)) ?_))
  generalize (w4.alloc (.cells OI.done.cs 38)) = w5 at *
  generalize w4.heap.size = g5 at *
  clear A4 X4 F4 R4 B4
  have hn6 : w.heap.size + 1 + 1 + 1 ≠ g5 := by omega
  have hn7 : w.heap.size ≤ g5 := by omega
  have z_m : w5.cell? ⟨w.heap.size, 0, none⟩ = some (.int .u8 13) := by rw [← HM.out]; exact A5.out.cell 0
  have O6 := hidB (show Bk (w5.setCells g5 1 (x.v.cells)) g5 38 (OI.cs { OI.done with v := x.v }) from Bk.setCells2 O5.out (x.v.cells) 1 (Nat.le_of_ble_eq_true rfl) (by rfl))
  have R6 := hidB (show Bk (w5.setCells g5 1 (x.v.cells)) (w.heap.size + 1 + 1 + 1) 38 OI.zero.cs from Bk.setCells_far hn6 (x.v.cells) 1 R5.out)
  have B6 := hidB (show Below w.heap.size w (w5.setCells g5 1 (x.v.cells)) from below_setCells hn7 (x.v.cells) 1 B5.out)
  go_wp2_with (first | ((with_reducible refine ldId 30 (.tmp 44) ?_); refine wpList_load_mid (by rfl) 30 (.tmp 44) (by rfl) (w.heap.size + 1) 1 (by rfl) (x.v.cells) _ (by exact Bk.mid X5.out 1 _ rfl) Try.underlying30 (by rfl) (by kernel_rfl) ?_) | ((with_reducible refine stId 30 (.tmp 46) (.tmp 45) ?_); refine wpList_store_mid (by rfl) 30 (.tmp 46) (.tmp 45) (by rfl) g5 1 (x.v.cells).toArray (by rfl) (by rfl) (by exact Bk.there O5.out 1 4 (by decide)) (by kernel_rfl) (by kernel_rfl) ?_; generalize (w5.setCells g5 1 _) = w6 at *) | ((with_reducible refine ldId 38 (.tmp 11) ?_); refine wpList_load_row (by rfl) 38 (.tmp 11) (by rfl) g5 (by rfl) 38 _ (0, 0) _ (by exact O6.out) Try.underlying38 (by rfl) (by exact size_out) ?_) | ((with_reducible refine stId 38 (.tmp 6) (.tmp 67) ?_); refine wpList_store_row (by rfl) 38 (.tmp 6) (.tmp 67) (by rfl) (w.heap.size + 1 + 1 + 1) ({ OI.done with v := x.v } : OI).cs (by rfl) (by rfl) 38 OI.zero.cs (by exact R6.out) (by exact size_out) (by rfl) (by exact OI.one _ (by rfl)) ?_))
  exact bodyPost_ret (v := .tuple #[OI.a { OI.done with v := x.v }, .bool true, .int .i64 0]) (results_row3 Try.results13 _ _ (w.heap.size + 1 + 1 + 1) 38 (OI.cs { OI.done with v := x.v }) (0, 0) _ rfl (R6.out.setRow _) Try.underlying38 rfl size_out) rfl ⟨rfl, below_setRow B6.out (by omega) _⟩

set_option maxHeartbeats 8000000 in
set_option maxRecDepth 100000 in
theorem check_bool2 (a : AI) (x : OI) (f : FI) (lk ks : List KI) (ds : List DI) (hm2 : a.m = 2) (hm : 1 ≤ a.m ∧ a.m ≤ 13) (hl : a.m = 11 → ds.length = ks.length) (he : askedE a x lk = 0) (hk : knownE a.m f ks ds = 0) (hw : wellB a x f lk ks ds = true)  (w : World) (h : AskOk a x lk w) (hf : FactsOk f ks ds w) : Calls Try.prog 13 #[a.a, x.a, f.a] w fun e w' => e = .returned (.tuple #[OI.a { OI.done with b := x.b }, .bool true, .int .i64 0]) ∧ Below w.heap.size w w' := by
  have QA := hidB (fun W (hb : Below w.heap.size w W) => pasked_any a x lk W (h.on hb))
  have KA := hidB (fun W (hb : Below w.heap.size w W) => known_any a.m f ks ds hm W (hf.on hb))
  have WA := hidB (fun W (hb : Below w.heap.size w W) => well_any a x f lk ks ds hm hl W (h.on hb) (hf.on hb))
  clear h hf hm hl
  rw [he] at QA
  rw [hk] at KA
  rw [hw] at WA
  clear he hk hw
  have A1 := hidB (show Bk ((((w.alloc (.cells a.cs 35)).alloc (.cells x.cs 38)).alloc (.cells f.cs 48)).alloc (.cells #[.int .u8 0, .int .u8 0, .float .f64 0, .string ⟨#[]⟩, .int .i64 0, .bool false, .bool false, .int .u8 0, .int .u8 0, .float .f64 0, .string ⟨#[]⟩, .int .i64 0, .int .u8 0, .float .f64 0, .string ⟨#[]⟩, .int .i64 0, .int .u8 0, .float .f64 0, .string ⟨#[]⟩, .int .i64 0, .bool false, .bool false, .bool false, .slice none 0 0, .int .u8 0, .string ⟨#[]⟩] 38)) (w.heap.size) 35 a.cs from (((Bk.new w _ _).alloc _).alloc _).alloc _)
  have X1 := hidB (show Bk ((((w.alloc (.cells a.cs 35)).alloc (.cells x.cs 38)).alloc (.cells f.cs 48)).alloc (.cells #[.int .u8 0, .int .u8 0, .float .f64 0, .string ⟨#[]⟩, .int .i64 0, .bool false, .bool false, .int .u8 0, .int .u8 0, .float .f64 0, .string ⟨#[]⟩, .int .i64 0, .int .u8 0, .float .f64 0, .string ⟨#[]⟩, .int .i64 0, .int .u8 0, .float .f64 0, .string ⟨#[]⟩, .int .i64 0, .bool false, .bool false, .bool false, .slice none 0 0, .int .u8 0, .string ⟨#[]⟩] 38)) (w.heap.size + 1) 38 x.cs from ((Bk.new2 w _ _ _).alloc _).alloc _)
  have F1 := hidB (show Bk ((((w.alloc (.cells a.cs 35)).alloc (.cells x.cs 38)).alloc (.cells f.cs 48)).alloc (.cells #[.int .u8 0, .int .u8 0, .float .f64 0, .string ⟨#[]⟩, .int .i64 0, .bool false, .bool false, .int .u8 0, .int .u8 0, .float .f64 0, .string ⟨#[]⟩, .int .i64 0, .int .u8 0, .float .f64 0, .string ⟨#[]⟩, .int .i64 0, .int .u8 0, .float .f64 0, .string ⟨#[]⟩, .int .i64 0, .bool false, .bool false, .bool false, .slice none 0 0, .int .u8 0, .string ⟨#[]⟩] 38)) (w.heap.size + 1 + 1) 48 f.cs from (Bk.new3 w _ _ _ _).alloc _)
  have R1 := hidB (show Bk ((((w.alloc (.cells a.cs 35)).alloc (.cells x.cs 38)).alloc (.cells f.cs 48)).alloc (.cells #[.int .u8 0, .int .u8 0, .float .f64 0, .string ⟨#[]⟩, .int .i64 0, .bool false, .bool false, .int .u8 0, .int .u8 0, .float .f64 0, .string ⟨#[]⟩, .int .i64 0, .int .u8 0, .float .f64 0, .string ⟨#[]⟩, .int .i64 0, .int .u8 0, .float .f64 0, .string ⟨#[]⟩, .int .i64 0, .bool false, .bool false, .bool false, .slice none 0 0, .int .u8 0, .string ⟨#[]⟩] 38)) (w.heap.size + 1 + 1 + 1) 38 OI.zero.cs from Bk.new4 w _ _ _ _ _)
  have B1 := hidB (show Below w.heap.size w ((((w.alloc (.cells a.cs 35)).alloc (.cells x.cs 38)).alloc (.cells f.cs 48)).alloc (.cells #[.int .u8 0, .int .u8 0, .float .f64 0, .string ⟨#[]⟩, .int .i64 0, .bool false, .bool false, .int .u8 0, .int .u8 0, .float .f64 0, .string ⟨#[]⟩, .int .i64 0, .int .u8 0, .float .f64 0, .string ⟨#[]⟩, .int .i64 0, .int .u8 0, .float .f64 0, .string ⟨#[]⟩, .int .i64 0, .bool false, .bool false, .bool false, .slice none 0 0, .int .u8 0, .string ⟨#[]⟩] 38)) from (((box_one w _).alloc (by simp) _).alloc (by simp; omega) _).alloc (by simp; omega) _)
  have HM := hidB hm2
  clear hm2
  go_enter Try.func13, Try.ntmps13
  go_upto_region 1 with fail
  generalize ((((w.alloc (.cells a.cs 35)).alloc (.cells x.cs 38)).alloc (.cells f.cs 48)).alloc (.cells #[.int .u8 0, .int .u8 0, .float .f64 0, .string ⟨#[]⟩, .int .i64 0, .bool false, .bool false, .int .u8 0, .int .u8 0, .float .f64 0, .string ⟨#[]⟩, .int .i64 0, .int .u8 0, .float .f64 0, .string ⟨#[]⟩, .int .i64 0, .int .u8 0, .float .f64 0, .string ⟨#[]⟩, .int .i64 0, .bool false, .bool false, .bool false, .slice none 0 0, .int .u8 0, .string ⟨#[]⟩] 38)) = w1 at *
  go_wp2_with (first | ((with_reducible refine ldId 35 (.tmp 3) ?_); refine wpList_load_row (by rfl) 35 (.tmp 3) (by rfl) (w.heap.size) (by rfl) 35 _ (0, 0) _ (by exact A1.out) Try.underlying35 (by rfl) (by kernel_rfl) ?_) | ((with_reducible refine ldId 38 (.tmp 4) ?_); refine wpList_load_row (by rfl) 38 (.tmp 4) (by rfl) (w.heap.size + 1) (by rfl) 38 _ (0, 0) _ (by exact X1.out) Try.underlying38 (by rfl) (by kernel_rfl) ?_))
  refine (QA.out _ B1.out).mono ?_; rintro e w2 ⟨rfl, hb⟩
  have A2 := hidB (A1.out.on hb)
  have X2 := hidB (X1.out.on hb)
  have F2 := hidB (F1.out.on hb)
  have R2 := hidB (R1.out.on hb)
  have B2 := hidB (B1.out.trans (hb.mono B1.out.size))
  clear hb A1 X1 F1 R1 B1
  have z_m : w2.cell? ⟨w.heap.size, 0, none⟩ = some (.int .u8 a.m) := A2.out.cell 0
  go_wp2_with (first | ((with_reducible refine ldId 48 (.tmp 5) ?_); refine wpList_load_row (by rfl) 48 (.tmp 5) (by rfl) (w.heap.size + 1 + 1) (by rfl) 48 _ (0, 0) _ (by exact F2.out) Try.underlying48 (by rfl) (by kernel_rfl) ?_))
  refine (KA.out _ B2.out).mono ?_; rintro e w3 ⟨rfl, hb⟩
  have A3 := hidB (A2.out.on hb)
  have X3 := hidB (X2.out.on hb)
  have F3 := hidB (F2.out.on hb)
  have R3 := hidB (R2.out.on hb)
  have B3 := hidB (B2.out.trans (hb.mono B2.out.size))
  clear hb A2 X2 F2 R2 B2
  clear z_m
  go_wp2_with (first | ((with_reducible refine ldId 35 (.tmp 3) ?_); refine wpList_load_row (by rfl) 35 (.tmp 3) (by rfl) (w.heap.size) (by rfl) 35 _ (0, 0) _ (by exact A3.out) Try.underlying35 (by rfl) (by kernel_rfl) ?_) | ((with_reducible refine ldId 38 (.tmp 4) ?_); refine wpList_load_row (by rfl) 38 (.tmp 4) (by rfl) (w.heap.size + 1) (by rfl) 38 _ (0, 0) _ (by exact X3.out) Try.underlying38 (by rfl) (by kernel_rfl) ?_) | ((with_reducible refine ldId 48 (.tmp 5) ?_); refine wpList_load_row (by rfl) 48 (.tmp 5) (by rfl) (w.heap.size + 1 + 1) (by rfl) 48 _ (0, 0) _ (by exact F3.out) Try.underlying48 (by rfl) (by kernel_rfl) ?_))
  refine (WA.out _ B3.out).mono ?_; rintro e w4 ⟨rfl, hb⟩
  have A4 := hidB (A3.out.on hb)
  have X4 := hidB (X3.out.on hb)
  have F4 := hidB (F3.out.on hb)
  have R4 := hidB (R3.out.on hb)
  have B4 := hidB (B3.out.trans (hb.mono B3.out.size))
  clear hb A3 X3 F3 R3 B3
  have A5 := hidB (show Bk (w4.alloc (.cells OI.done.cs 38)) (w.heap.size) 35 a.cs from A4.out.alloc _)
  have X5 := hidB (show Bk (w4.alloc (.cells OI.done.cs 38)) (w.heap.size + 1) 38 x.cs from X4.out.alloc _)
  have R5 := hidB (show Bk (w4.alloc (.cells OI.done.cs 38)) (w.heap.size + 1 + 1 + 1) 38 OI.zero.cs from R4.out.alloc _)
  have O5 := hidB (show Bk (w4.alloc (.cells OI.done.cs 38)) w4.heap.size 38 OI.done.cs from Bk.new w4 _ _)
  have B5 := hidB (show Below w.heap.size w (w4.alloc (.cells OI.done.cs 38)) from B4.out.alloc B4.out.size _)
  have hn5 : w.heap.size + 1 + 1 + 1 < w4.heap.size := R4.out.lt
  have hw5 : w4.heap.size < (w4.alloc (.cells OI.done.cs 38)).heap.size := by simp
  go_upto_region 10 with (first | ((with_reducible refine wpId ?_); refine wpList_build_to (by rfl) 38 _ (by rfl) OI.done.cs (by kernel_rfl) ?_) | ((with_reducible refine stId 38 (.tmp 11) (.tmp 33) ?_); refine wpList_store_new (by rfl) 38 (.tmp 11) (.tmp 33) (by rfl) OI.done.cs 38 _ (by rfl) (by rfl) (by exact size_out) (by rfl) (by exact OI.one _ (by rfl)) ?_))
  generalize (w4.alloc (.cells OI.done.cs 38)) = w5 at *
  generalize w4.heap.size = g5 at *
  clear A4 X4 F4 R4 B4
  have hn6 : w.heap.size + 1 + 1 + 1 ≠ g5 := by omega
  have hn7 : w.heap.size ≤ g5 := by omega
  have z_m : w5.cell? ⟨w.heap.size, 0, none⟩ = some (.int .u8 2) := by rw [← HM.out]; exact A5.out.cell 0
  have z_b : w5.cell? ⟨w.heap.size + 1, 5, none⟩ = some (.bool x.b) := X5.out.cell 5
  have f5 : w5.frozen? ⟨g5, 5, none⟩ = false := O5.out.free 5
  have o5 : w5.cell? ⟨g5, 5, none⟩ = some (.bool false) := O5.out.cell 5
  have O6 := hidB (show Bk (w5.setCell ⟨g5, 5, none⟩ (.bool x.b)) g5 38 (OI.cs { OI.done with b := x.b }) from O5.out.set 5 _)
  have R6 := hidB (show Bk (w5.setCell ⟨g5, 5, none⟩ (.bool x.b)) (w.heap.size + 1 + 1 + 1) 38 OI.zero.cs from R5.out.far hn6 _)
  have B6 := hidB (show Below w.heap.size w (w5.setCell ⟨g5, 5, none⟩ (.bool x.b)) from B5.out.setCell (p := ⟨g5, 5, none⟩) hn7 _)
  go_wp2_with (first | ((with_reducible refine ldId 38 (.tmp 11) ?_); refine wpList_load_row (by rfl) 38 (.tmp 11) (by rfl) g5 (by rfl) 38 _ (0, 0) _ (by exact O6.out) Try.underlying38 (by rfl) (by exact size_out) ?_) | ((with_reducible refine stId 38 (.tmp 6) (.tmp 67) ?_); refine wpList_store_row (by rfl) 38 (.tmp 6) (.tmp 67) (by rfl) (w.heap.size + 1 + 1 + 1) ({ OI.done with b := x.b } : OI).cs (by rfl) (by rfl) 38 OI.zero.cs (by exact R6.out) (by exact size_out) (by rfl) (by exact OI.one _ (by rfl)) ?_))
  exact bodyPost_ret (v := .tuple #[OI.a { OI.done with b := x.b }, .bool true, .int .i64 0]) (results_row3 Try.results13 _ _ (w.heap.size + 1 + 1 + 1) 38 (OI.cs { OI.done with b := x.b }) (0, 0) _ rfl (R6.out.setRow _) Try.underlying38 rfl size_out) rfl ⟨rfl, below_setRow B6.out (by omega) _⟩

set_option maxHeartbeats 8000000 in
set_option maxRecDepth 100000 in
theorem check_bool3 (a : AI) (x : OI) (f : FI) (lk ks : List KI) (ds : List DI) (hm2 : a.m = 3) (hm : 1 ≤ a.m ∧ a.m ≤ 13) (hl : a.m = 11 → ds.length = ks.length) (he : askedE a x lk = 0) (hk : knownE a.m f ks ds = 0) (hw : wellB a x f lk ks ds = true)  (w : World) (h : AskOk a x lk w) (hf : FactsOk f ks ds w) : Calls Try.prog 13 #[a.a, x.a, f.a] w fun e w' => e = .returned (.tuple #[OI.a { OI.done with b := x.b }, .bool true, .int .i64 0]) ∧ Below w.heap.size w w' := by
  have QA := hidB (fun W (hb : Below w.heap.size w W) => pasked_any a x lk W (h.on hb))
  have KA := hidB (fun W (hb : Below w.heap.size w W) => known_any a.m f ks ds hm W (hf.on hb))
  have WA := hidB (fun W (hb : Below w.heap.size w W) => well_any a x f lk ks ds hm hl W (h.on hb) (hf.on hb))
  clear h hf hm hl
  rw [he] at QA
  rw [hk] at KA
  rw [hw] at WA
  clear he hk hw
  have A1 := hidB (show Bk ((((w.alloc (.cells a.cs 35)).alloc (.cells x.cs 38)).alloc (.cells f.cs 48)).alloc (.cells #[.int .u8 0, .int .u8 0, .float .f64 0, .string ⟨#[]⟩, .int .i64 0, .bool false, .bool false, .int .u8 0, .int .u8 0, .float .f64 0, .string ⟨#[]⟩, .int .i64 0, .int .u8 0, .float .f64 0, .string ⟨#[]⟩, .int .i64 0, .int .u8 0, .float .f64 0, .string ⟨#[]⟩, .int .i64 0, .bool false, .bool false, .bool false, .slice none 0 0, .int .u8 0, .string ⟨#[]⟩] 38)) (w.heap.size) 35 a.cs from (((Bk.new w _ _).alloc _).alloc _).alloc _)
  have X1 := hidB (show Bk ((((w.alloc (.cells a.cs 35)).alloc (.cells x.cs 38)).alloc (.cells f.cs 48)).alloc (.cells #[.int .u8 0, .int .u8 0, .float .f64 0, .string ⟨#[]⟩, .int .i64 0, .bool false, .bool false, .int .u8 0, .int .u8 0, .float .f64 0, .string ⟨#[]⟩, .int .i64 0, .int .u8 0, .float .f64 0, .string ⟨#[]⟩, .int .i64 0, .int .u8 0, .float .f64 0, .string ⟨#[]⟩, .int .i64 0, .bool false, .bool false, .bool false, .slice none 0 0, .int .u8 0, .string ⟨#[]⟩] 38)) (w.heap.size + 1) 38 x.cs from ((Bk.new2 w _ _ _).alloc _).alloc _)
  have F1 := hidB (show Bk ((((w.alloc (.cells a.cs 35)).alloc (.cells x.cs 38)).alloc (.cells f.cs 48)).alloc (.cells #[.int .u8 0, .int .u8 0, .float .f64 0, .string ⟨#[]⟩, .int .i64 0, .bool false, .bool false, .int .u8 0, .int .u8 0, .float .f64 0, .string ⟨#[]⟩, .int .i64 0, .int .u8 0, .float .f64 0, .string ⟨#[]⟩, .int .i64 0, .int .u8 0, .float .f64 0, .string ⟨#[]⟩, .int .i64 0, .bool false, .bool false, .bool false, .slice none 0 0, .int .u8 0, .string ⟨#[]⟩] 38)) (w.heap.size + 1 + 1) 48 f.cs from (Bk.new3 w _ _ _ _).alloc _)
  have R1 := hidB (show Bk ((((w.alloc (.cells a.cs 35)).alloc (.cells x.cs 38)).alloc (.cells f.cs 48)).alloc (.cells #[.int .u8 0, .int .u8 0, .float .f64 0, .string ⟨#[]⟩, .int .i64 0, .bool false, .bool false, .int .u8 0, .int .u8 0, .float .f64 0, .string ⟨#[]⟩, .int .i64 0, .int .u8 0, .float .f64 0, .string ⟨#[]⟩, .int .i64 0, .int .u8 0, .float .f64 0, .string ⟨#[]⟩, .int .i64 0, .bool false, .bool false, .bool false, .slice none 0 0, .int .u8 0, .string ⟨#[]⟩] 38)) (w.heap.size + 1 + 1 + 1) 38 OI.zero.cs from Bk.new4 w _ _ _ _ _)
  have B1 := hidB (show Below w.heap.size w ((((w.alloc (.cells a.cs 35)).alloc (.cells x.cs 38)).alloc (.cells f.cs 48)).alloc (.cells #[.int .u8 0, .int .u8 0, .float .f64 0, .string ⟨#[]⟩, .int .i64 0, .bool false, .bool false, .int .u8 0, .int .u8 0, .float .f64 0, .string ⟨#[]⟩, .int .i64 0, .int .u8 0, .float .f64 0, .string ⟨#[]⟩, .int .i64 0, .int .u8 0, .float .f64 0, .string ⟨#[]⟩, .int .i64 0, .bool false, .bool false, .bool false, .slice none 0 0, .int .u8 0, .string ⟨#[]⟩] 38)) from (((box_one w _).alloc (by simp) _).alloc (by simp; omega) _).alloc (by simp; omega) _)
  have HM := hidB hm2
  clear hm2
  go_enter Try.func13, Try.ntmps13
  go_upto_region 1 with fail
  generalize ((((w.alloc (.cells a.cs 35)).alloc (.cells x.cs 38)).alloc (.cells f.cs 48)).alloc (.cells #[.int .u8 0, .int .u8 0, .float .f64 0, .string ⟨#[]⟩, .int .i64 0, .bool false, .bool false, .int .u8 0, .int .u8 0, .float .f64 0, .string ⟨#[]⟩, .int .i64 0, .int .u8 0, .float .f64 0, .string ⟨#[]⟩, .int .i64 0, .int .u8 0, .float .f64 0, .string ⟨#[]⟩, .int .i64 0, .bool false, .bool false, .bool false, .slice none 0 0, .int .u8 0, .string ⟨#[]⟩] 38)) = w1 at *
  go_wp2_with (first | ((with_reducible refine ldId 35 (.tmp 3) ?_); refine wpList_load_row (by rfl) 35 (.tmp 3) (by rfl) (w.heap.size) (by rfl) 35 _ (0, 0) _ (by exact A1.out) Try.underlying35 (by rfl) (by kernel_rfl) ?_) | ((with_reducible refine ldId 38 (.tmp 4) ?_); refine wpList_load_row (by rfl) 38 (.tmp 4) (by rfl) (w.heap.size + 1) (by rfl) 38 _ (0, 0) _ (by exact X1.out) Try.underlying38 (by rfl) (by kernel_rfl) ?_))
  refine (QA.out _ B1.out).mono ?_; rintro e w2 ⟨rfl, hb⟩
  have A2 := hidB (A1.out.on hb)
  have X2 := hidB (X1.out.on hb)
  have F2 := hidB (F1.out.on hb)
  have R2 := hidB (R1.out.on hb)
  have B2 := hidB (B1.out.trans (hb.mono B1.out.size))
  clear hb A1 X1 F1 R1 B1
  have z_m : w2.cell? ⟨w.heap.size, 0, none⟩ = some (.int .u8 a.m) := A2.out.cell 0
  go_wp2_with (first | ((with_reducible refine ldId 48 (.tmp 5) ?_); refine wpList_load_row (by rfl) 48 (.tmp 5) (by rfl) (w.heap.size + 1 + 1) (by rfl) 48 _ (0, 0) _ (by exact F2.out) Try.underlying48 (by rfl) (by kernel_rfl) ?_))
  refine (KA.out _ B2.out).mono ?_; rintro e w3 ⟨rfl, hb⟩
  have A3 := hidB (A2.out.on hb)
  have X3 := hidB (X2.out.on hb)
  have F3 := hidB (F2.out.on hb)
  have R3 := hidB (R2.out.on hb)
  have B3 := hidB (B2.out.trans (hb.mono B2.out.size))
  clear hb A2 X2 F2 R2 B2
  clear z_m
  go_wp2_with (first | ((with_reducible refine ldId 35 (.tmp 3) ?_); refine wpList_load_row (by rfl) 35 (.tmp 3) (by rfl) (w.heap.size) (by rfl) 35 _ (0, 0) _ (by exact A3.out) Try.underlying35 (by rfl) (by kernel_rfl) ?_) | ((with_reducible refine ldId 38 (.tmp 4) ?_); refine wpList_load_row (by rfl) 38 (.tmp 4) (by rfl) (w.heap.size + 1) (by rfl) 38 _ (0, 0) _ (by exact X3.out) Try.underlying38 (by rfl) (by kernel_rfl) ?_) | ((with_reducible refine ldId 48 (.tmp 5) ?_); refine wpList_load_row (by rfl) 48 (.tmp 5) (by rfl) (w.heap.size + 1 + 1) (by rfl) 48 _ (0, 0) _ (by exact F3.out) Try.underlying48 (by rfl) (by kernel_rfl) ?_))
  refine (WA.out _ B3.out).mono ?_; rintro e w4 ⟨rfl, hb⟩
  have A4 := hidB (A3.out.on hb)
  have X4 := hidB (X3.out.on hb)
  have F4 := hidB (F3.out.on hb)
  have R4 := hidB (R3.out.on hb)
  have B4 := hidB (B3.out.trans (hb.mono B3.out.size))
  clear hb A3 X3 F3 R3 B3
  have A5 := hidB (show Bk (w4.alloc (.cells OI.done.cs 38)) (w.heap.size) 35 a.cs from A4.out.alloc _)
  have X5 := hidB (show Bk (w4.alloc (.cells OI.done.cs 38)) (w.heap.size + 1) 38 x.cs from X4.out.alloc _)
  have R5 := hidB (show Bk (w4.alloc (.cells OI.done.cs 38)) (w.heap.size + 1 + 1 + 1) 38 OI.zero.cs from R4.out.alloc _)
  have O5 := hidB (show Bk (w4.alloc (.cells OI.done.cs 38)) w4.heap.size 38 OI.done.cs from Bk.new w4 _ _)
  have B5 := hidB (show Below w.heap.size w (w4.alloc (.cells OI.done.cs 38)) from B4.out.alloc B4.out.size _)
  have hn5 : w.heap.size + 1 + 1 + 1 < w4.heap.size := R4.out.lt
  have hw5 : w4.heap.size < (w4.alloc (.cells OI.done.cs 38)).heap.size := by simp
  go_upto_region 10 with (first | ((with_reducible refine wpId ?_); refine wpList_build_to (by rfl) 38 _ (by rfl) OI.done.cs (by kernel_rfl) ?_) | ((with_reducible refine stId 38 (.tmp 11) (.tmp 33) ?_); refine wpList_store_new (by rfl) 38 (.tmp 11) (.tmp 33) (by rfl) OI.done.cs 38 _ (by rfl) (by rfl) (by exact size_out) (by rfl) (by exact OI.one _ (by rfl)) ?_))
  generalize (w4.alloc (.cells OI.done.cs 38)) = w5 at *
  generalize w4.heap.size = g5 at *
  clear A4 X4 F4 R4 B4
  have hn6 : w.heap.size + 1 + 1 + 1 ≠ g5 := by omega
  have hn7 : w.heap.size ≤ g5 := by omega
  have z_m : w5.cell? ⟨w.heap.size, 0, none⟩ = some (.int .u8 3) := by rw [← HM.out]; exact A5.out.cell 0
  have z_b : w5.cell? ⟨w.heap.size + 1, 5, none⟩ = some (.bool x.b) := X5.out.cell 5
  have f5 : w5.frozen? ⟨g5, 5, none⟩ = false := O5.out.free 5
  have o5 : w5.cell? ⟨g5, 5, none⟩ = some (.bool false) := O5.out.cell 5
  have O6 := hidB (show Bk (w5.setCell ⟨g5, 5, none⟩ (.bool x.b)) g5 38 (OI.cs { OI.done with b := x.b }) from O5.out.set 5 _)
  have R6 := hidB (show Bk (w5.setCell ⟨g5, 5, none⟩ (.bool x.b)) (w.heap.size + 1 + 1 + 1) 38 OI.zero.cs from R5.out.far hn6 _)
  have B6 := hidB (show Below w.heap.size w (w5.setCell ⟨g5, 5, none⟩ (.bool x.b)) from B5.out.setCell (p := ⟨g5, 5, none⟩) hn7 _)
  go_wp2_with (first | ((with_reducible refine ldId 38 (.tmp 11) ?_); refine wpList_load_row (by rfl) 38 (.tmp 11) (by rfl) g5 (by rfl) 38 _ (0, 0) _ (by exact O6.out) Try.underlying38 (by rfl) (by exact size_out) ?_) | ((with_reducible refine stId 38 (.tmp 6) (.tmp 67) ?_); refine wpList_store_row (by rfl) 38 (.tmp 6) (.tmp 67) (by rfl) (w.heap.size + 1 + 1 + 1) ({ OI.done with b := x.b } : OI).cs (by rfl) (by rfl) 38 OI.zero.cs (by exact R6.out) (by exact size_out) (by rfl) (by exact OI.one _ (by rfl)) ?_))
  exact bodyPost_ret (v := .tuple #[OI.a { OI.done with b := x.b }, .bool true, .int .i64 0]) (results_row3 Try.results13 _ _ (w.heap.size + 1 + 1 + 1) 38 (OI.cs { OI.done with b := x.b }) (0, 0) _ rfl (R6.out.setRow _) Try.underlying38 rfl size_out) rfl ⟨rfl, below_setRow B6.out (by omega) _⟩

set_option maxHeartbeats 8000000 in
set_option maxRecDepth 100000 in
theorem check_bool4 (a : AI) (x : OI) (f : FI) (lk ks : List KI) (ds : List DI) (hm2 : a.m = 4) (hm : 1 ≤ a.m ∧ a.m ≤ 13) (hl : a.m = 11 → ds.length = ks.length) (he : askedE a x lk = 0) (hk : knownE a.m f ks ds = 0) (hw : wellB a x f lk ks ds = true)  (w : World) (h : AskOk a x lk w) (hf : FactsOk f ks ds w) : Calls Try.prog 13 #[a.a, x.a, f.a] w fun e w' => e = .returned (.tuple #[OI.a { OI.done with b := x.b }, .bool true, .int .i64 0]) ∧ Below w.heap.size w w' := by
  have QA := hidB (fun W (hb : Below w.heap.size w W) => pasked_any a x lk W (h.on hb))
  have KA := hidB (fun W (hb : Below w.heap.size w W) => known_any a.m f ks ds hm W (hf.on hb))
  have WA := hidB (fun W (hb : Below w.heap.size w W) => well_any a x f lk ks ds hm hl W (h.on hb) (hf.on hb))
  clear h hf hm hl
  rw [he] at QA
  rw [hk] at KA
  rw [hw] at WA
  clear he hk hw
  have A1 := hidB (show Bk ((((w.alloc (.cells a.cs 35)).alloc (.cells x.cs 38)).alloc (.cells f.cs 48)).alloc (.cells #[.int .u8 0, .int .u8 0, .float .f64 0, .string ⟨#[]⟩, .int .i64 0, .bool false, .bool false, .int .u8 0, .int .u8 0, .float .f64 0, .string ⟨#[]⟩, .int .i64 0, .int .u8 0, .float .f64 0, .string ⟨#[]⟩, .int .i64 0, .int .u8 0, .float .f64 0, .string ⟨#[]⟩, .int .i64 0, .bool false, .bool false, .bool false, .slice none 0 0, .int .u8 0, .string ⟨#[]⟩] 38)) (w.heap.size) 35 a.cs from (((Bk.new w _ _).alloc _).alloc _).alloc _)
  have X1 := hidB (show Bk ((((w.alloc (.cells a.cs 35)).alloc (.cells x.cs 38)).alloc (.cells f.cs 48)).alloc (.cells #[.int .u8 0, .int .u8 0, .float .f64 0, .string ⟨#[]⟩, .int .i64 0, .bool false, .bool false, .int .u8 0, .int .u8 0, .float .f64 0, .string ⟨#[]⟩, .int .i64 0, .int .u8 0, .float .f64 0, .string ⟨#[]⟩, .int .i64 0, .int .u8 0, .float .f64 0, .string ⟨#[]⟩, .int .i64 0, .bool false, .bool false, .bool false, .slice none 0 0, .int .u8 0, .string ⟨#[]⟩] 38)) (w.heap.size + 1) 38 x.cs from ((Bk.new2 w _ _ _).alloc _).alloc _)
  have F1 := hidB (show Bk ((((w.alloc (.cells a.cs 35)).alloc (.cells x.cs 38)).alloc (.cells f.cs 48)).alloc (.cells #[.int .u8 0, .int .u8 0, .float .f64 0, .string ⟨#[]⟩, .int .i64 0, .bool false, .bool false, .int .u8 0, .int .u8 0, .float .f64 0, .string ⟨#[]⟩, .int .i64 0, .int .u8 0, .float .f64 0, .string ⟨#[]⟩, .int .i64 0, .int .u8 0, .float .f64 0, .string ⟨#[]⟩, .int .i64 0, .bool false, .bool false, .bool false, .slice none 0 0, .int .u8 0, .string ⟨#[]⟩] 38)) (w.heap.size + 1 + 1) 48 f.cs from (Bk.new3 w _ _ _ _).alloc _)
  have R1 := hidB (show Bk ((((w.alloc (.cells a.cs 35)).alloc (.cells x.cs 38)).alloc (.cells f.cs 48)).alloc (.cells #[.int .u8 0, .int .u8 0, .float .f64 0, .string ⟨#[]⟩, .int .i64 0, .bool false, .bool false, .int .u8 0, .int .u8 0, .float .f64 0, .string ⟨#[]⟩, .int .i64 0, .int .u8 0, .float .f64 0, .string ⟨#[]⟩, .int .i64 0, .int .u8 0, .float .f64 0, .string ⟨#[]⟩, .int .i64 0, .bool false, .bool false, .bool false, .slice none 0 0, .int .u8 0, .string ⟨#[]⟩] 38)) (w.heap.size + 1 + 1 + 1) 38 OI.zero.cs from Bk.new4 w _ _ _ _ _)
  have B1 := hidB (show Below w.heap.size w ((((w.alloc (.cells a.cs 35)).alloc (.cells x.cs 38)).alloc (.cells f.cs 48)).alloc (.cells #[.int .u8 0, .int .u8 0, .float .f64 0, .string ⟨#[]⟩, .int .i64 0, .bool false, .bool false, .int .u8 0, .int .u8 0, .float .f64 0, .string ⟨#[]⟩, .int .i64 0, .int .u8 0, .float .f64 0, .string ⟨#[]⟩, .int .i64 0, .int .u8 0, .float .f64 0, .string ⟨#[]⟩, .int .i64 0, .bool false, .bool false, .bool false, .slice none 0 0, .int .u8 0, .string ⟨#[]⟩] 38)) from (((box_one w _).alloc (by simp) _).alloc (by simp; omega) _).alloc (by simp; omega) _)
  have HM := hidB hm2
  clear hm2
  go_enter Try.func13, Try.ntmps13
  go_upto_region 1 with fail
  generalize ((((w.alloc (.cells a.cs 35)).alloc (.cells x.cs 38)).alloc (.cells f.cs 48)).alloc (.cells #[.int .u8 0, .int .u8 0, .float .f64 0, .string ⟨#[]⟩, .int .i64 0, .bool false, .bool false, .int .u8 0, .int .u8 0, .float .f64 0, .string ⟨#[]⟩, .int .i64 0, .int .u8 0, .float .f64 0, .string ⟨#[]⟩, .int .i64 0, .int .u8 0, .float .f64 0, .string ⟨#[]⟩, .int .i64 0, .bool false, .bool false, .bool false, .slice none 0 0, .int .u8 0, .string ⟨#[]⟩] 38)) = w1 at *
  go_wp2_with (first | ((with_reducible refine ldId 35 (.tmp 3) ?_); refine wpList_load_row (by rfl) 35 (.tmp 3) (by rfl) (w.heap.size) (by rfl) 35 _ (0, 0) _ (by exact A1.out) Try.underlying35 (by rfl) (by kernel_rfl) ?_) | ((with_reducible refine ldId 38 (.tmp 4) ?_); refine wpList_load_row (by rfl) 38 (.tmp 4) (by rfl) (w.heap.size + 1) (by rfl) 38 _ (0, 0) _ (by exact X1.out) Try.underlying38 (by rfl) (by kernel_rfl) ?_))
  refine (QA.out _ B1.out).mono ?_; rintro e w2 ⟨rfl, hb⟩
  have A2 := hidB (A1.out.on hb)
  have X2 := hidB (X1.out.on hb)
  have F2 := hidB (F1.out.on hb)
  have R2 := hidB (R1.out.on hb)
  have B2 := hidB (B1.out.trans (hb.mono B1.out.size))
  clear hb A1 X1 F1 R1 B1
  have z_m : w2.cell? ⟨w.heap.size, 0, none⟩ = some (.int .u8 a.m) := A2.out.cell 0
  go_wp2_with (first | ((with_reducible refine ldId 48 (.tmp 5) ?_); refine wpList_load_row (by rfl) 48 (.tmp 5) (by rfl) (w.heap.size + 1 + 1) (by rfl) 48 _ (0, 0) _ (by exact F2.out) Try.underlying48 (by rfl) (by kernel_rfl) ?_))
  refine (KA.out _ B2.out).mono ?_; rintro e w3 ⟨rfl, hb⟩
  have A3 := hidB (A2.out.on hb)
  have X3 := hidB (X2.out.on hb)
  have F3 := hidB (F2.out.on hb)
  have R3 := hidB (R2.out.on hb)
  have B3 := hidB (B2.out.trans (hb.mono B2.out.size))
  clear hb A2 X2 F2 R2 B2
  clear z_m
  go_wp2_with (first | ((with_reducible refine ldId 35 (.tmp 3) ?_); refine wpList_load_row (by rfl) 35 (.tmp 3) (by rfl) (w.heap.size) (by rfl) 35 _ (0, 0) _ (by exact A3.out) Try.underlying35 (by rfl) (by kernel_rfl) ?_) | ((with_reducible refine ldId 38 (.tmp 4) ?_); refine wpList_load_row (by rfl) 38 (.tmp 4) (by rfl) (w.heap.size + 1) (by rfl) 38 _ (0, 0) _ (by exact X3.out) Try.underlying38 (by rfl) (by kernel_rfl) ?_) | ((with_reducible refine ldId 48 (.tmp 5) ?_); refine wpList_load_row (by rfl) 48 (.tmp 5) (by rfl) (w.heap.size + 1 + 1) (by rfl) 48 _ (0, 0) _ (by exact F3.out) Try.underlying48 (by rfl) (by kernel_rfl) ?_))
  refine (WA.out _ B3.out).mono ?_; rintro e w4 ⟨rfl, hb⟩
  have A4 := hidB (A3.out.on hb)
  have X4 := hidB (X3.out.on hb)
  have F4 := hidB (F3.out.on hb)
  have R4 := hidB (R3.out.on hb)
  have B4 := hidB (B3.out.trans (hb.mono B3.out.size))
  clear hb A3 X3 F3 R3 B3
  have A5 := hidB (show Bk (w4.alloc (.cells OI.done.cs 38)) (w.heap.size) 35 a.cs from A4.out.alloc _)
  have X5 := hidB (show Bk (w4.alloc (.cells OI.done.cs 38)) (w.heap.size + 1) 38 x.cs from X4.out.alloc _)
  have R5 := hidB (show Bk (w4.alloc (.cells OI.done.cs 38)) (w.heap.size + 1 + 1 + 1) 38 OI.zero.cs from R4.out.alloc _)
  have O5 := hidB (show Bk (w4.alloc (.cells OI.done.cs 38)) w4.heap.size 38 OI.done.cs from Bk.new w4 _ _)
  have B5 := hidB (show Below w.heap.size w (w4.alloc (.cells OI.done.cs 38)) from B4.out.alloc B4.out.size _)
  have hn5 : w.heap.size + 1 + 1 + 1 < w4.heap.size := R4.out.lt
  have hw5 : w4.heap.size < (w4.alloc (.cells OI.done.cs 38)).heap.size := by simp
  go_upto_region 10 with (first | ((with_reducible refine wpId ?_); refine wpList_build_to (by rfl) 38 _ (by rfl) OI.done.cs (by kernel_rfl) ?_) | ((with_reducible refine stId 38 (.tmp 11) (.tmp 33) ?_); refine wpList_store_new (by rfl) 38 (.tmp 11) (.tmp 33) (by rfl) OI.done.cs 38 _ (by rfl) (by rfl) (by exact size_out) (by rfl) (by exact OI.one _ (by rfl)) ?_))
  generalize (w4.alloc (.cells OI.done.cs 38)) = w5 at *
  generalize w4.heap.size = g5 at *
  clear A4 X4 F4 R4 B4
  have hn6 : w.heap.size + 1 + 1 + 1 ≠ g5 := by omega
  have hn7 : w.heap.size ≤ g5 := by omega
  have z_m : w5.cell? ⟨w.heap.size, 0, none⟩ = some (.int .u8 4) := by rw [← HM.out]; exact A5.out.cell 0
  have z_b : w5.cell? ⟨w.heap.size + 1, 5, none⟩ = some (.bool x.b) := X5.out.cell 5
  have f5 : w5.frozen? ⟨g5, 5, none⟩ = false := O5.out.free 5
  have o5 : w5.cell? ⟨g5, 5, none⟩ = some (.bool false) := O5.out.cell 5
  have O6 := hidB (show Bk (w5.setCell ⟨g5, 5, none⟩ (.bool x.b)) g5 38 (OI.cs { OI.done with b := x.b }) from O5.out.set 5 _)
  have R6 := hidB (show Bk (w5.setCell ⟨g5, 5, none⟩ (.bool x.b)) (w.heap.size + 1 + 1 + 1) 38 OI.zero.cs from R5.out.far hn6 _)
  have B6 := hidB (show Below w.heap.size w (w5.setCell ⟨g5, 5, none⟩ (.bool x.b)) from B5.out.setCell (p := ⟨g5, 5, none⟩) hn7 _)
  go_wp2_with (first | ((with_reducible refine ldId 38 (.tmp 11) ?_); refine wpList_load_row (by rfl) 38 (.tmp 11) (by rfl) g5 (by rfl) 38 _ (0, 0) _ (by exact O6.out) Try.underlying38 (by rfl) (by exact size_out) ?_) | ((with_reducible refine stId 38 (.tmp 6) (.tmp 67) ?_); refine wpList_store_row (by rfl) 38 (.tmp 6) (.tmp 67) (by rfl) (w.heap.size + 1 + 1 + 1) ({ OI.done with b := x.b } : OI).cs (by rfl) (by rfl) 38 OI.zero.cs (by exact R6.out) (by exact size_out) (by rfl) (by exact OI.one _ (by rfl)) ?_))
  exact bodyPost_ret (v := .tuple #[OI.a { OI.done with b := x.b }, .bool true, .int .i64 0]) (results_row3 Try.results13 _ _ (w.heap.size + 1 + 1 + 1) 38 (OI.cs { OI.done with b := x.b }) (0, 0) _ rfl (R6.out.setRow _) Try.underlying38 rfl size_out) rfl ⟨rfl, below_setRow B6.out (by omega) _⟩

set_option maxHeartbeats 8000000 in
set_option maxRecDepth 100000 in
theorem check_bool6 (a : AI) (x : OI) (f : FI) (lk ks : List KI) (ds : List DI) (hm2 : a.m = 6) (hm : 1 ≤ a.m ∧ a.m ≤ 13) (hl : a.m = 11 → ds.length = ks.length) (he : askedE a x lk = 0) (hk : knownE a.m f ks ds = 0) (hw : wellB a x f lk ks ds = true)  (w : World) (h : AskOk a x lk w) (hf : FactsOk f ks ds w) : Calls Try.prog 13 #[a.a, x.a, f.a] w fun e w' => e = .returned (.tuple #[OI.a { OI.done with b := x.b }, .bool true, .int .i64 0]) ∧ Below w.heap.size w w' := by
  have QA := hidB (fun W (hb : Below w.heap.size w W) => pasked_any a x lk W (h.on hb))
  have KA := hidB (fun W (hb : Below w.heap.size w W) => known_any a.m f ks ds hm W (hf.on hb))
  have WA := hidB (fun W (hb : Below w.heap.size w W) => well_any a x f lk ks ds hm hl W (h.on hb) (hf.on hb))
  clear h hf hm hl
  rw [he] at QA
  rw [hk] at KA
  rw [hw] at WA
  clear he hk hw
  have A1 := hidB (show Bk ((((w.alloc (.cells a.cs 35)).alloc (.cells x.cs 38)).alloc (.cells f.cs 48)).alloc (.cells #[.int .u8 0, .int .u8 0, .float .f64 0, .string ⟨#[]⟩, .int .i64 0, .bool false, .bool false, .int .u8 0, .int .u8 0, .float .f64 0, .string ⟨#[]⟩, .int .i64 0, .int .u8 0, .float .f64 0, .string ⟨#[]⟩, .int .i64 0, .int .u8 0, .float .f64 0, .string ⟨#[]⟩, .int .i64 0, .bool false, .bool false, .bool false, .slice none 0 0, .int .u8 0, .string ⟨#[]⟩] 38)) (w.heap.size) 35 a.cs from (((Bk.new w _ _).alloc _).alloc _).alloc _)
  have X1 := hidB (show Bk ((((w.alloc (.cells a.cs 35)).alloc (.cells x.cs 38)).alloc (.cells f.cs 48)).alloc (.cells #[.int .u8 0, .int .u8 0, .float .f64 0, .string ⟨#[]⟩, .int .i64 0, .bool false, .bool false, .int .u8 0, .int .u8 0, .float .f64 0, .string ⟨#[]⟩, .int .i64 0, .int .u8 0, .float .f64 0, .string ⟨#[]⟩, .int .i64 0, .int .u8 0, .float .f64 0, .string ⟨#[]⟩, .int .i64 0, .bool false, .bool false, .bool false, .slice none 0 0, .int .u8 0, .string ⟨#[]⟩] 38)) (w.heap.size + 1) 38 x.cs from ((Bk.new2 w _ _ _).alloc _).alloc _)
  have F1 := hidB (show Bk ((((w.alloc (.cells a.cs 35)).alloc (.cells x.cs 38)).alloc (.cells f.cs 48)).alloc (.cells #[.int .u8 0, .int .u8 0, .float .f64 0, .string ⟨#[]⟩, .int .i64 0, .bool false, .bool false, .int .u8 0, .int .u8 0, .float .f64 0, .string ⟨#[]⟩, .int .i64 0, .int .u8 0, .float .f64 0, .string ⟨#[]⟩, .int .i64 0, .int .u8 0, .float .f64 0, .string ⟨#[]⟩, .int .i64 0, .bool false, .bool false, .bool false, .slice none 0 0, .int .u8 0, .string ⟨#[]⟩] 38)) (w.heap.size + 1 + 1) 48 f.cs from (Bk.new3 w _ _ _ _).alloc _)
  have R1 := hidB (show Bk ((((w.alloc (.cells a.cs 35)).alloc (.cells x.cs 38)).alloc (.cells f.cs 48)).alloc (.cells #[.int .u8 0, .int .u8 0, .float .f64 0, .string ⟨#[]⟩, .int .i64 0, .bool false, .bool false, .int .u8 0, .int .u8 0, .float .f64 0, .string ⟨#[]⟩, .int .i64 0, .int .u8 0, .float .f64 0, .string ⟨#[]⟩, .int .i64 0, .int .u8 0, .float .f64 0, .string ⟨#[]⟩, .int .i64 0, .bool false, .bool false, .bool false, .slice none 0 0, .int .u8 0, .string ⟨#[]⟩] 38)) (w.heap.size + 1 + 1 + 1) 38 OI.zero.cs from Bk.new4 w _ _ _ _ _)
  have B1 := hidB (show Below w.heap.size w ((((w.alloc (.cells a.cs 35)).alloc (.cells x.cs 38)).alloc (.cells f.cs 48)).alloc (.cells #[.int .u8 0, .int .u8 0, .float .f64 0, .string ⟨#[]⟩, .int .i64 0, .bool false, .bool false, .int .u8 0, .int .u8 0, .float .f64 0, .string ⟨#[]⟩, .int .i64 0, .int .u8 0, .float .f64 0, .string ⟨#[]⟩, .int .i64 0, .int .u8 0, .float .f64 0, .string ⟨#[]⟩, .int .i64 0, .bool false, .bool false, .bool false, .slice none 0 0, .int .u8 0, .string ⟨#[]⟩] 38)) from (((box_one w _).alloc (by simp) _).alloc (by simp; omega) _).alloc (by simp; omega) _)
  have HM := hidB hm2
  clear hm2
  go_enter Try.func13, Try.ntmps13
  go_upto_region 1 with fail
  generalize ((((w.alloc (.cells a.cs 35)).alloc (.cells x.cs 38)).alloc (.cells f.cs 48)).alloc (.cells #[.int .u8 0, .int .u8 0, .float .f64 0, .string ⟨#[]⟩, .int .i64 0, .bool false, .bool false, .int .u8 0, .int .u8 0, .float .f64 0, .string ⟨#[]⟩, .int .i64 0, .int .u8 0, .float .f64 0, .string ⟨#[]⟩, .int .i64 0, .int .u8 0, .float .f64 0, .string ⟨#[]⟩, .int .i64 0, .bool false, .bool false, .bool false, .slice none 0 0, .int .u8 0, .string ⟨#[]⟩] 38)) = w1 at *
  go_wp2_with (first | ((with_reducible refine ldId 35 (.tmp 3) ?_); refine wpList_load_row (by rfl) 35 (.tmp 3) (by rfl) (w.heap.size) (by rfl) 35 _ (0, 0) _ (by exact A1.out) Try.underlying35 (by rfl) (by kernel_rfl) ?_) | ((with_reducible refine ldId 38 (.tmp 4) ?_); refine wpList_load_row (by rfl) 38 (.tmp 4) (by rfl) (w.heap.size + 1) (by rfl) 38 _ (0, 0) _ (by exact X1.out) Try.underlying38 (by rfl) (by kernel_rfl) ?_))
  refine (QA.out _ B1.out).mono ?_; rintro e w2 ⟨rfl, hb⟩
  have A2 := hidB (A1.out.on hb)
  have X2 := hidB (X1.out.on hb)
  have F2 := hidB (F1.out.on hb)
  have R2 := hidB (R1.out.on hb)
  have B2 := hidB (B1.out.trans (hb.mono B1.out.size))
  clear hb A1 X1 F1 R1 B1
  have z_m : w2.cell? ⟨w.heap.size, 0, none⟩ = some (.int .u8 a.m) := A2.out.cell 0
  go_wp2_with (first | ((with_reducible refine ldId 48 (.tmp 5) ?_); refine wpList_load_row (by rfl) 48 (.tmp 5) (by rfl) (w.heap.size + 1 + 1) (by rfl) 48 _ (0, 0) _ (by exact F2.out) Try.underlying48 (by rfl) (by kernel_rfl) ?_))
  refine (KA.out _ B2.out).mono ?_; rintro e w3 ⟨rfl, hb⟩
  have A3 := hidB (A2.out.on hb)
  have X3 := hidB (X2.out.on hb)
  have F3 := hidB (F2.out.on hb)
  have R3 := hidB (R2.out.on hb)
  have B3 := hidB (B2.out.trans (hb.mono B2.out.size))
  clear hb A2 X2 F2 R2 B2
  clear z_m
  go_wp2_with (first | ((with_reducible refine ldId 35 (.tmp 3) ?_); refine wpList_load_row (by rfl) 35 (.tmp 3) (by rfl) (w.heap.size) (by rfl) 35 _ (0, 0) _ (by exact A3.out) Try.underlying35 (by rfl) (by kernel_rfl) ?_) | ((with_reducible refine ldId 38 (.tmp 4) ?_); refine wpList_load_row (by rfl) 38 (.tmp 4) (by rfl) (w.heap.size + 1) (by rfl) 38 _ (0, 0) _ (by exact X3.out) Try.underlying38 (by rfl) (by kernel_rfl) ?_) | ((with_reducible refine ldId 48 (.tmp 5) ?_); refine wpList_load_row (by rfl) 48 (.tmp 5) (by rfl) (w.heap.size + 1 + 1) (by rfl) 48 _ (0, 0) _ (by exact F3.out) Try.underlying48 (by rfl) (by kernel_rfl) ?_))
  refine (WA.out _ B3.out).mono ?_; rintro e w4 ⟨rfl, hb⟩
  have A4 := hidB (A3.out.on hb)
  have X4 := hidB (X3.out.on hb)
  have F4 := hidB (F3.out.on hb)
  have R4 := hidB (R3.out.on hb)
  have B4 := hidB (B3.out.trans (hb.mono B3.out.size))
  clear hb A3 X3 F3 R3 B3
  have A5 := hidB (show Bk (w4.alloc (.cells OI.done.cs 38)) (w.heap.size) 35 a.cs from A4.out.alloc _)
  have X5 := hidB (show Bk (w4.alloc (.cells OI.done.cs 38)) (w.heap.size + 1) 38 x.cs from X4.out.alloc _)
  have R5 := hidB (show Bk (w4.alloc (.cells OI.done.cs 38)) (w.heap.size + 1 + 1 + 1) 38 OI.zero.cs from R4.out.alloc _)
  have O5 := hidB (show Bk (w4.alloc (.cells OI.done.cs 38)) w4.heap.size 38 OI.done.cs from Bk.new w4 _ _)
  have B5 := hidB (show Below w.heap.size w (w4.alloc (.cells OI.done.cs 38)) from B4.out.alloc B4.out.size _)
  have hn5 : w.heap.size + 1 + 1 + 1 < w4.heap.size := R4.out.lt
  have hw5 : w4.heap.size < (w4.alloc (.cells OI.done.cs 38)).heap.size := by simp
  go_upto_region 10 with (first | ((with_reducible refine wpId ?_); refine wpList_build_to (by rfl) 38 _ (by rfl) OI.done.cs (by kernel_rfl) ?_) | ((with_reducible refine stId 38 (.tmp 11) (.tmp 33) ?_); refine wpList_store_new (by rfl) 38 (.tmp 11) (.tmp 33) (by rfl) OI.done.cs 38 _ (by rfl) (by rfl) (by exact size_out) (by rfl) (by exact OI.one _ (by rfl)) ?_))
  generalize (w4.alloc (.cells OI.done.cs 38)) = w5 at *
  generalize w4.heap.size = g5 at *
  clear A4 X4 F4 R4 B4
  have hn6 : w.heap.size + 1 + 1 + 1 ≠ g5 := by omega
  have hn7 : w.heap.size ≤ g5 := by omega
  have z_m : w5.cell? ⟨w.heap.size, 0, none⟩ = some (.int .u8 6) := by rw [← HM.out]; exact A5.out.cell 0
  have z_b : w5.cell? ⟨w.heap.size + 1, 5, none⟩ = some (.bool x.b) := X5.out.cell 5
  have f5 : w5.frozen? ⟨g5, 5, none⟩ = false := O5.out.free 5
  have o5 : w5.cell? ⟨g5, 5, none⟩ = some (.bool false) := O5.out.cell 5
  have O6 := hidB (show Bk (w5.setCell ⟨g5, 5, none⟩ (.bool x.b)) g5 38 (OI.cs { OI.done with b := x.b }) from O5.out.set 5 _)
  have R6 := hidB (show Bk (w5.setCell ⟨g5, 5, none⟩ (.bool x.b)) (w.heap.size + 1 + 1 + 1) 38 OI.zero.cs from R5.out.far hn6 _)
  have B6 := hidB (show Below w.heap.size w (w5.setCell ⟨g5, 5, none⟩ (.bool x.b)) from B5.out.setCell (p := ⟨g5, 5, none⟩) hn7 _)
  go_wp2_with (first | ((with_reducible refine ldId 38 (.tmp 11) ?_); refine wpList_load_row (by rfl) 38 (.tmp 11) (by rfl) g5 (by rfl) 38 _ (0, 0) _ (by exact O6.out) Try.underlying38 (by rfl) (by exact size_out) ?_) | ((with_reducible refine stId 38 (.tmp 6) (.tmp 67) ?_); refine wpList_store_row (by rfl) 38 (.tmp 6) (.tmp 67) (by rfl) (w.heap.size + 1 + 1 + 1) ({ OI.done with b := x.b } : OI).cs (by rfl) (by rfl) 38 OI.zero.cs (by exact R6.out) (by exact size_out) (by rfl) (by exact OI.one _ (by rfl)) ?_))
  exact bodyPost_ret (v := .tuple #[OI.a { OI.done with b := x.b }, .bool true, .int .i64 0]) (results_row3 Try.results13 _ _ (w.heap.size + 1 + 1 + 1) 38 (OI.cs { OI.done with b := x.b }) (0, 0) _ rfl (R6.out.setRow _) Try.underlying38 rfl size_out) rfl ⟨rfl, below_setRow B6.out (by omega) _⟩

set_option maxHeartbeats 8000000 in
set_option maxRecDepth 100000 in
theorem check_bool7 (a : AI) (x : OI) (f : FI) (lk ks : List KI) (ds : List DI) (hm2 : a.m = 7) (hm : 1 ≤ a.m ∧ a.m ≤ 13) (hl : a.m = 11 → ds.length = ks.length) (he : askedE a x lk = 0) (hk : knownE a.m f ks ds = 0) (hw : wellB a x f lk ks ds = true)  (w : World) (h : AskOk a x lk w) (hf : FactsOk f ks ds w) : Calls Try.prog 13 #[a.a, x.a, f.a] w fun e w' => e = .returned (.tuple #[OI.a { OI.done with b := x.b }, .bool true, .int .i64 0]) ∧ Below w.heap.size w w' := by
  have QA := hidB (fun W (hb : Below w.heap.size w W) => pasked_any a x lk W (h.on hb))
  have KA := hidB (fun W (hb : Below w.heap.size w W) => known_any a.m f ks ds hm W (hf.on hb))
  have WA := hidB (fun W (hb : Below w.heap.size w W) => well_any a x f lk ks ds hm hl W (h.on hb) (hf.on hb))
  clear h hf hm hl
  rw [he] at QA
  rw [hk] at KA
  rw [hw] at WA
  clear he hk hw
  have A1 := hidB (show Bk ((((w.alloc (.cells a.cs 35)).alloc (.cells x.cs 38)).alloc (.cells f.cs 48)).alloc (.cells #[.int .u8 0, .int .u8 0, .float .f64 0, .string ⟨#[]⟩, .int .i64 0, .bool false, .bool false, .int .u8 0, .int .u8 0, .float .f64 0, .string ⟨#[]⟩, .int .i64 0, .int .u8 0, .float .f64 0, .string ⟨#[]⟩, .int .i64 0, .int .u8 0, .float .f64 0, .string ⟨#[]⟩, .int .i64 0, .bool false, .bool false, .bool false, .slice none 0 0, .int .u8 0, .string ⟨#[]⟩] 38)) (w.heap.size) 35 a.cs from (((Bk.new w _ _).alloc _).alloc _).alloc _)
  have X1 := hidB (show Bk ((((w.alloc (.cells a.cs 35)).alloc (.cells x.cs 38)).alloc (.cells f.cs 48)).alloc (.cells #[.int .u8 0, .int .u8 0, .float .f64 0, .string ⟨#[]⟩, .int .i64 0, .bool false, .bool false, .int .u8 0, .int .u8 0, .float .f64 0, .string ⟨#[]⟩, .int .i64 0, .int .u8 0, .float .f64 0, .string ⟨#[]⟩, .int .i64 0, .int .u8 0, .float .f64 0, .string ⟨#[]⟩, .int .i64 0, .bool false, .bool false, .bool false, .slice none 0 0, .int .u8 0, .string ⟨#[]⟩] 38)) (w.heap.size + 1) 38 x.cs from ((Bk.new2 w _ _ _).alloc _).alloc _)
  have F1 := hidB (show Bk ((((w.alloc (.cells a.cs 35)).alloc (.cells x.cs 38)).alloc (.cells f.cs 48)).alloc (.cells #[.int .u8 0, .int .u8 0, .float .f64 0, .string ⟨#[]⟩, .int .i64 0, .bool false, .bool false, .int .u8 0, .int .u8 0, .float .f64 0, .string ⟨#[]⟩, .int .i64 0, .int .u8 0, .float .f64 0, .string ⟨#[]⟩, .int .i64 0, .int .u8 0, .float .f64 0, .string ⟨#[]⟩, .int .i64 0, .bool false, .bool false, .bool false, .slice none 0 0, .int .u8 0, .string ⟨#[]⟩] 38)) (w.heap.size + 1 + 1) 48 f.cs from (Bk.new3 w _ _ _ _).alloc _)
  have R1 := hidB (show Bk ((((w.alloc (.cells a.cs 35)).alloc (.cells x.cs 38)).alloc (.cells f.cs 48)).alloc (.cells #[.int .u8 0, .int .u8 0, .float .f64 0, .string ⟨#[]⟩, .int .i64 0, .bool false, .bool false, .int .u8 0, .int .u8 0, .float .f64 0, .string ⟨#[]⟩, .int .i64 0, .int .u8 0, .float .f64 0, .string ⟨#[]⟩, .int .i64 0, .int .u8 0, .float .f64 0, .string ⟨#[]⟩, .int .i64 0, .bool false, .bool false, .bool false, .slice none 0 0, .int .u8 0, .string ⟨#[]⟩] 38)) (w.heap.size + 1 + 1 + 1) 38 OI.zero.cs from Bk.new4 w _ _ _ _ _)
  have B1 := hidB (show Below w.heap.size w ((((w.alloc (.cells a.cs 35)).alloc (.cells x.cs 38)).alloc (.cells f.cs 48)).alloc (.cells #[.int .u8 0, .int .u8 0, .float .f64 0, .string ⟨#[]⟩, .int .i64 0, .bool false, .bool false, .int .u8 0, .int .u8 0, .float .f64 0, .string ⟨#[]⟩, .int .i64 0, .int .u8 0, .float .f64 0, .string ⟨#[]⟩, .int .i64 0, .int .u8 0, .float .f64 0, .string ⟨#[]⟩, .int .i64 0, .bool false, .bool false, .bool false, .slice none 0 0, .int .u8 0, .string ⟨#[]⟩] 38)) from (((box_one w _).alloc (by simp) _).alloc (by simp; omega) _).alloc (by simp; omega) _)
  have HM := hidB hm2
  clear hm2
  go_enter Try.func13, Try.ntmps13
  go_upto_region 1 with fail
  generalize ((((w.alloc (.cells a.cs 35)).alloc (.cells x.cs 38)).alloc (.cells f.cs 48)).alloc (.cells #[.int .u8 0, .int .u8 0, .float .f64 0, .string ⟨#[]⟩, .int .i64 0, .bool false, .bool false, .int .u8 0, .int .u8 0, .float .f64 0, .string ⟨#[]⟩, .int .i64 0, .int .u8 0, .float .f64 0, .string ⟨#[]⟩, .int .i64 0, .int .u8 0, .float .f64 0, .string ⟨#[]⟩, .int .i64 0, .bool false, .bool false, .bool false, .slice none 0 0, .int .u8 0, .string ⟨#[]⟩] 38)) = w1 at *
  go_wp2_with (first | ((with_reducible refine ldId 35 (.tmp 3) ?_); refine wpList_load_row (by rfl) 35 (.tmp 3) (by rfl) (w.heap.size) (by rfl) 35 _ (0, 0) _ (by exact A1.out) Try.underlying35 (by rfl) (by kernel_rfl) ?_) | ((with_reducible refine ldId 38 (.tmp 4) ?_); refine wpList_load_row (by rfl) 38 (.tmp 4) (by rfl) (w.heap.size + 1) (by rfl) 38 _ (0, 0) _ (by exact X1.out) Try.underlying38 (by rfl) (by kernel_rfl) ?_))
  refine (QA.out _ B1.out).mono ?_; rintro e w2 ⟨rfl, hb⟩
  have A2 := hidB (A1.out.on hb)
  have X2 := hidB (X1.out.on hb)
  have F2 := hidB (F1.out.on hb)
  have R2 := hidB (R1.out.on hb)
  have B2 := hidB (B1.out.trans (hb.mono B1.out.size))
  clear hb A1 X1 F1 R1 B1
  have z_m : w2.cell? ⟨w.heap.size, 0, none⟩ = some (.int .u8 a.m) := A2.out.cell 0
  go_wp2_with (first | ((with_reducible refine ldId 48 (.tmp 5) ?_); refine wpList_load_row (by rfl) 48 (.tmp 5) (by rfl) (w.heap.size + 1 + 1) (by rfl) 48 _ (0, 0) _ (by exact F2.out) Try.underlying48 (by rfl) (by kernel_rfl) ?_))
  refine (KA.out _ B2.out).mono ?_; rintro e w3 ⟨rfl, hb⟩
  have A3 := hidB (A2.out.on hb)
  have X3 := hidB (X2.out.on hb)
  have F3 := hidB (F2.out.on hb)
  have R3 := hidB (R2.out.on hb)
  have B3 := hidB (B2.out.trans (hb.mono B2.out.size))
  clear hb A2 X2 F2 R2 B2
  clear z_m
  go_wp2_with (first | ((with_reducible refine ldId 35 (.tmp 3) ?_); refine wpList_load_row (by rfl) 35 (.tmp 3) (by rfl) (w.heap.size) (by rfl) 35 _ (0, 0) _ (by exact A3.out) Try.underlying35 (by rfl) (by kernel_rfl) ?_) | ((with_reducible refine ldId 38 (.tmp 4) ?_); refine wpList_load_row (by rfl) 38 (.tmp 4) (by rfl) (w.heap.size + 1) (by rfl) 38 _ (0, 0) _ (by exact X3.out) Try.underlying38 (by rfl) (by kernel_rfl) ?_) | ((with_reducible refine ldId 48 (.tmp 5) ?_); refine wpList_load_row (by rfl) 48 (.tmp 5) (by rfl) (w.heap.size + 1 + 1) (by rfl) 48 _ (0, 0) _ (by exact F3.out) Try.underlying48 (by rfl) (by kernel_rfl) ?_))
  refine (WA.out _ B3.out).mono ?_; rintro e w4 ⟨rfl, hb⟩
  have A4 := hidB (A3.out.on hb)
  have X4 := hidB (X3.out.on hb)
  have F4 := hidB (F3.out.on hb)
  have R4 := hidB (R3.out.on hb)
  have B4 := hidB (B3.out.trans (hb.mono B3.out.size))
  clear hb A3 X3 F3 R3 B3
  have A5 := hidB (show Bk (w4.alloc (.cells OI.done.cs 38)) (w.heap.size) 35 a.cs from A4.out.alloc _)
  have X5 := hidB (show Bk (w4.alloc (.cells OI.done.cs 38)) (w.heap.size + 1) 38 x.cs from X4.out.alloc _)
  have R5 := hidB (show Bk (w4.alloc (.cells OI.done.cs 38)) (w.heap.size + 1 + 1 + 1) 38 OI.zero.cs from R4.out.alloc _)
  have O5 := hidB (show Bk (w4.alloc (.cells OI.done.cs 38)) w4.heap.size 38 OI.done.cs from Bk.new w4 _ _)
  have B5 := hidB (show Below w.heap.size w (w4.alloc (.cells OI.done.cs 38)) from B4.out.alloc B4.out.size _)
  have hn5 : w.heap.size + 1 + 1 + 1 < w4.heap.size := R4.out.lt
  have hw5 : w4.heap.size < (w4.alloc (.cells OI.done.cs 38)).heap.size := by simp
  go_upto_region 10 with (first | ((with_reducible refine wpId ?_); refine wpList_build_to (by rfl) 38 _ (by rfl) OI.done.cs (by kernel_rfl) ?_) | ((with_reducible refine stId 38 (.tmp 11) (.tmp 33) ?_); refine wpList_store_new (by rfl) 38 (.tmp 11) (.tmp 33) (by rfl) OI.done.cs 38 _ (by rfl) (by rfl) (by exact size_out) (by rfl) (by exact OI.one _ (by rfl)) ?_))
  generalize (w4.alloc (.cells OI.done.cs 38)) = w5 at *
  generalize w4.heap.size = g5 at *
  clear A4 X4 F4 R4 B4
  have hn6 : w.heap.size + 1 + 1 + 1 ≠ g5 := by omega
  have hn7 : w.heap.size ≤ g5 := by omega
  have z_m : w5.cell? ⟨w.heap.size, 0, none⟩ = some (.int .u8 7) := by rw [← HM.out]; exact A5.out.cell 0
  have z_b : w5.cell? ⟨w.heap.size + 1, 5, none⟩ = some (.bool x.b) := X5.out.cell 5
  have f5 : w5.frozen? ⟨g5, 5, none⟩ = false := O5.out.free 5
  have o5 : w5.cell? ⟨g5, 5, none⟩ = some (.bool false) := O5.out.cell 5
  have O6 := hidB (show Bk (w5.setCell ⟨g5, 5, none⟩ (.bool x.b)) g5 38 (OI.cs { OI.done with b := x.b }) from O5.out.set 5 _)
  have R6 := hidB (show Bk (w5.setCell ⟨g5, 5, none⟩ (.bool x.b)) (w.heap.size + 1 + 1 + 1) 38 OI.zero.cs from R5.out.far hn6 _)
  have B6 := hidB (show Below w.heap.size w (w5.setCell ⟨g5, 5, none⟩ (.bool x.b)) from B5.out.setCell (p := ⟨g5, 5, none⟩) hn7 _)
  go_wp2_with (first | ((with_reducible refine ldId 38 (.tmp 11) ?_); refine wpList_load_row (by rfl) 38 (.tmp 11) (by rfl) g5 (by rfl) 38 _ (0, 0) _ (by exact O6.out) Try.underlying38 (by rfl) (by exact size_out) ?_) | ((with_reducible refine stId 38 (.tmp 6) (.tmp 67) ?_); refine wpList_store_row (by rfl) 38 (.tmp 6) (.tmp 67) (by rfl) (w.heap.size + 1 + 1 + 1) ({ OI.done with b := x.b } : OI).cs (by rfl) (by rfl) 38 OI.zero.cs (by exact R6.out) (by exact size_out) (by rfl) (by exact OI.one _ (by rfl)) ?_))
  exact bodyPost_ret (v := .tuple #[OI.a { OI.done with b := x.b }, .bool true, .int .i64 0]) (results_row3 Try.results13 _ _ (w.heap.size + 1 + 1 + 1) 38 (OI.cs { OI.done with b := x.b }) (0, 0) _ rfl (R6.out.setRow _) Try.underlying38 rfl size_out) rfl ⟨rfl, below_setRow B6.out (by omega) _⟩

set_option maxHeartbeats 8000000 in
set_option maxRecDepth 100000 in
theorem check_bool9 (a : AI) (x : OI) (f : FI) (lk ks : List KI) (ds : List DI) (hm2 : a.m = 9) (hm : 1 ≤ a.m ∧ a.m ≤ 13) (hl : a.m = 11 → ds.length = ks.length) (he : askedE a x lk = 0) (hk : knownE a.m f ks ds = 0) (hw : wellB a x f lk ks ds = true)  (w : World) (h : AskOk a x lk w) (hf : FactsOk f ks ds w) : Calls Try.prog 13 #[a.a, x.a, f.a] w fun e w' => e = .returned (.tuple #[OI.a { OI.done with b := x.b }, .bool true, .int .i64 0]) ∧ Below w.heap.size w w' := by
  have QA := hidB (fun W (hb : Below w.heap.size w W) => pasked_any a x lk W (h.on hb))
  have KA := hidB (fun W (hb : Below w.heap.size w W) => known_any a.m f ks ds hm W (hf.on hb))
  have WA := hidB (fun W (hb : Below w.heap.size w W) => well_any a x f lk ks ds hm hl W (h.on hb) (hf.on hb))
  clear h hf hm hl
  rw [he] at QA
  rw [hk] at KA
  rw [hw] at WA
  clear he hk hw
  have A1 := hidB (show Bk ((((w.alloc (.cells a.cs 35)).alloc (.cells x.cs 38)).alloc (.cells f.cs 48)).alloc (.cells #[.int .u8 0, .int .u8 0, .float .f64 0, .string ⟨#[]⟩, .int .i64 0, .bool false, .bool false, .int .u8 0, .int .u8 0, .float .f64 0, .string ⟨#[]⟩, .int .i64 0, .int .u8 0, .float .f64 0, .string ⟨#[]⟩, .int .i64 0, .int .u8 0, .float .f64 0, .string ⟨#[]⟩, .int .i64 0, .bool false, .bool false, .bool false, .slice none 0 0, .int .u8 0, .string ⟨#[]⟩] 38)) (w.heap.size) 35 a.cs from (((Bk.new w _ _).alloc _).alloc _).alloc _)
  have X1 := hidB (show Bk ((((w.alloc (.cells a.cs 35)).alloc (.cells x.cs 38)).alloc (.cells f.cs 48)).alloc (.cells #[.int .u8 0, .int .u8 0, .float .f64 0, .string ⟨#[]⟩, .int .i64 0, .bool false, .bool false, .int .u8 0, .int .u8 0, .float .f64 0, .string ⟨#[]⟩, .int .i64 0, .int .u8 0, .float .f64 0, .string ⟨#[]⟩, .int .i64 0, .int .u8 0, .float .f64 0, .string ⟨#[]⟩, .int .i64 0, .bool false, .bool false, .bool false, .slice none 0 0, .int .u8 0, .string ⟨#[]⟩] 38)) (w.heap.size + 1) 38 x.cs from ((Bk.new2 w _ _ _).alloc _).alloc _)
  have F1 := hidB (show Bk ((((w.alloc (.cells a.cs 35)).alloc (.cells x.cs 38)).alloc (.cells f.cs 48)).alloc (.cells #[.int .u8 0, .int .u8 0, .float .f64 0, .string ⟨#[]⟩, .int .i64 0, .bool false, .bool false, .int .u8 0, .int .u8 0, .float .f64 0, .string ⟨#[]⟩, .int .i64 0, .int .u8 0, .float .f64 0, .string ⟨#[]⟩, .int .i64 0, .int .u8 0, .float .f64 0, .string ⟨#[]⟩, .int .i64 0, .bool false, .bool false, .bool false, .slice none 0 0, .int .u8 0, .string ⟨#[]⟩] 38)) (w.heap.size + 1 + 1) 48 f.cs from (Bk.new3 w _ _ _ _).alloc _)
  have R1 := hidB (show Bk ((((w.alloc (.cells a.cs 35)).alloc (.cells x.cs 38)).alloc (.cells f.cs 48)).alloc (.cells #[.int .u8 0, .int .u8 0, .float .f64 0, .string ⟨#[]⟩, .int .i64 0, .bool false, .bool false, .int .u8 0, .int .u8 0, .float .f64 0, .string ⟨#[]⟩, .int .i64 0, .int .u8 0, .float .f64 0, .string ⟨#[]⟩, .int .i64 0, .int .u8 0, .float .f64 0, .string ⟨#[]⟩, .int .i64 0, .bool false, .bool false, .bool false, .slice none 0 0, .int .u8 0, .string ⟨#[]⟩] 38)) (w.heap.size + 1 + 1 + 1) 38 OI.zero.cs from Bk.new4 w _ _ _ _ _)
  have B1 := hidB (show Below w.heap.size w ((((w.alloc (.cells a.cs 35)).alloc (.cells x.cs 38)).alloc (.cells f.cs 48)).alloc (.cells #[.int .u8 0, .int .u8 0, .float .f64 0, .string ⟨#[]⟩, .int .i64 0, .bool false, .bool false, .int .u8 0, .int .u8 0, .float .f64 0, .string ⟨#[]⟩, .int .i64 0, .int .u8 0, .float .f64 0, .string ⟨#[]⟩, .int .i64 0, .int .u8 0, .float .f64 0, .string ⟨#[]⟩, .int .i64 0, .bool false, .bool false, .bool false, .slice none 0 0, .int .u8 0, .string ⟨#[]⟩] 38)) from (((box_one w _).alloc (by simp) _).alloc (by simp; omega) _).alloc (by simp; omega) _)
  have HM := hidB hm2
  clear hm2
  go_enter Try.func13, Try.ntmps13
  go_upto_region 1 with fail
  generalize ((((w.alloc (.cells a.cs 35)).alloc (.cells x.cs 38)).alloc (.cells f.cs 48)).alloc (.cells #[.int .u8 0, .int .u8 0, .float .f64 0, .string ⟨#[]⟩, .int .i64 0, .bool false, .bool false, .int .u8 0, .int .u8 0, .float .f64 0, .string ⟨#[]⟩, .int .i64 0, .int .u8 0, .float .f64 0, .string ⟨#[]⟩, .int .i64 0, .int .u8 0, .float .f64 0, .string ⟨#[]⟩, .int .i64 0, .bool false, .bool false, .bool false, .slice none 0 0, .int .u8 0, .string ⟨#[]⟩] 38)) = w1 at *
  go_wp2_with (first | ((with_reducible refine ldId 35 (.tmp 3) ?_); refine wpList_load_row (by rfl) 35 (.tmp 3) (by rfl) (w.heap.size) (by rfl) 35 _ (0, 0) _ (by exact A1.out) Try.underlying35 (by rfl) (by kernel_rfl) ?_) | ((with_reducible refine ldId 38 (.tmp 4) ?_); refine wpList_load_row (by rfl) 38 (.tmp 4) (by rfl) (w.heap.size + 1) (by rfl) 38 _ (0, 0) _ (by exact X1.out) Try.underlying38 (by rfl) (by kernel_rfl) ?_))
  refine (QA.out _ B1.out).mono ?_; rintro e w2 ⟨rfl, hb⟩
  have A2 := hidB (A1.out.on hb)
  have X2 := hidB (X1.out.on hb)
  have F2 := hidB (F1.out.on hb)
  have R2 := hidB (R1.out.on hb)
  have B2 := hidB (B1.out.trans (hb.mono B1.out.size))
  clear hb A1 X1 F1 R1 B1
  have z_m : w2.cell? ⟨w.heap.size, 0, none⟩ = some (.int .u8 a.m) := A2.out.cell 0
  go_wp2_with (first | ((with_reducible refine ldId 48 (.tmp 5) ?_); refine wpList_load_row (by rfl) 48 (.tmp 5) (by rfl) (w.heap.size + 1 + 1) (by rfl) 48 _ (0, 0) _ (by exact F2.out) Try.underlying48 (by rfl) (by kernel_rfl) ?_))
  refine (KA.out _ B2.out).mono ?_; rintro e w3 ⟨rfl, hb⟩
  have A3 := hidB (A2.out.on hb)
  have X3 := hidB (X2.out.on hb)
  have F3 := hidB (F2.out.on hb)
  have R3 := hidB (R2.out.on hb)
  have B3 := hidB (B2.out.trans (hb.mono B2.out.size))
  clear hb A2 X2 F2 R2 B2
  clear z_m
  go_wp2_with (first | ((with_reducible refine ldId 35 (.tmp 3) ?_); refine wpList_load_row (by rfl) 35 (.tmp 3) (by rfl) (w.heap.size) (by rfl) 35 _ (0, 0) _ (by exact A3.out) Try.underlying35 (by rfl) (by kernel_rfl) ?_) | ((with_reducible refine ldId 38 (.tmp 4) ?_); refine wpList_load_row (by rfl) 38 (.tmp 4) (by rfl) (w.heap.size + 1) (by rfl) 38 _ (0, 0) _ (by exact X3.out) Try.underlying38 (by rfl) (by kernel_rfl) ?_) | ((with_reducible refine ldId 48 (.tmp 5) ?_); refine wpList_load_row (by rfl) 48 (.tmp 5) (by rfl) (w.heap.size + 1 + 1) (by rfl) 48 _ (0, 0) _ (by exact F3.out) Try.underlying48 (by rfl) (by kernel_rfl) ?_))
  refine (WA.out _ B3.out).mono ?_; rintro e w4 ⟨rfl, hb⟩
  have A4 := hidB (A3.out.on hb)
  have X4 := hidB (X3.out.on hb)
  have F4 := hidB (F3.out.on hb)
  have R4 := hidB (R3.out.on hb)
  have B4 := hidB (B3.out.trans (hb.mono B3.out.size))
  clear hb A3 X3 F3 R3 B3
  have A5 := hidB (show Bk (w4.alloc (.cells OI.done.cs 38)) (w.heap.size) 35 a.cs from A4.out.alloc _)
  have X5 := hidB (show Bk (w4.alloc (.cells OI.done.cs 38)) (w.heap.size + 1) 38 x.cs from X4.out.alloc _)
  have R5 := hidB (show Bk (w4.alloc (.cells OI.done.cs 38)) (w.heap.size + 1 + 1 + 1) 38 OI.zero.cs from R4.out.alloc _)
  have O5 := hidB (show Bk (w4.alloc (.cells OI.done.cs 38)) w4.heap.size 38 OI.done.cs from Bk.new w4 _ _)
  have B5 := hidB (show Below w.heap.size w (w4.alloc (.cells OI.done.cs 38)) from B4.out.alloc B4.out.size _)
  have hn5 : w.heap.size + 1 + 1 + 1 < w4.heap.size := R4.out.lt
  have hw5 : w4.heap.size < (w4.alloc (.cells OI.done.cs 38)).heap.size := by simp
  go_upto_region 10 with (first | ((with_reducible refine wpId ?_); refine wpList_build_to (by rfl) 38 _ (by rfl) OI.done.cs (by kernel_rfl) ?_) | ((with_reducible refine stId 38 (.tmp 11) (.tmp 33) ?_); refine wpList_store_new (by rfl) 38 (.tmp 11) (.tmp 33) (by rfl) OI.done.cs 38 _ (by rfl) (by rfl) (by exact size_out) (by rfl) (by exact OI.one _ (by rfl)) ?_))
  generalize (w4.alloc (.cells OI.done.cs 38)) = w5 at *
  generalize w4.heap.size = g5 at *
  clear A4 X4 F4 R4 B4
  have hn6 : w.heap.size + 1 + 1 + 1 ≠ g5 := by omega
  have hn7 : w.heap.size ≤ g5 := by omega
  have z_m : w5.cell? ⟨w.heap.size, 0, none⟩ = some (.int .u8 9) := by rw [← HM.out]; exact A5.out.cell 0
  have z_b : w5.cell? ⟨w.heap.size + 1, 5, none⟩ = some (.bool x.b) := X5.out.cell 5
  have f5 : w5.frozen? ⟨g5, 5, none⟩ = false := O5.out.free 5
  have o5 : w5.cell? ⟨g5, 5, none⟩ = some (.bool false) := O5.out.cell 5
  have O6 := hidB (show Bk (w5.setCell ⟨g5, 5, none⟩ (.bool x.b)) g5 38 (OI.cs { OI.done with b := x.b }) from O5.out.set 5 _)
  have R6 := hidB (show Bk (w5.setCell ⟨g5, 5, none⟩ (.bool x.b)) (w.heap.size + 1 + 1 + 1) 38 OI.zero.cs from R5.out.far hn6 _)
  have B6 := hidB (show Below w.heap.size w (w5.setCell ⟨g5, 5, none⟩ (.bool x.b)) from B5.out.setCell (p := ⟨g5, 5, none⟩) hn7 _)
  go_wp2_with (first | ((with_reducible refine ldId 38 (.tmp 11) ?_); refine wpList_load_row (by rfl) 38 (.tmp 11) (by rfl) g5 (by rfl) 38 _ (0, 0) _ (by exact O6.out) Try.underlying38 (by rfl) (by exact size_out) ?_) | ((with_reducible refine stId 38 (.tmp 6) (.tmp 67) ?_); refine wpList_store_row (by rfl) 38 (.tmp 6) (.tmp 67) (by rfl) (w.heap.size + 1 + 1 + 1) ({ OI.done with b := x.b } : OI).cs (by rfl) (by rfl) 38 OI.zero.cs (by exact R6.out) (by exact size_out) (by rfl) (by exact OI.one _ (by rfl)) ?_))
  exact bodyPost_ret (v := .tuple #[OI.a { OI.done with b := x.b }, .bool true, .int .i64 0]) (results_row3 Try.results13 _ _ (w.heap.size + 1 + 1 + 1) 38 (OI.cs { OI.done with b := x.b }) (0, 0) _ rfl (R6.out.setRow _) Try.underlying38 rfl size_out) rfl ⟨rfl, below_setRow B6.out (by omega) _⟩

set_option maxHeartbeats 8000000 in
set_option maxRecDepth 100000 in
theorem check_bool10 (a : AI) (x : OI) (f : FI) (lk ks : List KI) (ds : List DI) (hm2 : a.m = 10) (hm : 1 ≤ a.m ∧ a.m ≤ 13) (hl : a.m = 11 → ds.length = ks.length) (he : askedE a x lk = 0) (hk : knownE a.m f ks ds = 0) (hw : wellB a x f lk ks ds = true)  (w : World) (h : AskOk a x lk w) (hf : FactsOk f ks ds w) : Calls Try.prog 13 #[a.a, x.a, f.a] w fun e w' => e = .returned (.tuple #[OI.a { OI.done with b := x.b }, .bool true, .int .i64 0]) ∧ Below w.heap.size w w' := by
  have QA := hidB (fun W (hb : Below w.heap.size w W) => pasked_any a x lk W (h.on hb))
  have KA := hidB (fun W (hb : Below w.heap.size w W) => known_any a.m f ks ds hm W (hf.on hb))
  have WA := hidB (fun W (hb : Below w.heap.size w W) => well_any a x f lk ks ds hm hl W (h.on hb) (hf.on hb))
  clear h hf hm hl
  rw [he] at QA
  rw [hk] at KA
  rw [hw] at WA
  clear he hk hw
  have A1 := hidB (show Bk ((((w.alloc (.cells a.cs 35)).alloc (.cells x.cs 38)).alloc (.cells f.cs 48)).alloc (.cells #[.int .u8 0, .int .u8 0, .float .f64 0, .string ⟨#[]⟩, .int .i64 0, .bool false, .bool false, .int .u8 0, .int .u8 0, .float .f64 0, .string ⟨#[]⟩, .int .i64 0, .int .u8 0, .float .f64 0, .string ⟨#[]⟩, .int .i64 0, .int .u8 0, .float .f64 0, .string ⟨#[]⟩, .int .i64 0, .bool false, .bool false, .bool false, .slice none 0 0, .int .u8 0, .string ⟨#[]⟩] 38)) (w.heap.size) 35 a.cs from (((Bk.new w _ _).alloc _).alloc _).alloc _)
  have X1 := hidB (show Bk ((((w.alloc (.cells a.cs 35)).alloc (.cells x.cs 38)).alloc (.cells f.cs 48)).alloc (.cells #[.int .u8 0, .int .u8 0, .float .f64 0, .string ⟨#[]⟩, .int .i64 0, .bool false, .bool false, .int .u8 0, .int .u8 0, .float .f64 0, .string ⟨#[]⟩, .int .i64 0, .int .u8 0, .float .f64 0, .string ⟨#[]⟩, .int .i64 0, .int .u8 0, .float .f64 0, .string ⟨#[]⟩, .int .i64 0, .bool false, .bool false, .bool false, .slice none 0 0, .int .u8 0, .string ⟨#[]⟩] 38)) (w.heap.size + 1) 38 x.cs from ((Bk.new2 w _ _ _).alloc _).alloc _)
  have F1 := hidB (show Bk ((((w.alloc (.cells a.cs 35)).alloc (.cells x.cs 38)).alloc (.cells f.cs 48)).alloc (.cells #[.int .u8 0, .int .u8 0, .float .f64 0, .string ⟨#[]⟩, .int .i64 0, .bool false, .bool false, .int .u8 0, .int .u8 0, .float .f64 0, .string ⟨#[]⟩, .int .i64 0, .int .u8 0, .float .f64 0, .string ⟨#[]⟩, .int .i64 0, .int .u8 0, .float .f64 0, .string ⟨#[]⟩, .int .i64 0, .bool false, .bool false, .bool false, .slice none 0 0, .int .u8 0, .string ⟨#[]⟩] 38)) (w.heap.size + 1 + 1) 48 f.cs from (Bk.new3 w _ _ _ _).alloc _)
  have R1 := hidB (show Bk ((((w.alloc (.cells a.cs 35)).alloc (.cells x.cs 38)).alloc (.cells f.cs 48)).alloc (.cells #[.int .u8 0, .int .u8 0, .float .f64 0, .string ⟨#[]⟩, .int .i64 0, .bool false, .bool false, .int .u8 0, .int .u8 0, .float .f64 0, .string ⟨#[]⟩, .int .i64 0, .int .u8 0, .float .f64 0, .string ⟨#[]⟩, .int .i64 0, .int .u8 0, .float .f64 0, .string ⟨#[]⟩, .int .i64 0, .bool false, .bool false, .bool false, .slice none 0 0, .int .u8 0, .string ⟨#[]⟩] 38)) (w.heap.size + 1 + 1 + 1) 38 OI.zero.cs from Bk.new4 w _ _ _ _ _)
  have B1 := hidB (show Below w.heap.size w ((((w.alloc (.cells a.cs 35)).alloc (.cells x.cs 38)).alloc (.cells f.cs 48)).alloc (.cells #[.int .u8 0, .int .u8 0, .float .f64 0, .string ⟨#[]⟩, .int .i64 0, .bool false, .bool false, .int .u8 0, .int .u8 0, .float .f64 0, .string ⟨#[]⟩, .int .i64 0, .int .u8 0, .float .f64 0, .string ⟨#[]⟩, .int .i64 0, .int .u8 0, .float .f64 0, .string ⟨#[]⟩, .int .i64 0, .bool false, .bool false, .bool false, .slice none 0 0, .int .u8 0, .string ⟨#[]⟩] 38)) from (((box_one w _).alloc (by simp) _).alloc (by simp; omega) _).alloc (by simp; omega) _)
  have HM := hidB hm2
  clear hm2
  go_enter Try.func13, Try.ntmps13
  go_upto_region 1 with fail
  generalize ((((w.alloc (.cells a.cs 35)).alloc (.cells x.cs 38)).alloc (.cells f.cs 48)).alloc (.cells #[.int .u8 0, .int .u8 0, .float .f64 0, .string ⟨#[]⟩, .int .i64 0, .bool false, .bool false, .int .u8 0, .int .u8 0, .float .f64 0, .string ⟨#[]⟩, .int .i64 0, .int .u8 0, .float .f64 0, .string ⟨#[]⟩, .int .i64 0, .int .u8 0, .float .f64 0, .string ⟨#[]⟩, .int .i64 0, .bool false, .bool false, .bool false, .slice none 0 0, .int .u8 0, .string ⟨#[]⟩] 38)) = w1 at *
  go_wp2_with (first | ((with_reducible refine ldId 35 (.tmp 3) ?_); refine wpList_load_row (by rfl) 35 (.tmp 3) (by rfl) (w.heap.size) (by rfl) 35 _ (0, 0) _ (by exact A1.out) Try.underlying35 (by rfl) (by kernel_rfl) ?_) | ((with_reducible refine ldId 38 (.tmp 4) ?_); refine wpList_load_row (by rfl) 38 (.tmp 4) (by rfl) (w.heap.size + 1) (by rfl) 38 _ (0, 0) _ (by exact X1.out) Try.underlying38 (by rfl) (by kernel_rfl) ?_))
  refine (QA.out _ B1.out).mono ?_; rintro e w2 ⟨rfl, hb⟩
  have A2 := hidB (A1.out.on hb)
  have X2 := hidB (X1.out.on hb)
  have F2 := hidB (F1.out.on hb)
  have R2 := hidB (R1.out.on hb)
  have B2 := hidB (B1.out.trans (hb.mono B1.out.size))
  clear hb A1 X1 F1 R1 B1
  have z_m : w2.cell? ⟨w.heap.size, 0, none⟩ = some (.int .u8 a.m) := A2.out.cell 0
  go_wp2_with (first | ((with_reducible refine ldId 48 (.tmp 5) ?_); refine wpList_load_row (by rfl) 48 (.tmp 5) (by rfl) (w.heap.size + 1 + 1) (by rfl) 48 _ (0, 0) _ (by exact F2.out) Try.underlying48 (by rfl) (by kernel_rfl) ?_))
  refine (KA.out _ B2.out).mono ?_; rintro e w3 ⟨rfl, hb⟩
  have A3 := hidB (A2.out.on hb)
  have X3 := hidB (X2.out.on hb)
  have F3 := hidB (F2.out.on hb)
  have R3 := hidB (R2.out.on hb)
  have B3 := hidB (B2.out.trans (hb.mono B2.out.size))
  clear hb A2 X2 F2 R2 B2
  clear z_m
  go_wp2_with (first | ((with_reducible refine ldId 35 (.tmp 3) ?_); refine wpList_load_row (by rfl) 35 (.tmp 3) (by rfl) (w.heap.size) (by rfl) 35 _ (0, 0) _ (by exact A3.out) Try.underlying35 (by rfl) (by kernel_rfl) ?_) | ((with_reducible refine ldId 38 (.tmp 4) ?_); refine wpList_load_row (by rfl) 38 (.tmp 4) (by rfl) (w.heap.size + 1) (by rfl) 38 _ (0, 0) _ (by exact X3.out) Try.underlying38 (by rfl) (by kernel_rfl) ?_) | ((with_reducible refine ldId 48 (.tmp 5) ?_); refine wpList_load_row (by rfl) 48 (.tmp 5) (by rfl) (w.heap.size + 1 + 1) (by rfl) 48 _ (0, 0) _ (by exact F3.out) Try.underlying48 (by rfl) (by kernel_rfl) ?_))
  refine (WA.out _ B3.out).mono ?_; rintro e w4 ⟨rfl, hb⟩
  have A4 := hidB (A3.out.on hb)
  have X4 := hidB (X3.out.on hb)
  have F4 := hidB (F3.out.on hb)
  have R4 := hidB (R3.out.on hb)
  have B4 := hidB (B3.out.trans (hb.mono B3.out.size))
  clear hb A3 X3 F3 R3 B3
  have A5 := hidB (show Bk (w4.alloc (.cells OI.done.cs 38)) (w.heap.size) 35 a.cs from A4.out.alloc _)
  have X5 := hidB (show Bk (w4.alloc (.cells OI.done.cs 38)) (w.heap.size + 1) 38 x.cs from X4.out.alloc _)
  have R5 := hidB (show Bk (w4.alloc (.cells OI.done.cs 38)) (w.heap.size + 1 + 1 + 1) 38 OI.zero.cs from R4.out.alloc _)
  have O5 := hidB (show Bk (w4.alloc (.cells OI.done.cs 38)) w4.heap.size 38 OI.done.cs from Bk.new w4 _ _)
  have B5 := hidB (show Below w.heap.size w (w4.alloc (.cells OI.done.cs 38)) from B4.out.alloc B4.out.size _)
  have hn5 : w.heap.size + 1 + 1 + 1 < w4.heap.size := R4.out.lt
  have hw5 : w4.heap.size < (w4.alloc (.cells OI.done.cs 38)).heap.size := by simp
  go_upto_region 10 with (first | ((with_reducible refine wpId ?_); refine wpList_build_to (by rfl) 38 _ (by rfl) OI.done.cs (by kernel_rfl) ?_) | ((with_reducible refine stId 38 (.tmp 11) (.tmp 33) ?_); refine wpList_store_new (by rfl) 38 (.tmp 11) (.tmp 33) (by rfl) OI.done.cs 38 _ (by rfl) (by rfl) (by exact size_out) (by rfl) (by exact OI.one _ (by rfl)) ?_))
  generalize (w4.alloc (.cells OI.done.cs 38)) = w5 at *
  generalize w4.heap.size = g5 at *
  clear A4 X4 F4 R4 B4
  have hn6 : w.heap.size + 1 + 1 + 1 ≠ g5 := by omega
  have hn7 : w.heap.size ≤ g5 := by omega
  have z_m : w5.cell? ⟨w.heap.size, 0, none⟩ = some (.int .u8 10) := by rw [← HM.out]; exact A5.out.cell 0
  have z_b : w5.cell? ⟨w.heap.size + 1, 5, none⟩ = some (.bool x.b) := X5.out.cell 5
  have f5 : w5.frozen? ⟨g5, 5, none⟩ = false := O5.out.free 5
  have o5 : w5.cell? ⟨g5, 5, none⟩ = some (.bool false) := O5.out.cell 5
  have O6 := hidB (show Bk (w5.setCell ⟨g5, 5, none⟩ (.bool x.b)) g5 38 (OI.cs { OI.done with b := x.b }) from O5.out.set 5 _)
  have R6 := hidB (show Bk (w5.setCell ⟨g5, 5, none⟩ (.bool x.b)) (w.heap.size + 1 + 1 + 1) 38 OI.zero.cs from R5.out.far hn6 _)
  have B6 := hidB (show Below w.heap.size w (w5.setCell ⟨g5, 5, none⟩ (.bool x.b)) from B5.out.setCell (p := ⟨g5, 5, none⟩) hn7 _)
  go_wp2_with (first | ((with_reducible refine ldId 38 (.tmp 11) ?_); refine wpList_load_row (by rfl) 38 (.tmp 11) (by rfl) g5 (by rfl) 38 _ (0, 0) _ (by exact O6.out) Try.underlying38 (by rfl) (by exact size_out) ?_) | ((with_reducible refine stId 38 (.tmp 6) (.tmp 67) ?_); refine wpList_store_row (by rfl) 38 (.tmp 6) (.tmp 67) (by rfl) (w.heap.size + 1 + 1 + 1) ({ OI.done with b := x.b } : OI).cs (by rfl) (by rfl) 38 OI.zero.cs (by exact R6.out) (by exact size_out) (by rfl) (by exact OI.one _ (by rfl)) ?_))
  exact bodyPost_ret (v := .tuple #[OI.a { OI.done with b := x.b }, .bool true, .int .i64 0]) (results_row3 Try.results13 _ _ (w.heap.size + 1 + 1 + 1) 38 (OI.cs { OI.done with b := x.b }) (0, 0) _ rfl (R6.out.setRow _) Try.underlying38 rfl size_out) rfl ⟨rfl, below_setRow B6.out (by omega) _⟩

end Go.Proofs.Ytlpldhcoplbopaa
