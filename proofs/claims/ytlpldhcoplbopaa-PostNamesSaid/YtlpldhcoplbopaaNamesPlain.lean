/-
  The chapter's examples: the walk of PostNames.
-/
import Derived.Test.YtlpldhcoplbopaaLiesWalk
import Derived.Test.YtlpldhcoplbopaaMethodWalk
import Derived.Test.YtlpldhcoplbopaaDescData
import Derived.ChangeKeysEq
namespace Go.Proofs.Ytlpldhcoplbopaa
open Go.RowKit

theorem yieldsIf_build {P : Program} {ops : Array Oper} {S : World → Prop} {op : Oper} {a : Act} (hw : Region.wanted op (yielded ops a.tmps) = true) (t : TypeId) (parts : Array (Nat × Operand)) (ho : op.op = .build t parts) (vals : List (Nat × Value)) (hv : (parts.map fun (i, x) => (i, a.eval x)).toList = vals) (cells : Array Value) (hf : P.built t vals = some cells) : YieldsIf P ops S op (.agg cells) a :=
  .inl ⟨hw, fun w _ => by
    unfold execOp
    simp only [ho, Sem.run_bind, run_build w t _ cells (by rw [hv]; exact hf), Result.andThen_ok]
    rfl⟩
theorem run_buildSlice {P : Program} (w : World) (t e : TypeId) (n size : Nat) (i : TypeInfo) (z : Value) (parts : Array (Nat × Value)) (cells : Array Value) (ht : P.underlying t = some (.slice e)) (hi : P.info? e = some i) (hz : i.zero = some z) (hs : i.size = size) (hn : ¬ n * size > 2 ^ 24) (h0 : n * size ≠ 0)
    (hf : Instr.fill (fun j => some (j * size, size)) ((Array.range (n * size)).map (z.cells[· % z.cells.size]!)) parts.toList = some cells) : (Instr.buildSlice t n parts).run P w = .ok (.slice (some ⟨w.heap.size, 0, none⟩) n n) (w.alloc (.cells cells e)) := by
  have hsz : (sizeOf e).run P w = .ok size w := by rw [run_sizeOf w hi, Program.cellsOf, hi]; simp [hs]
  have hzv : (zeroValue e).run P w = .ok z w := by simp [zeroValue, hi, hz, typeInfo]
  unfold Instr.buildSlice
  simp only [Sem.run_bind, run_underlying ht, Result.andThen_ok, hsz, Sem.run_ite, if_neg hn, if_neg h0, hzv, Sem.run_pure, hf]
  simp only [newRow, Sem.run_bind]
  rfl

theorem wp_buildSlice {P : Program} {op : Oper} {a : Act} {w : World} {K : Act → World → Prop} {Q : Exit → Act → World → Prop} (t e : TypeId) (n size : Nat) (parts : Array (Nat × Operand)) (ho : op.op = .buildSlice t n parts) (vals : List (Nat × Value)) (hv : (parts.map fun (i, x) => (i, a.eval x)).toList = vals) (z : Value) (cells : Array Value) (ht : P.underlying t = some (.slice e)) (hi : (P.info? e).map (fun i => (i.zero, i.size)) = some (some z, size)) (hn : ¬ n * size > 2 ^ 24) (h0 : n * size ≠ 0)
    (hf : Instr.fill (fun j => some (j * size, size)) ((Array.range (n * size)).map (z.cells[· % z.cells.size]!)) vals = some cells) (h : K (a.put op.dst (.slice (some ⟨w.heap.size, 0, none⟩) n n)) (w.alloc (.cells cells e))) : op.wp P a w K Q := by
  obtain ⟨i, hi, he⟩ := Option.map_eq_some_iff.1 hi
  simp only [Prod.mk.injEq] at he
  unfold Oper.wp execOp
  simp only [ho, Sem.run_bind, run_buildSlice w t e n size i z _ cells ht hi he.1 he.2 hn h0 (by rw [hv]; exact hf), Result.andThen_ok]
  exact h
def kA : KI := ⟨⟨#[97]⟩, 0⟩
def kB : KI := ⟨⟨#[98]⟩, 0⟩
def vNull : VI := ⟨1, 0, ⟨#[]⟩, 0⟩
def vOne : VI := ⟨3, 4607182418800017408, ⟨#[]⟩, 0⟩
def dFix : DI := ⟨51, vOne, VI.zero, VI.zero, false, false, false⟩
def dHas : DI := ⟨1, vOne, VI.zero, VI.zero, false, false, false⟩
theorem keyOf_any (s : ByteArray) (w : World) : Calls Try.prog 21 #[.string s] w fun e w' => e = .returned (KI.a ⟨s, 0⟩) ∧ Below w.heap.size w w' := by
  go_enter Try.func21, Try.ntmps21
  go_wp2
  exact bodyPost_ret (v := KI.a ⟨s, 0⟩) (by simp [results, Try.results21, go_sem]) rfl ⟨rfl, (Below.refl _ _).alloc (Nat.le_refl _) _⟩
/-- Slices out of a block. -/
theorem rdK_of {W : World} {g : Nat} {cs : Array Value} (h : Bk W g 27 cs) (l : List KI) (c : Nat) (hc : l.length ≤ c) (hm : c ≤ maxLen) (e : ∀ i (hi : i < l.length), (cs.toList.drop (i * 2)).take 2 = l[i].cells) : RdK l (.slice (some ⟨g, 0, none⟩) l.length c) W :=
  ⟨_, c, rfl, hc, hm, fun _ => ⟨g, 0, rfl, h.lt, fun i hi => by rw [Nat.zero_add]; exact Bk.mid h (i * 2) l[i].cells (e i hi)⟩⟩
theorem rdD_of {W : World} {g : Nat} {cs : Array Value} (h : Bk W g 32 cs) (l : List DI) (c : Nat) (hc : l.length ≤ c) (hm : c ≤ maxLen) (e : ∀ i (hi : i < l.length), (cs.toList.drop (i * 16)).take 16 = l[i].cs.toList) : RdD l (.slice (some ⟨g, 0, none⟩) l.length c) W :=
  ⟨_, c, rfl, hc, hm, fun _ => ⟨g, 0, rfl, h.lt, fun i hi => by rw [Nat.zero_add]; exact Bk.mid h (i * 16) l[i].cs.toList (e i hi)⟩⟩
abbrev cAB : Array Value := #[.string ⟨#[97]⟩, .int .i64 0, .string ⟨#[98]⟩, .int .i64 0]
abbrev cAA : Array Value := #[.string ⟨#[97]⟩, .int .i64 0, .string ⟨#[97]⟩, .int .i64 0]
theorem rd_ab {W : World} {g : Nat} (h : Bk W g 27 cAB) : RdK [kA, kB] (.slice (some ⟨g, 0, none⟩) 2 2) W := rdK_of h [kA, kB] 2 (by decide) (by decide) (fun i hi => by match i, hi with | 0, _ => rfl | 1, _ => rfl)
theorem rd_a {W : World} {g : Nat} (h : Bk W g 27 cAB) : RdK [kA] (.slice (some ⟨g, 0, none⟩) 1 2) W := rdK_of h [kA] 2 (by decide) (by decide) (fun i hi => by match i, hi with | 0, _ => rfl)
theorem rd_aa {W : World} {g : Nat} (h : Bk W g 27 cAA) : RdK [kA, kA] (.slice (some ⟨g, 0, none⟩) 2 2) W := rdK_of h [kA, kA] 2 (by decide) (by decide) (fun i hi => by match i, hi with | 0, _ => rfl | 1, _ => rfl)
abbrev cD1 : Array Value := #[.int .u8 51, .int .u8 3, .float .f64 4607182418800017408, .string ⟨#[]⟩, .int .i64 0, .int .u8 0, .float .f64 0, .string ⟨#[]⟩, .int .i64 0, .int .u8 0, .float .f64 0, .string ⟨#[]⟩, .int .i64 0, .bool false, .bool false, .bool false]
abbrev cD2 : Array Value := #[.int .u8 51, .int .u8 1, .float .f64 0, .string ⟨#[]⟩, .int .i64 0, .int .u8 0, .float .f64 0, .string ⟨#[]⟩, .int .i64 0, .int .u8 0, .float .f64 0, .string ⟨#[]⟩, .int .i64 0, .bool true, .bool true, .bool true, .int .u8 51, .int .u8 3, .float .f64 4607182418800017408, .string ⟨#[]⟩, .int .i64 0, .int .u8 0, .float .f64 0, .string ⟨#[]⟩, .int .i64 0, .int .u8 0, .float .f64 0, .string ⟨#[]⟩, .int .i64 0, .bool false, .bool false, .bool false]
theorem rd_d1 {W : World} {g : Nat} (h : Bk W g 32 cD1) : RdD [dFix] (.slice (some ⟨g, 0, none⟩) 1 1) W := rdD_of h [dFix] 1 (by decide) (by decide) (fun i hi => by match i, hi with | 0, _ => rfl)
theorem rd_d2 {W : World} {g : Nat} (h : Bk W g 32 cD2) : RdD [dataI vNull, dFix] (.slice (some ⟨g, 0, none⟩) 2 2) W := rdD_of h [dataI vNull, dFix] 2 (by decide) (by decide) (fun i hi => by match i, hi with | 0, _ => rfl | 1, _ => rfl)
theorem rdD_nil (W : World) : RdD [] (.slice none 0 0) W := ⟨none, 0, rfl, Nat.le_refl _, Nat.zero_le _, fun h => absurd h (by decide)⟩
theorem rdK_nil (W : World) : RdK [] (.slice none 0 0) W := ⟨none, 0, rfl, Nat.le_refl _, Nat.zero_le _, fun h => absurd h (by decide)⟩
theorem z_ok : DI.zero.ok := ⟨Int.le_refl 0, Int.le_refl 0, Int.le_refl 0⟩
theorem f_ok : dFix.ok := ⟨by decide, by decide, by decide⟩
theorem h_ok : dHas.ok := ⟨by decide, by decide, by decide⟩
theorem n_ok : (dataI vNull).ok := ⟨by decide, by decide, by decide⟩
theorem aOk (m : Int) {x : OI} {lk : List KI} {W : World} (hk : RdK lk x.keys W) (hv : 0 ≤ x.v.k) (hd : x.d.ok) : AskOk (askI m) x lk W := ⟨z_ok, Int.le_refl 0, hv, hd, hk⟩
theorem fOk {x : FI} {ks : List KI} {ds : List DI} {W : World} (hp : 0 ≤ x.pr.k) (hd : x.d.ok) (hk : RdK ks x.keys W) (ho : RdD ds x.own W) (hds : ∀ d, d ∈ ds → d.ok) : FactsOk x ks ds W := ⟨hp, hd, hk, ho, hds⟩
def x1 : OI := { OI.done with v := vNull }
def f1 : FI := { FI.zero with ext := true, pr := vNull }
def f2 : FI := { FI.zero with pr := ⟨6, 0, ⟨#[]⟩, 3⟩ }
def f3 : FI := { FI.zero with ext := true, fo := true, d := dFix }
def x4 : OI := { OI.done with fo := true, d := dHas }
def x5 : OI := { OI.done with v := vOne }
abbrev xk (v : Value) : OI := { OI.done with keys := v }
abbrev fk (v u : Value) : FI := { FI.zero with ext := true, keys := v, own := u }
theorem meth_del : Meth ⟨#[100, 101, 108, 101, 116, 101, 80, 114, 111, 112, 101, 114, 116, 121]⟩ 10 true := .inl ⟨rfl, by decide, by decide, rfl, fun j h1 h2 => by
  have h : j = 1 ∨ j = 2 ∨ j = 3 ∨ j = 4 ∨ j = 5 ∨ j = 6 ∨ j = 7 ∨ j = 8 ∨ j = 9 := by omega
  rcases h with rfl | rfl | rfl | rfl | rfl | rfl | rfl | rfl | rfl <;> decide⟩
theorem ck1 : chkE (askI 1) x1 f1 [] [] [] = 0 ∧ chkB (askI 1) x1 f1 [] [] [] = true := ⟨by kernel_rfl, by kernel_rfl⟩
theorem ck2 : chkE (askI 1) x1 f2 [] [] [] = 0 ∧ chkB (askI 1) x1 f2 [] [] [] = false := ⟨by kernel_rfl, by kernel_rfl⟩
theorem ck3 : chkE (askI 5) OI.done f3 [] [] [] = 0 ∧ chkB (askI 5) OI.done f3 [] [] [] = false := ⟨by kernel_rfl, by kernel_rfl⟩
theorem ck4 : chkE (askI 5) x4 extF [] [] [] = 0 ∧ chkB (askI 5) x4 extF [] [] [] = false := ⟨by kernel_rfl, by kernel_rfl⟩
theorem ck5 (v : Value) : chkE (askI 11) (xk v) extF [kA, kA] [] [] = 0 ∧ chkB (askI 11) (xk v) extF [kA, kA] [] [] = false := ⟨by kernel_rfl, by kernel_rfl⟩
theorem ck6 (v u t : Value) : chkE (askI 11) (xk v) (fk u t) [kA] [kA, kB] [dataI vNull, dFix] = 0 ∧ chkB (askI 11) (xk v) (fk u t) [kA] [kA, kB] [dataI vNull, dFix] = false := ⟨by kernel_rfl, by kernel_rfl⟩
theorem ck7 (v u t : Value) : chkE (askI 11) (xk v) (fk u t) [kA, kB] [kA] [dFix] = 0 ∧ chkB (askI 11) (xk v) (fk u t) [kA, kB] [kA] [dFix] = true := ⟨by kernel_rfl, by kernel_rfl⟩
theorem ck8 : chkE (askI 14) (yesI true) FI.zero [] [] [] = 2 ∧ chkB (askI 14) (yesI true) FI.zero [] [] [] = false := ⟨by kernel_rfl, by kernel_rfl⟩
theorem ck9 : chkE (askI 3) OI.zero FI.zero [] [] [] = 2 ∧ chkB (askI 3) OI.zero FI.zero [] [] [] = false := ⟨by kernel_rfl, by kernel_rfl⟩
theorem ck10 : chkE (askI 13) x5 FI.zero [] [] [] = 0 ∧ chkB (askI 13) x5 FI.zero [] [] [] = false := ⟨by kernel_rfl, by kernel_rfl⟩

end Go.Proofs.Ytlpldhcoplbopaa
