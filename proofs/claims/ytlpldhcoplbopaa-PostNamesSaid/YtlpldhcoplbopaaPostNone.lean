/-
  Descriptors compared by '==' with the zero one: the walk of post.none.
-/
import Derived.Test.YtlpldhcoplbopaaDescCom
import Derived.ChangeKeysEq
namespace Go.Proofs.Ytlpldhcoplbopaa
open Go.RowKit

section
variable {P : Program}
/-- Is a type a struct? -/
def structT (P : Program) (t : TypeId) : Bool := match P.underlying t with | some (.struct _) => true | _ => false
theorem part_agg {t : TypeId} (h : structT P t = true) {n : Nat} (hn : (P.info? t).map (·.size) = some n) {cs : Array Value} {o : Nat} {a : Array Value} (ha : cs.extract o (o + n) = a) (w : World) : (part t cs o).run P w = .ok (.agg a) w := by
  unfold structT at h
  cases hu : P.underlying t with
  | none => rw [hu] at h; cases h
  | some d =>
    have hA : (isAgg t).run P w = .ok true w := by
      rw [hu] at h
      simp only [isAgg, Sem.run_bind, run_underlying hu, Result.andThen_ok]
      cases d <;> first | rfl | cases h
    cases hi : P.info? t with
    | none => rw [hi] at hn; cases hn
    | some i =>
      rw [hi] at hn
      have hs : P.cellsOf t = n := by
        unfold Program.cellsOf
        rw [hi]
        simpa using hn
      simp only [part, Sem.run_bind, hA, Result.andThen_ok, if_true, @run_sizeOf P w _ _ hi, hs, ha, Sem.run_pure]
theorem eqF_agg {d : Nat} {xs ys : Array Value} {f : Field} {fs : List Field} {a b : Array Value} {n : Nat} {r : Bool} (hn : f.name ≠ "_") (hp : structT P f.type = true) (hi : (P.info? f.type).map (·.size) = some n) (hx : xs.extract f.offset (f.offset + n) = a) (hy : ys.extract f.offset (f.offset + n) = b) (he : ∀ w, (Op.equalIn d f.type (.agg a) (.agg b)).run P w = .ok r w) (w : World) :
    (Op.eqFields d xs ys (f :: fs)).run P w = if r then (Op.eqFields d xs ys fs).run P w else .ok false w := by
  simp only [Op.eqFields, if_pos hn, Sem.run_bind, part_agg hp hi hx, part_agg hp hi hy, Result.andThen_ok, he, Sem.run_ite]
  cases r <;> rfl
end

theorem fields_desc : ((Try.prog.fieldsOf 32).toList.map (fun f => (f.name, f.type, f.offset)) == [("Has", 5, 0), ("Value", 30, 1), ("Get", 30, 5), ("Set", 30, 9), ("Writable", 4, 13), ("Enumerable", 4, 14), ("Configurable", 4, 15)]) = true := by kernel_rfl
theorem under_desc : Try.prog.underlying 32 = some (.struct (Try.prog.fieldsOf 32)) := by kernel_rfl
theorem stood_desc : Try.prog.stoodInHeld 32 = false := by kernel_rfl
theorem guard_desc : Try.prog.eqGuardType Try.prog.depth 32 = false := by kernel_rfl
/-- Equal to the zero descriptor, by '=='. -/
def DI.isZ (d : DI) : Bool := (d.has == 0) && (d.v.isZ && (d.g.isZ && (d.t.isZ && ((d.wr == false) && ((d.en == false) && (d.cf == false))))))
theorem equal_desc0 (d : Nat) (x : DI) (w : World) : (Op.equalIn (d + 3) 32 (.agg x.cs) (.agg DI.zero.cs)).run Try.prog w = .ok x.isZ w := by
  have hf := eq_of_beq fields_desc
  rw [run_equalIn_struct _ _ _ _ _ under_desc stood_desc]
  generalize (Try.prog.fieldsOf 32).toList = fs at *
  rcases fs with _ | ⟨f0, _ | ⟨f1, _ | ⟨f2, _ | ⟨f3, _ | ⟨f4, _ | ⟨f5, _ | ⟨f6, _ | ⟨f7, fs⟩⟩⟩⟩⟩⟩⟩⟩
  case cons.cons.cons.cons.cons.cons.cons.nil =>
    simp only [List.map_cons, List.map_nil, List.cons.injEq, Prod.mk.injEq, and_true] at hf
    obtain ⟨⟨a0, b0, c0⟩, ⟨a1, b1, c1⟩, ⟨a2, b2, c2⟩, ⟨a3, b3, c3⟩, ⟨a4, b4, c4⟩, ⟨a5, b5, c5⟩, ⟨a6, b6, c6⟩⟩ := hf
    have z : ∀ (v : VI) (w : World), (Op.equalIn (d + 2) 30 (.agg v.cells.toArray) (.agg VI.zero.cells.toArray)).run Try.prog w = .ok v.isZ w := by
      intro v w
      rw [← eqV_zero v.k v.x v.s v.r]
      exact equal_val d v.k 0 v.x 0 v.s ⟨#[]⟩ v.r 0 w
    unfold DI.isZ
    rw [eqF_plain (a := .int .u8 x.has) (b := .int .u8 0) (r := x.has == 0) (by rw [a0]; decide) (by rw [b0]; kernel_rfl) (by rw [c0]; rfl) (by rw [c0]; rfl) (by intro w; rw [b0]; exact run_equalIn_int w (d + 1) _ .u8 .u8 _ _ (by kernel_rfl)),
      eqF_agg (a := x.v.cells.toArray) (b := VI.zero.cells.toArray) (n := 4) (r := x.v.isZ) (by rw [a1]; decide) (by rw [b1]; kernel_rfl) (by rw [b1]; kernel_rfl) (by rw [c1]; rfl) (by rw [c1]; rfl) (by intro w; rw [b1]; exact z x.v w),
      eqF_agg (a := x.g.cells.toArray) (b := VI.zero.cells.toArray) (n := 4) (r := x.g.isZ) (by rw [a2]; decide) (by rw [b2]; kernel_rfl) (by rw [b2]; kernel_rfl) (by rw [c2]; rfl) (by rw [c2]; rfl) (by intro w; rw [b2]; exact z x.g w),
      eqF_agg (a := x.t.cells.toArray) (b := VI.zero.cells.toArray) (n := 4) (r := x.t.isZ) (by rw [a3]; decide) (by rw [b3]; kernel_rfl) (by rw [b3]; kernel_rfl) (by rw [c3]; rfl) (by rw [c3]; rfl) (by intro w; rw [b3]; exact z x.t w),
      eqF_plain (a := .bool x.wr) (b := .bool false) (r := x.wr == false) (by rw [a4]; decide) (by rw [b4]; kernel_rfl) (by rw [c4]; rfl) (by rw [c4]; rfl) (by intro w; rw [b4]; exact run_equalIn_bool' w (d + 1) _ _ _ (by kernel_rfl)),
      eqF_plain (a := .bool x.en) (b := .bool false) (r := x.en == false) (by rw [a5]; decide) (by rw [b5]; kernel_rfl) (by rw [c5]; rfl) (by rw [c5]; rfl) (by intro w; rw [b5]; exact run_equalIn_bool' w (d + 1) _ _ _ (by kernel_rfl)),
      eqF_plain (a := .bool x.cf) (b := .bool false) (r := x.cf == false) (by rw [a6]; decide) (by rw [b6]; kernel_rfl) (by rw [c6]; rfl) (by rw [c6]; rfl) (by intro w; rw [b6]; exact run_equalIn_bool' w (d + 1) _ _ _ (by kernel_rfl)), eqF_nil]
    cases x.has == 0 <;> cases x.v.isZ <;> cases x.g.isZ <;> cases x.t.isZ <;> cases x.wr == false <;> cases x.en == false <;> cases x.cf == false <;> rfl
  all_goals (exfalso; simp at hf)

/-- No property: the zero descriptor, without a minus. -/
def DI.none (d : DI) : Bool := d.isZ && (d.v.may && (d.g.may && d.t.may))
set_option maxHeartbeats 4000000 in
set_option maxRecDepth 100000 in
theorem none_any (d : DI) (hd : d.ok) (w : World) : Calls Try.prog 35 #[d.a] w fun e w' => e = .returned (.bool d.none) ∧ Below w.heap.size w w' := by
  have CV := hidB (fun W => vmay_any d.v.k d.v.x d.v.s d.v.r hd.1 W)
  have CG := hidB (fun W => vmay_any d.g.k d.g.x d.g.s d.g.r hd.2.1 W)
  have CT := hidB (fun W => vmay_any d.t.k d.t.x d.t.s d.t.r hd.2.2 W)
  clear hd
  unfold DI.none VI.may
  generalize mayV d.v.k d.v.x d.v.s d.v.r = qv at *
  generalize mayV d.g.k d.g.x d.g.s d.g.r = qg at *
  generalize mayV d.t.k d.t.x d.t.s d.t.r = qt at *
  have E0 := fun W => equal_desc0 9997 d W
  generalize d.isZ = qz at *
  have z1 := guard_desc
  have U := hidB (show Bk (w.alloc (.cells d.cs 32)) w.heap.size 32 d.cs from Bk.new w _ _)
  have Bt := hidB (show Below w.heap.size w (w.alloc (.cells d.cs 32)) from box_one w _)
  cases qz
  · go_enter Try.func35, Try.ntmps35
    go_upto_region 1 with fail
    generalize (w.alloc (.cells d.cs 32)) = w1 at *
    go_wp2_with (first | ((with_reducible refine ldId 32 (.tmp 1) ?_); refine wpList_load_row (by rfl) 32 (.tmp 1) (by rfl) w.heap.size (by rfl) 32 _ (0, 0) _ (by exact U.out) Try.underlying32 (by rfl) (by exact size_desc) ?_) | ((with_reducible refine wpId ?_); refine wpList_build_to (by rfl) 32 _ (by rfl) DI.zero.cs (by kernel_rfl) ?_))
    go_ret
    exact ⟨rfl, Bt.out⟩
  · cases qv
    · skip
      go_enter Try.func35, Try.ntmps35
      go_upto_region 1 with fail
      generalize (w.alloc (.cells d.cs 32)) = w1 at *
      go_wp2_with (first | ((with_reducible refine ldId 32 (.tmp 1) ?_); refine wpList_load_row (by rfl) 32 (.tmp 1) (by rfl) w.heap.size (by rfl) 32 _ (0, 0) _ (by exact U.out) Try.underlying32 (by rfl) (by exact size_desc) ?_) | ((with_reducible refine wpId ?_); refine wpList_build_to (by rfl) 32 _ (by rfl) DI.zero.cs (by kernel_rfl) ?_) | ((with_reducible refine ldId 30 (.tmp 7) ?_); refine wpList_wload_mid 30 (.tmp 7) (by rfl) (by rfl) w.heap.size 1 (by rfl) (d.v.cells) _ (by exact Bk.mid U.out 1 _ rfl) Try.underlying30 (by rfl) (by kernel_rfl) ?_))
      refine (CV.out _).mono ?_; rintro e w2 ⟨rfl, hb⟩
      have U2 := hidB (U.out.on hb)
      have B2 := hidB (Bt.out.trans (hb.mono Bt.out.size))
      clear hb
      go_wp2_with fail
      go_ret
      exact ⟨rfl, B2.out⟩
    · cases qg
      · skip
        go_enter Try.func35, Try.ntmps35
        go_upto_region 1 with fail
        generalize (w.alloc (.cells d.cs 32)) = w1 at *
        go_wp2_with (first | ((with_reducible refine ldId 32 (.tmp 1) ?_); refine wpList_load_row (by rfl) 32 (.tmp 1) (by rfl) w.heap.size (by rfl) 32 _ (0, 0) _ (by exact U.out) Try.underlying32 (by rfl) (by exact size_desc) ?_) | ((with_reducible refine wpId ?_); refine wpList_build_to (by rfl) 32 _ (by rfl) DI.zero.cs (by kernel_rfl) ?_) | ((with_reducible refine ldId 30 (.tmp 7) ?_); refine wpList_wload_mid 30 (.tmp 7) (by rfl) (by rfl) w.heap.size 1 (by rfl) (d.v.cells) _ (by exact Bk.mid U.out 1 _ rfl) Try.underlying30 (by rfl) (by kernel_rfl) ?_))
        refine (CV.out _).mono ?_; rintro e w2 ⟨rfl, hb⟩
        have U2 := hidB (U.out.on hb)
        have B2 := hidB (Bt.out.trans (hb.mono Bt.out.size))
        clear hb
        go_wp2_with (first | ((with_reducible refine ldId 30 (.tmp 12) ?_); refine wpList_wload_mid 30 (.tmp 12) (by rfl) (by rfl) w.heap.size 5 (by rfl) (d.g.cells) _ (by exact Bk.mid U2.out 5 _ rfl) Try.underlying30 (by rfl) (by kernel_rfl) ?_))
        refine (CG.out _).mono ?_; rintro e w3 ⟨rfl, hb⟩
        have U3 := hidB (U2.out.on hb)
        have B3 := hidB (B2.out.trans (hb.mono B2.out.size))
        clear hb
        go_wp2_with fail
        go_ret
        exact ⟨rfl, B3.out⟩
      · skip
        go_enter Try.func35, Try.ntmps35
        go_upto_region 1 with fail
        generalize (w.alloc (.cells d.cs 32)) = w1 at *
        go_wp2_with (first | ((with_reducible refine ldId 32 (.tmp 1) ?_); refine wpList_load_row (by rfl) 32 (.tmp 1) (by rfl) w.heap.size (by rfl) 32 _ (0, 0) _ (by exact U.out) Try.underlying32 (by rfl) (by exact size_desc) ?_) | ((with_reducible refine wpId ?_); refine wpList_build_to (by rfl) 32 _ (by rfl) DI.zero.cs (by kernel_rfl) ?_) | ((with_reducible refine ldId 30 (.tmp 7) ?_); refine wpList_wload_mid 30 (.tmp 7) (by rfl) (by rfl) w.heap.size 1 (by rfl) (d.v.cells) _ (by exact Bk.mid U.out 1 _ rfl) Try.underlying30 (by rfl) (by kernel_rfl) ?_))
        refine (CV.out _).mono ?_; rintro e w2 ⟨rfl, hb⟩
        have U2 := hidB (U.out.on hb)
        have B2 := hidB (Bt.out.trans (hb.mono Bt.out.size))
        clear hb
        go_wp2_with (first | ((with_reducible refine ldId 30 (.tmp 12) ?_); refine wpList_wload_mid 30 (.tmp 12) (by rfl) (by rfl) w.heap.size 5 (by rfl) (d.g.cells) _ (by exact Bk.mid U2.out 5 _ rfl) Try.underlying30 (by rfl) (by kernel_rfl) ?_))
        refine (CG.out _).mono ?_; rintro e w3 ⟨rfl, hb⟩
        have U3 := hidB (U2.out.on hb)
        have B3 := hidB (B2.out.trans (hb.mono B2.out.size))
        clear hb
        go_wp2_with (first | ((with_reducible refine ldId 30 (.tmp 17) ?_); refine wpList_wload_mid 30 (.tmp 17) (by rfl) (by rfl) w.heap.size 9 (by rfl) (d.t.cells) _ (by exact Bk.mid U3.out 9 _ rfl) Try.underlying30 (by rfl) (by kernel_rfl) ?_))
        refine (CT.out _).mono ?_; rintro e w4 ⟨rfl, hb⟩
        have U4 := hidB (U3.out.on hb)
        have B4 := hidB (B3.out.trans (hb.mono B3.out.size))
        clear hb
        go_wp2_with fail
        go_ret
        exact ⟨rfl, B4.out⟩

end Go.Proofs.Ytlpldhcoplbopaa
