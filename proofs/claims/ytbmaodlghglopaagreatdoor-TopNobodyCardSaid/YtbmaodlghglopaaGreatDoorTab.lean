/-
  Properties: the walks of table.Check, asked, at, Find.
-/
import Derived.Test.YtbmaodlghglopaaGreatDoorMxA
import Derived.Test.YtbmaodlghglopaaGreatDoorMxG
namespace Go.Proofs.YtbmaodlghglopaaGreatDoor
open Go.RowKit

section
variable {P : Program} {ops : Array Oper} {rest : List Oper} {w : World} {a : Act} {Q : Exit → Act → World → Prop}
/-- (A guard for the arms of a walk: a store of this type through these slots alone.) -/
theorem stId (ty : TypeId) (x y : Operand) {dst : Option Tmp} {type : TypeId} {pos : String} {after : Array Edge} {g : Option (Nat × Bool)} (h : wpList P ops Q ({ dst := dst, op := .store ty x y, type := type, pos := pos, after := after, guard := g } :: rest) a w) : wpList P ops Q ({ dst := dst, op := .store ty x y, type := type, pos := pos, after := after, guard := g } :: rest) a w := h
end

/-! ### cells stored into the middle of a block -/
def putAt (cs : Array Value) (o : Nat) : List Value → Array Value
  | [] => cs
  | v :: r => putAt (cs.setIfInBounds o v) (o + 1) r
theorem putAt_toList : ∀ (vs : List Value) (o : Nat) (cs : Array Value), o + vs.length ≤ cs.size → (putAt cs o vs).toList = cs.toList.take o ++ vs ++ cs.toList.drop (o + vs.length)
  | [], o, cs, _ => by simp [putAt]
  | v :: r, o, cs, h => by
    have hl : o < cs.toList.length := by simp at h ⊢; omega
    rw [putAt, putAt_toList r (o + 1) _ (by simp at h ⊢; omega), Array.toList_setIfInBounds, List.drop_set_of_lt (by omega), List.take_succ_eq_append_getElem (by simpa using hl), List.take_set_of_le (Nat.le_refl _)]
    simp
    rw [show o + 1 + r.length = o + (r.length + 1) by omega]
theorem putAt_eq {vs : List Value} {o : Nat} {cs ds : Array Value} (h : o + vs.length ≤ cs.size) (e : cs.toList.take o ++ (vs ++ cs.toList.drop (o + vs.length)) = ds.toList) : putAt cs o vs = ds := by
  apply Array.ext'
  rw [putAt_toList vs o cs h, List.append_assoc]; exact e
theorem Bk.setCells {g : Nat} {t : TypeId} : ∀ (vs : List Value) (o : Nat) {w : World} {cs : Array Value}, Bk w g t cs → Bk (w.setCells g o vs) g t (putAt cs o vs)
  | [], _, _, _, h => h
  | v :: r, o, _, _, h => by rw [World.setCells, putAt]; exact Bk.setCells r (o + 1) (h.set o v)
theorem Bk.setCells_far {b : Nat} {t : TypeId} {cs : Array Value} {g : Nat} (hn : b ≠ g) : ∀ (vs : List Value) (o : Nat) {w : World}, Bk w b t cs → Bk (w.setCells g o vs) b t cs
  | [], _, _, h => h
  | v :: r, o, _, h => by rw [World.setCells]; exact Bk.setCells_far hn r (o + 1) (h.far (p := ⟨g, o, none⟩) hn v)
theorem below_setCells {B : Nat} {w0 : World} {g : Nat} (hn : B ≤ g) : ∀ (vs : List Value) (o : Nat) {w : World}, Below B w0 w → Below B w0 (w.setCells g o vs)
  | [], _, _, h => h
  | v :: r, o, _, h => by rw [World.setCells]; exact below_setCells hn r (o + 1) (h.setCell (p := ⟨g, o, none⟩) hn v)
theorem Bk.there {w : World} {g : Nat} {t : TypeId} {cs : Array Value} (h : Bk w g t cs) (o n : Nat) (hn : o + n ≤ cs.size) : w.there g o n := fun j hj => by
  refine ⟨?_, h.free _⟩
  rw [h.cell, Array.getElem?_eq_getElem (by omega)]
  rfl

theorem Bk.setCells2 {w : World} {g : Nat} {t : TypeId} {cs ds : Array Value} (h : Bk w g t cs) (vs : List Value) (o : Nat) (hs : o + vs.length ≤ cs.size) (e : cs.toList.take o ++ (vs ++ cs.toList.drop (o + vs.length)) = ds.toList) : Bk (w.setCells g o vs) g t ds := by
  rw [← putAt_eq hs e]; exact Bk.setCells vs o h

set_option maxHeartbeats 4000000 in
set_option maxRecDepth 100000 in
theorem tabWhole_any (d : DI) (hd : d.ok) (w : World) : Calls Tryz.prog 73 #[d.a] w fun e w' => e = .returned (.bool d.isW) ∧ Below w.heap.size w w' := by
  have CA := hidB (fun W => complete_any d hd W)
  unfold DI.isW
  clear hd
  generalize hc : d.com = c at *
  clear hc
  have U := hidB (show Bk (w.alloc (.cells d.cs 31)) w.heap.size 31 d.cs from Bk.new w _ _)
  have Bt := hidB (show Below w.heap.size w (w.alloc (.cells d.cs 31)) from box_one w _)
  generalize he : (d.err == 0) = q at *
  have hen : (d.err == 0) = q := he
  go_enter Tryz.func73, Tryz.ntmps73
  go_upto_region 1 with fail
  generalize (w.alloc (.cells d.cs 31)) = w1 at *
  go_wp2_with (first | ((with_reducible refine ldId 31 (.tmp 1) ?_); refine wpList_load_row (by rfl) 31 (.tmp 1) (by rfl) w.heap.size (by rfl) 31 _ (0, 0) _ (by exact U.out) Tryz.underlying31 (by rfl) (by exact size_desc) ?_))
  refine (CA.out _).mono ?_; rintro e w2 ⟨rfl, hb⟩
  have U2 := hidB (U.out.on hb)
  have B2 := hidB (Bt.out.trans (hb.mono Bt.out.size))
  clear hb U Bt
  have hz : w.heap.size ≠ w2.heap.size := Nat.ne_of_lt U2.out.lt
  have U3 := hidB (show Bk (w2.alloc (.cells c.cs 31)) w.heap.size 31 d.cs from U2.out.alloc _)
  have C3 := hidB (show Bk (w2.alloc (.cells c.cs 31)) w2.heap.size 31 c.cs from Bk.new w2 _ _)
  have B3 := hidB (show Below w.heap.size w (w2.alloc (.cells c.cs 31)) from B2.out.alloc B2.out.size _)
  go_upto_region 2 with (first | ((with_reducible refine wpId ?_); refine wpList_store_new (by rfl) 31 (.tmp 3) (.tmp 8) (by rfl) c.cs 31 _ (by rfl) (by rfl) (by exact size_desc) (by rfl) (by exact DI.one _) ?_))
  generalize (w2.alloc (.cells c.cs 31)) = w3 at *
  obtain ⟨x0, _⟩ := Bk.facts16 U3.out
  obtain ⟨y0, _⟩ := Bk.facts16 C3.out
  cases q
  all_goals
    go_wp2_with fail
    go_ret
    exact ⟨ret_bool (by simp), B3.out⟩

theorem run_makeMapK (n : Int) (w : World) : (Instr.makeMap 132 (some (.int .i64 n))).run Tryz.prog w = .ok (.map (some w.heap.size)) (w.alloc (.map #[] 0)) := by
  unfold Instr.makeMap
  simp only [Sem.run_bind, run_underlying under_mapK, Result.andThen_ok, asInt, Sem.run_pure]
  rfl
theorem PI.mem_ok {l : List PI} (h : ∀ p ∈ l, p.d.ok) {k : Nat} (hk : k < l.length) : l[k].d.ok := h _ (List.getElem_mem hk)
theorem PI.one (p : PI) : p.cs.all (·.oneCell') = true := by
  rw [Array.all_eq_true_iff_forall_mem]
  intro u hu
  simp only [PI.cs, List.mem_toArray, List.mem_cons, List.not_mem_nil, or_false] at hu
  rcases hu with rfl | rfl | rfl | rfl | rfl | rfl | rfl | rfl | rfl | rfl | rfl | rfl | rfl | rfl | rfl | rfl | rfl | rfl <;> rfl
theorem tab_end {l : List PI} {k : Nat} (hk : ¬ k < l.length) (h : tabG ((l.take k).map PI.k) (l.drop k) = tabG [] l) : tabG [] l = 0 := by
  rw [List.drop_eq_nil_of_le (by omega)] at h
  rw [← h]; rfl

set_option maxHeartbeats 8000000 in
set_option maxRecDepth 100000 in
theorem tabCheck_any (l : List PI) (hok : ∀ p ∈ l, p.d.ok) (v : Value) (w : World) (hr : RdP l v w) : Calls Tryz.prog 54 #[v] w fun e w' => e = .returned (.int .i64 (tabE l)) ∧ Below w.heap.size w w' := by
  obtain ⟨pa, c, rfl, h1, h2, h3⟩ := hr
  unfold maxLen at h2
  have hlm : l.length ≤ 9223372036854775807 := by omega
  have HC := hidB h3
  have HOK := hidB hok
  clear h3 hok
  by_cases hbig : 1024 < l.length
  · have hbi : (1024 : Int) < (l.length : Int) := by omega
    rw [show tabE l = 4 from if_pos hbig]
    go_enter Tryz.func54, Tryz.ntmps54
    go_wp2_with fail
    go_ret
    exact ⟨rfl, Below.refl _ _⟩
  have hbi : ¬ (1024 : Int) < (l.length : Int) := by omega
  rw [show tabE l = tabG [] l from if_neg hbig]
  have hmm := run_makeMapK (l.length : Int)
  go_enter Tryz.func54, Tryz.ntmps54
  go_wp2_with fail
  clear hmm
  go_loopw [15] (fun s15 wr => ∃ k : Nat, k ≤ l.length ∧ s15 = .int .i64 k ∧ tabG ((l.take k).map PI.k) (l.drop k) = tabG [] l ∧ Seen wr w.heap.size ((l.take k).map PI.k) ∧ Below w.heap.size w wr) (fun i _ => l.length - (intOf i).toNat)
  case atStart => exact ⟨0, by omega, rfl, rfl, seen_new w, box_one w _⟩
  case round =>
    obtain ⟨k, hk, rfl, hg, hs, hb⟩ := hrel
    have Hg := hidB hg
    have SE := hidB hs
    have B := hidB hb
    clear hg hs hb
    have hx2 : (0 : Int) ≤ (k : Int) := by omega
    by_cases hlt : k < l.length
    rotate_left
    · obtain rfl : k = l.length := by omega
      have hx4 : ¬ ((l.length : Int) < (l.length : Int)) := by omega
      have HE := hidB (tab_end hlt Hg.out)
      clear Hg HC hk hlt
      go_wp2_with fail
      go_ret
      exact ⟨by rw [HE.out]; rfl, B.out⟩
    have hx1 : (k : Int) < (l.length : Int) := by omega
    obtain ⟨g, o, rfl, hgl, hcell⟩ := HC.out (by omega)
    have HR := hidB (rangeOn B.out hgl (hcell k hlt))
    have HK := hidB (PI.mem_ok HOK.out hlt)
    have HST := hidB (tabG_step hlt)
    have HST2 := hidB (Hg.out.symm.trans HST.out)
    have HMAP := hidB (show (l.take (k + 1)).map PI.k = (l.take k).map PI.k ++ [(l[k]'hlt).k] by rw [List.take_succ_eq_append_getElem hlt, List.map_append]; rfl)
    clear hcell hgl Hg HST
    generalize hp0 : l[k]'hlt = p0 at *
    clear hp0
    generalize hks : (l.take k).map PI.k = ks at *
    clear hks
    have PX := hidB (show Bk (wr.alloc (.cells p0.cs 91)) wr.heap.size 91 p0.cs from Bk.new wr _ _)
    replace SE := hidB (SE.out.on (box_one wr (.cells p0.cs 91)))
    have hsz := hidB B.out.size
    replace B := hidB (B.out.alloc B.out.size (.cells p0.cs 91))
    go_upto_region 7 with (first | ((with_reducible refine ldId 91 (.tmp 18) ?_); refine wpList_load_mid (by rfl) 91 (.tmp 18) (by rfl) g (o + k * 18) (by rfl) p0.cs.toList _ (by exact HR.out) Tryz.underlying91 (by rfl) (by kernel_rfl) ?_) | ((with_reducible refine wpId ?_); refine wpList_store_new (by rfl) 91 (.tmp 5) (.tmp 19) (by rfl) p0.cs 91 _ (by rfl) (by rfl) (by kernel_rfl) (by rfl) (by exact PI.one _) ?_))
    clear HR
    generalize hW : (wr.alloc (.cells p0.cs 91)) = w2 at *
    clear hW
    generalize hG : wr.heap.size = gp at *
    clear hG
    go_wp2_with (first | ((with_reducible refine ldId 26 (.tmp 20) ?_); refine wpList_load_mid (by rfl) 26 (.tmp 20) (by rfl) (gp) 0 (by rfl) (p0.k.cells) _ (by exact Bk.mid PX.out 0 _ rfl) Tryz.underlying26 (by rfl) (by kernel_rfl) ?_))
    refine (keyCheck_any p0.k _).mono ?_; rintro e w3 ⟨rfl, hb⟩
    replace PX := hidB (PX.out.on hb)
    replace SE := hidB (SE.out.on hb)
    replace B := hidB (B.out.trans (hb.mono B.out.size))
    clear hb
    cases hkk : p0.k.ok
    · rw [show p0.k.err = 9 by unfold KI.err; rw [hkk]; rfl]
      have HKK := hidB hkk
      clear hkk
      have HE : Hid (tabG [] l = 9) := hidB (by rw [HST2.out]; unfold PI.err; rw [HKK.out]; rfl)
      clear HST2
      go_wp2_with fail
      go_ret
      exact ⟨by rw [HE.out]; rfl, B.out⟩
    rw [show p0.k.err = 0 by unfold KI.err; rw [hkk]; rfl]
    have HKK := hidB hkk
    clear hkk
    go_wp2_with (first | ((with_reducible refine ldId 31 (.tmp 26) ?_); refine wpList_load_mid (by rfl) 31 (.tmp 26) (by rfl) (gp) 2 (by rfl) (p0.d.cs.toList) _ (by exact Bk.mid PX.out 2 _ rfl) Tryz.underlying31 (by rfl) (by kernel_rfl) ?_))
    refine (tabWhole_any p0.d HK.out _).mono ?_; rintro e w4 ⟨rfl, hb⟩
    replace PX := hidB (PX.out.on hb)
    replace SE := hidB (SE.out.on hb)
    replace B := hidB (B.out.trans (hb.mono B.out.size))
    clear hb
    cases hw0 : p0.d.isW
    · have HW0 := hidB hw0
      clear hw0
      have HE : Hid (tabG [] l = 90) := hidB (by rw [HST2.out]; unfold PI.err; rw [HKK.out, HW0.out]; rfl)
      clear HST2
      go_wp2_with fail
      go_ret
      exact ⟨by rw [HE.out]; rfl, B.out⟩
    have HW0 := hidB hw0
    clear hw0
    obtain ⟨n, hlk, hn⟩ := seen_lookup SE.out p0.k
    cases ha : ks.any (KI.eq p0.k)
    rotate_left
    · have hn2 : (0 : Int) < n := by rw [ha] at hn; simpa using hn
      have HAA := hidB ha
      clear ha hn
      have HE : Hid (tabG [] l = 100) := hidB (by rw [HST2.out]; unfold PI.err; rw [HKK.out, HW0.out, HAA.out]; rfl)
      clear HST2
      go_wp2_with (first | ((with_reducible refine ldId 26 (.tmp 31) ?_); refine wpList_load_mid (by rfl) 26 (.tmp 31) (by rfl) (gp) 0 (by rfl) (p0.k.cells) _ (by exact Bk.mid PX.out 0 _ rfl) Tryz.underlying26 (by rfl) (by kernel_rfl) ?_))
      go_ret
      exact ⟨by rw [HE.out]; rfl, B.out⟩
    have hn2 : ¬ (0 : Int) < n := by rw [ha] at hn; simpa using hn
    obtain ⟨w5, hup, hs5, hb5⟩ := seen_update SE.out p0.k ((k : Int) + 1) (by omega) ha
    have HAA := hidB ha
    have HS5 := hidB hs5
    have HB5 := hidB (hb5 w.heap.size w (Nat.le_refl _) B.out)
    clear ha hn hs5 hb5
    have HE : Hid (tabG (ks ++ [p0.k]) (l.drop (k + 1)) = tabG [] l) := hidB (by rw [HST2.out, HMAP.out]; unfold PI.err; rw [HKK.out, HW0.out, HAA.out]; rfl)
    clear HST2 SE B HK HW0 HKK
    go_wp2_with (first | ((with_reducible refine ldId 26 (.tmp 31) ?_); refine wpList_load_mid (by rfl) 26 (.tmp 31) (by rfl) (gp) 0 (by rfl) (p0.k.cells) _ (by exact Bk.mid PX.out 0 _ rfl) Tryz.underlying26 (by rfl) (by kernel_rfl) ?_) | ((with_reducible refine ldId 26 (.tmp 36) ?_); refine wpList_load_mid (by rfl) 26 (.tmp 36) (by rfl) (gp) 0 (by rfl) (p0.k.cells) _ (by exact Bk.mid PX.out 0 _ rfl) Tryz.underlying26 (by rfl) (by kernel_rfl) ?_))
    go_roundw
    case rel => exact ⟨k + 1, by omega, by go_num, by rw [HMAP.out]; exact HE.out, by rw [HMAP.out]; exact HS5.out, HB5.out⟩
    case measure => simp [intOf]; omega

def askedE (l : List PI) (k : KI) : Int := if tabE l = 0 then k.err else tabE l
/-- Where a key stands: at its first place, or nowhere. -/
def AtR (l : List PI) (k : KI) (n : Int) : Prop := (n = -1 ∧ findP l k = none) ∨ ∃ i, ∃ h : i < l.length, n = i ∧ findP l k = some l[i]
theorem find_take {l : List PI} {k : KI} {i : Nat} (h : i < l.length) (h0 : findP (l.take i) k = none) : (KI.eq l[i].k k = true → findP l k = some l[i]) ∧ (KI.eq l[i].k k = false → findP (l.take (i + 1)) k = none) := by
  unfold findP at *
  refine ⟨fun he => ?_, fun he => ?_⟩
  · have e : l.find? (fun p => KI.eq p.k k) = (l.take i ++ l.drop i).find? (fun p => KI.eq p.k k) := by rw [List.take_append_drop]
    rw [e, List.find?_append, h0, List.drop_eq_getElem_cons h, List.find?_cons, he]
    simp
  · rw [List.take_succ_eq_append_getElem h, List.find?_append, h0, List.find?_cons, he]; rfl
/-- What Find tells. -/
def findV (l : List PI) (k : KI) : DI × Bool × Int := if askedE l k = 0 then (match findP l k with | some p => (p.d, true, 0) | none => (DI.zero, false, 0)) else (DI.zero, false, askedE l k)
theorem rangeKeep2 {w W : World} {g o : Nat} {p : PI} (h : w.rangeAt g o p.cs.toList) (hb : Below w.heap.size w W) (hg : g < w.heap.size) : W.rangeAt g o p.k.cells := by
  intro j u hu
  refine rangeOn hb hg h j u ?_
  have hj : j < 2 := (List.getElem?_eq_some_iff.1 hu).1
  match j, hj with
  | 0, _ => exact hu
  | 1, _ => exact hu
theorem rangeKeep3 {w W : World} {g o : Nat} {p : PI} (h : w.rangeAt g o p.cs.toList) (hb : Below w.heap.size w W) (hg : g < w.heap.size) : W.rangeAt g (o + 2) p.d.cs.toList := by
  intro j u hu
  rw [Nat.add_assoc]
  refine rangeOn hb hg h (2 + j) u ?_
  rw [Nat.add_comm]
  exact hu
theorem results_row3 {P : Program} {fn : Func} {p u v : Tmp} {ty : TypeId} (h : fn.results = #[.cell p ty, .tmp u, .tmp v]) (tmps : Array Value) (w : World) (g : Nat) (t : TypeId) (cs : Array Value) (fr : Nat × Nat) (d : TypeDesc)
    (hp : tmps.getD p undef = .pointer (some ⟨g, 0, none⟩)) (hg : w.heap[g]? = some (.cells cs t fr))
    (hu : P.underlying ty = some d) (hd : (match d with | .struct _ | .array _ _ => true | _ => false) = true) (hi : (P.info? ty).map (·.size) = some cs.size) :
    (results fn tmps).run P w = .ok (.tuple #[.agg cs, tmps.getD u undef, tmps.getD v undef]) w := by
  have hp' : tmps[p]?.getD undef = .pointer (some ⟨g, 0, none⟩) := by simpa using hp
  simp [results, h, hp', asAddr, run_loadVar_row w g t ty cs fr d hg hu hd hi]

set_option maxHeartbeats 8000000 in
set_option maxRecDepth 100000 in
theorem asked_any (l : List PI) (hok : ∀ p ∈ l, p.d.ok) (k : KI) (v : Value) (w : World) (hr : RdP l v w) : Calls Tryz.prog 35 #[v, k.a] w fun e w' => e = .returned (.int .i64 (askedE l k)) ∧ Below w.heap.size w w' := by
  have TC := hidB (fun W (hb : Below w.heap.size w W) => tabCheck_any l hok v W (hr.on hb))
  clear hok hr
  have X := hidB (show Bk (w.alloc (.cells (k.cells.toArray) 26)) (w.heap.size) 26 (k.cells.toArray) from Bk.new w _ _)
  have B := hidB (show Below w.heap.size w (w.alloc (.cells (k.cells.toArray) 26)) from box_one w _)
  go_enter Tryz.func35, Tryz.ntmps35
  go_upto_region 1 with fail
  generalize hW : (w.alloc (.cells (k.cells.toArray) 26)) = w1 at *
  clear hW
  go_wp2_with fail
  refine (TC.out _ B.out).mono ?_; rintro e w2 ⟨rfl, hb⟩
  replace X := hidB (X.out.on hb)
  replace B := hidB (B.out.trans (hb.mono B.out.size))
  clear hb
  obtain ⟨er, HER⟩ : ∃ er, Hid (tabE l = er) := ⟨_, hidB rfl⟩
  rw [HER.out]
  by_cases he : er = 0
  rotate_left
  · have hne : (er != 0) = true := by rw [bne_iff_ne]; exact he
    have hne2 : (er == 0) = false := by rw [beq_eq_false_iff_ne]; exact he
    have HE := hidB he
    clear he
    go_wp2_with fail
    go_ret
    exact ⟨by rw [show askedE l k = er from by unfold askedE; rw [HER.out, if_neg HE.out]]; rfl, B.out⟩
  subst he
  go_wp2_with (first | ((with_reducible refine ldId 26 (.tmp 3) ?_); refine wpList_load_row (by rfl) 26 (.tmp 3) (by rfl) (w.heap.size) (by rfl) 26 (k.cells.toArray) (0, 0) _ (by exact X.out) Tryz.underlying26 (by rfl) (by kernel_rfl) ?_))
  refine (keyCheck_any k _).mono ?_; rintro e w3 ⟨rfl, hb⟩
  replace B := hidB (B.out.trans (hb.mono B.out.size))
  clear hb
  have HKE : Hid (askedE l k = k.err) := hidB (by unfold askedE; rw [HER.out, if_pos rfl])
  generalize k.err = ke at *
  go_wp2_with fail
  go_ret
  exact ⟨by rw [HKE.out]; rfl, B.out⟩
set_option maxHeartbeats 8000000 in
set_option maxRecDepth 100000 in
theorem at_any (l : List PI) (k : KI) (v : Value) (w : World) (hr : RdP l v w) : Calls Tryz.prog 36 #[v, k.a] w fun e w' => ∃ n : Int, e = .returned (.int .i64 n) ∧ AtR l k n ∧ Below w.heap.size w w' := by
  obtain ⟨pa, c, rfl, h1, h2, h3⟩ := hr
  unfold maxLen at h2
  have hlm : l.length ≤ 9223372036854775807 := by omega
  have HC := hidB h3
  clear h3
  have X := hidB (show Bk (w.alloc (.cells (k.cells.toArray) 26)) (w.heap.size) 26 (k.cells.toArray) from Bk.new w _ _)
  have B := hidB (show Below w.heap.size w (w.alloc (.cells (k.cells.toArray) 26)) from box_one w _)
  go_enter Tryz.func36, Tryz.ntmps36
  go_upto_region 1 with fail
  generalize hW : (w.alloc (.cells (k.cells.toArray) 26)) = w1 at *
  clear hW
  go_wp2_with fail
  go_loopw [8] (fun s8 wr => ∃ i : Nat, i ≤ l.length ∧ s8 = .int .i64 i ∧ findP (l.take i) k = none ∧ Bk wr w.heap.size 26 k.cells.toArray ∧ Below w.heap.size w wr) (fun i _ => l.length - (intOf i).toNat)
  case atStart => exact ⟨0, by omega, rfl, rfl, X.out, B.out⟩
  case round =>
    obtain ⟨i, hi, rfl, hf, hX, hb⟩ := hrel
    have HF := hidB hf
    replace X := hidB hX
    replace B := hidB hb
    clear hf hX hb
    have hx2 : (0 : Int) ≤ (i : Int) := by omega
    by_cases hlt : i < l.length
    rotate_left
    · obtain rfl : i = l.length := by omega
      have hx4 : ¬ ((l.length : Int) < (l.length : Int)) := by omega
      rw [List.take_length] at HF
      clear HC hi hlt
      go_wp2_with fail
      go_ret
      exact ⟨-1, rfl, .inl ⟨rfl, HF.out⟩, B.out⟩
    have hx1 : (i : Int) < (l.length : Int) := by omega
    obtain ⟨g, o, rfl, hgl, hcell⟩ := HC.out (by omega)
    have HR := hidB (hcell i hlt)
    have HGL := hidB hgl
    have HFT := hidB (find_take hlt HF.out)
    have HIL := hidB hlt
    clear hcell hgl HF
    generalize hp0 : l[i]'hlt = p0 at *
    have HP0 := hidB hp0
    clear hp0
    have z1 : Tryz.prog.eqGuardType Tryz.prog.depth 26 = false := by kernel_rfl
    have V1 : ∀ W : World, (Op.equalIn 10000 26 p0.k.a k.a).run Tryz.prog W = .ok (KI.eq p0.k k) W := fun W => equal_key 9998 p0.k k W
    cases he : KI.eq p0.k k
    all_goals
      rw [he] at V1
      have HE := hidB he
      clear he
      go_upto_region 4 with fail
      refine wp_region_noPanic ?_
      refine wp_region_held_drew (S := fun W => Below w.heap.size w W ∧ Bk W w.heap.size 26 k.cells.toArray) (by kernel_rfl) ?_ (fun hHeld => ?_)
      · exact ⟨B.out.drew, X.out.drew⟩
      generalize hWd : wr.drew = wd at *
      clear hWd
      first | (refine wpAnyH_take (i := 0) (v := undef) (by exact gE rfl) (by kernel_rfl) (by kernel_rfl) (by kernel_rfl) (fun _ _ _ h => h) (Or.inr ⟨?_, rfl⟩) (by assumption) ?_; (rfl); try simp only [Act.put, List.setIfInBounds_toArray, List.set_cons_zero, List.set_cons_succ]) | (refine wpAnyH_take (i := 0) (v := ?_) (by exact gE rfl) (by kernel_rfl) (by kernel_rfl) (by kernel_rfl) (fun _ _ _ h => h) (Or.inl ⟨?_, ?_⟩) (by assumption) ?_; rotate_left; (rfl); (focus (intro w hSw; (try dsimp only at hSw); go_simp; try with_reducible rfl)); try simp only [Act.put, List.setIfInBounds_toArray, List.set_cons_zero, List.set_cons_succ])
      first | (refine wpAnyH_take (i := 1) (v := undef) (by exact gE rfl) (by kernel_rfl) (by kernel_rfl) (by kernel_rfl) (fun _ _ _ h => h) (Or.inr ⟨?_, rfl⟩) (by assumption) ?_; (rfl); try simp only [Act.put, List.setIfInBounds_toArray, List.set_cons_zero, List.set_cons_succ]) | (refine wpAnyH_take (i := 1) (v := ?_) (by exact gE rfl) (by kernel_rfl) (by kernel_rfl) (by kernel_rfl) (fun _ _ _ h => h) (Or.inl ⟨?_, ?_⟩) (by assumption) ?_; rotate_left; (rfl); (focus (intro w hSw; (try dsimp only at hSw); go_simp; try with_reducible rfl)); try simp only [Act.put, List.setIfInBounds_toArray, List.set_cons_zero, List.set_cons_succ])
      first | (refine wpAnyH_take (i := 2) (v := undef) (by exact gE rfl) (by kernel_rfl) (by kernel_rfl) (by kernel_rfl) (fun _ _ _ h => h) (Or.inr ⟨?_, rfl⟩) (by assumption) ?_; (rfl); try simp only [Act.put, List.setIfInBounds_toArray, List.set_cons_zero, List.set_cons_succ]) | (refine wpAnyH_take (i := 2) (v := ?_) (by exact gE rfl) (by kernel_rfl) (by kernel_rfl) (by kernel_rfl) (fun _ _ _ h => h) (Or.inl ⟨?_, ?_⟩) (by assumption) ?_; rotate_left; (rfl); (focus (intro w hSw; (try dsimp only at hSw); go_simp; try with_reducible rfl)); try simp only [Act.put, List.setIfInBounds_toArray, List.set_cons_zero, List.set_cons_succ])
      first | (refine wpAnyH_take (i := 3) (v := undef) (by exact gE rfl) (by kernel_rfl) (by kernel_rfl) (by kernel_rfl) (fun _ _ _ h => h) (Or.inr ⟨?_, rfl⟩) (by assumption) ?_; (rfl); try simp only [Act.put, List.setIfInBounds_toArray, List.set_cons_zero, List.set_cons_succ]) | (refine wpAnyH_take (i := 3) (v := ?_) (by exact gE rfl) (by kernel_rfl) (by kernel_rfl) (by kernel_rfl) (fun _ _ _ h => h) (Or.inl ⟨?_, ?_⟩) (by assumption) ?_; rotate_left; (rfl); (focus (intro w hSw; (try dsimp only at hSw); go_simp; try with_reducible rfl)); try simp only [Act.put, List.setIfInBounds_toArray, List.set_cons_zero, List.set_cons_succ])
      (refine wpAnyH_take (i := 4) (v := p0.k.a) (by exact gE rfl) (by kernel_rfl) (by kernel_rfl) (by kernel_rfl) (fun _ _ _ h => h) (yieldsIf_load_mid (by rfl) 26 (.tmp 14) (by rfl) (g) (o + i * 18) (by rfl) (p0.k.cells) _ (fun W hS => rangeKeep2 HR.out hS.1 HGL.out) Tryz.underlying26 (by rfl) (by kernel_rfl)) (by assumption) ?_; try simp only [Act.put, List.setIfInBounds_toArray, List.set_cons_zero, List.set_cons_succ])
      (refine wpAnyH_take (i := 5) (v := k.a) (by exact gE rfl) (by kernel_rfl) (by kernel_rfl) (by kernel_rfl) (fun _ _ _ h => h) (yieldsIf_load_mid (by rfl) 26 (.tmp 3) (by rfl) (w.heap.size) (0) (by rfl) (k.cells) _ (fun W hS => Bk.mid hS.2 0 _ rfl) Tryz.underlying26 (by rfl) (by kernel_rfl)) (by assumption) ?_; try simp only [Act.put, List.setIfInBounds_toArray, List.set_cons_zero, List.set_cons_succ])
      first | (refine wpAnyH_take (i := 6) (v := undef) (by exact gE rfl) (by kernel_rfl) (by kernel_rfl) (by kernel_rfl) (fun _ _ _ h => h) (Or.inr ⟨?_, rfl⟩) (by assumption) ?_; (rfl); try simp only [Act.put, List.setIfInBounds_toArray, List.set_cons_zero, List.set_cons_succ]) | (refine wpAnyH_take (i := 6) (v := ?_) (by exact gE rfl) (by kernel_rfl) (by kernel_rfl) (by kernel_rfl) (fun _ _ _ h => h) (Or.inl ⟨?_, ?_⟩) (by assumption) ?_; rotate_left; (rfl); (focus (intro w hSw; (try dsimp only at hSw); go_simp; try with_reducible rfl)); try simp only [Act.put, List.setIfInBounds_toArray, List.set_cons_zero, List.set_cons_succ])
      refine wpAnyH_done (by kernel_rfl) ?_ _
      refine NoPanic.normal ?_
      replace B := hidB hHeld.1
      replace X := hidB hHeld.2
      first
        | (have HN := hidB (HFT.out.2 HE.out); go_wp2_with fail; go_roundw; (case rel => exact ⟨i + 1, by omega, by go_num, HN.out, X.out, B.out⟩); (case measure => simp [intOf]; omega))
        | (have HN := hidB (HFT.out.1 HE.out); go_wp2_with fail; go_ret; exact ⟨i, rfl, .inr ⟨i, HIL.out, rfl, by rw [HN.out]; exact congrArg some HP0.out.symm⟩, B.out⟩)
set_option maxHeartbeats 8000000 in
set_option maxRecDepth 100000 in
theorem find_any (l : List PI) (hok : ∀ p ∈ l, p.d.ok) (k : KI) (v : Value) (w : World) (hr : RdP l v w) : Calls Tryz.prog 18 #[v, k.a] w fun e w' => e = .returned (.tuple #[(findV l k).1.a, .bool (findV l k).2.1, .int .i64 (findV l k).2.2]) ∧ Below w.heap.size w w' := by
  have TA := hidB (fun W (hb : Below w.heap.size w W) => asked_any l hok k v W (hr.on hb))
  have AT_ := hidB (fun W (hb : Below w.heap.size w W) => at_any l k v W (hr.on hb))
  obtain ⟨pa, c, rfl, h1, h2, h3⟩ := hr
  unfold maxLen at h2
  have hlm : l.length ≤ 9223372036854775807 := by omega
  have HC := hidB h3
  clear h3 hok
  have X := hidB (show Bk ((w.alloc (.cells (k.cells.toArray) 26)).alloc (.cells (#[.int .u8 0, .int .u8 0, .float .f64 0, .string ⟨#[]⟩, .int .i64 0, .int .u8 0, .float .f64 0, .string ⟨#[]⟩, .int .i64 0, .int .u8 0, .float .f64 0, .string ⟨#[]⟩, .int .i64 0, .bool false, .bool false, .bool false]) 31)) (w.heap.size) 26 (k.cells.toArray) from (Bk.new w _ _).alloc _)
  have R := hidB (show Bk ((w.alloc (.cells (k.cells.toArray) 26)).alloc (.cells (#[.int .u8 0, .int .u8 0, .float .f64 0, .string ⟨#[]⟩, .int .i64 0, .int .u8 0, .float .f64 0, .string ⟨#[]⟩, .int .i64 0, .int .u8 0, .float .f64 0, .string ⟨#[]⟩, .int .i64 0, .bool false, .bool false, .bool false]) 31)) (w.heap.size + 1) 31 (DI.zero.cs) from Bk.new2 w _ _ _)
  have B := hidB (show Below w.heap.size w ((w.alloc (.cells (k.cells.toArray) 26)).alloc (.cells (#[.int .u8 0, .int .u8 0, .float .f64 0, .string ⟨#[]⟩, .int .i64 0, .int .u8 0, .float .f64 0, .string ⟨#[]⟩, .int .i64 0, .int .u8 0, .float .f64 0, .string ⟨#[]⟩, .int .i64 0, .bool false, .bool false, .bool false]) 31)) from (box_one w _).alloc (by simp) _)
  go_enter Tryz.func18, Tryz.ntmps18
  go_upto_region 1 with fail
  generalize hW : ((w.alloc (.cells (k.cells.toArray) 26)).alloc (.cells (#[.int .u8 0, .int .u8 0, .float .f64 0, .string ⟨#[]⟩, .int .i64 0, .int .u8 0, .float .f64 0, .string ⟨#[]⟩, .int .i64 0, .int .u8 0, .float .f64 0, .string ⟨#[]⟩, .int .i64 0, .bool false, .bool false, .bool false]) 31)) = w1 at *
  clear hW
  go_wp2_with (first | ((with_reducible refine ldId 26 (.tmp 3) ?_); refine wpList_load_row (by rfl) 26 (.tmp 3) (by rfl) (w.heap.size) (by rfl) 26 (k.cells.toArray) (0, 0) _ (by exact X.out) Tryz.underlying26 (by rfl) (by kernel_rfl) ?_))
  refine (TA.out _ B.out).mono ?_; rintro e w2 ⟨rfl, hb⟩
  replace X := hidB (X.out.on hb)
  replace R := hidB (R.out.on hb)
  replace B := hidB (B.out.trans (hb.mono B.out.size))
  clear hb
  obtain ⟨er, HER⟩ : ∃ er, Hid (askedE l k = er) := ⟨_, hidB rfl⟩
  rw [HER.out]
  by_cases he : er = 0
  rotate_left
  · have hne : (er != 0) = true := by rw [bne_iff_ne]; exact he
    have hne2 : (er == 0) = false := by rw [beq_eq_false_iff_ne]; exact he
    have HV : Hid (findV l k = (DI.zero, false, er)) := hidB (by unfold findV; rw [HER.out, if_neg he])
    clear he
    go_wp2_with (first | ((with_reducible refine wpId ?_); refine wpList_build_to (by rfl) 31 _ (by rfl) (DI.zero.cs) (by kernel_rfl) ?_) | ((with_reducible refine stId 31 (.tmp 4) (.tmp 14) ?_); refine wpList_store_row (by rfl) 31 (.tmp 4) (.tmp 14) (by rfl) (w.heap.size + 1) (DI.zero.cs) (by rfl) (by rfl) 31 (DI.zero.cs) (by exact R.out) (by kernel_rfl) (by rfl) (by exact DI.one _) ?_))
    rw [HV.out]
    exact bodyPost_ret (v := .tuple #[.agg (DI.zero.cs), .bool false, .int .i64 er]) (results_row3 Tryz.results18 _ _ (w.heap.size + 1) 31 (DI.zero.cs) (0, 0) _ rfl (R.out.setRow _) Tryz.underlying31 rfl (by kernel_rfl)) rfl (⟨rfl, below_setRow B.out (Nat.le_succ _) _⟩)
  subst he
  go_wp2_with (first | ((with_reducible refine ldId 26 (.tmp 3) ?_); refine wpList_load_row (by rfl) 26 (.tmp 3) (by rfl) (w.heap.size) (by rfl) 26 (k.cells.toArray) (0, 0) _ (by exact X.out) Tryz.underlying26 (by rfl) (by kernel_rfl) ?_))
  refine (AT_.out _ B.out).mono ?_; rintro e w3 ⟨n, rfl, hat, hb⟩
  replace X := hidB (X.out.on hb)
  replace R := hidB (R.out.on hb)
  replace B := hidB (B.out.trans (hb.mono B.out.size))
  clear hb
  rcases hat with ⟨rfl, hf⟩ | ⟨i, hi, rfl, hf⟩
  · have HV : Hid (findV l k = (DI.zero, false, 0)) := hidB (by unfold findV; rw [HER.out, if_pos rfl, hf])
    clear hf
    go_wp2_with (first | ((with_reducible refine wpId ?_); refine wpList_build_to (by rfl) 31 _ (by rfl) (DI.zero.cs) (by kernel_rfl) ?_) | ((with_reducible refine stId 31 (.tmp 4) (.tmp 26) ?_); refine wpList_store_row (by rfl) 31 (.tmp 4) (.tmp 26) (by rfl) (w.heap.size + 1) (DI.zero.cs) (by rfl) (by rfl) 31 (DI.zero.cs) (by exact R.out) (by kernel_rfl) (by rfl) (by exact DI.one _) ?_))
    rw [HV.out]
    exact bodyPost_ret (v := .tuple #[.agg (DI.zero.cs), .bool false, .int .i64 0]) (results_row3 Tryz.results18 _ _ (w.heap.size + 1) 31 (DI.zero.cs) (0, 0) _ rfl (R.out.setRow _) Tryz.underlying31 rfl (by kernel_rfl)) rfl (⟨rfl, below_setRow B.out (Nat.le_succ _) _⟩)
  · have hx2 : (0 : Int) ≤ (i : Int) := by omega
    have hx1 : (i : Int) < (l.length : Int) := by omega
    obtain ⟨g, o, rfl, hgl, hcell⟩ := HC.out (by omega)
    have HR := hidB (rangeKeep3 (hcell i hi) B.out hgl)
    have HV : Hid (findV l k = ((l[i]'hi).d, true, 0)) := hidB (by unfold findV; rw [HER.out, if_pos rfl, hf])
    clear hcell hgl hf
    generalize (l[i]'hi) = p0 at *
    go_wp2_with (first | ((with_reducible refine ldId 31 (.tmp 24) ?_); refine wpList_load_mid (by rfl) 31 (.tmp 24) (by rfl) g (o + i * 18 + 2) (by rfl) p0.d.cs.toList _ (by exact HR.out) Tryz.underlying31 (by rfl) (by kernel_rfl) ?_) | ((with_reducible refine stId 31 (.tmp 4) (.tmp 25) ?_); refine wpList_store_row (by rfl) 31 (.tmp 4) (.tmp 25) (by rfl) (w.heap.size + 1) (p0.d.cs) (by rfl) (by rfl) 31 (DI.zero.cs) (by exact R.out) (by kernel_rfl) (by rfl) (by exact DI.one _) ?_))
    rw [HV.out]
    exact bodyPost_ret (v := .tuple #[.agg (p0.d.cs), .bool true, .int .i64 0]) (results_row3 Tryz.results18 _ _ (w.heap.size + 1) 31 (p0.d.cs) (0, 0) _ rfl (R.out.setRow _) Tryz.underlying31 rfl (by kernel_rfl)) rfl (⟨rfl, below_setRow B.out (Nat.le_succ _) _⟩)

end Go.Proofs.YtbmaodlghglopaaGreatDoor
