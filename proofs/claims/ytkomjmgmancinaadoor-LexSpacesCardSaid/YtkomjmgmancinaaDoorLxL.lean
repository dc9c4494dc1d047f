/-
  The walk of num.Read.
  The last step that all laws of this seat share: a call that answered true, and behind which all old memory is as it was, is what the statement asks.
-/
import Derived.Test.YtkomjmgmancinaaDoorLxK
import Derived.Test.YtkomjmgmancinaaDoorLxJ
import Derived.Deep.DeepCutAuto
import Derived.Test.YtkomjmgmancinaaDoorRows
import Derived.WalkKit
import Derived.WalkLawsBesides
import Derived.ProofKit
import Derived.OpenShut
namespace Go.Proofs.YtkomjmgmancinaaDoor
open Go.RowKit

theorem toList_data (s : ByteArray) : s.toList = s.data.toList := by
  rw [ByteArray.toList_eq]

/-- What the loop of Read knows after k bytes: the number so far, or that it is too great. -/
def RdInv (l : List UInt8) (k : Nat) (W : Nat) (g : Bool) : Prop :=
  (l.take k).all isDig = true ∧ g = decide (9007199254740991 < worth (l.take k)) ∧ W = if g then 9007199254740991 else worth (l.take k)

theorem rd_0 (l : List UInt8) : RdInv l 0 0 false := by
  refine ⟨rfl, ?_, rfl⟩
  rw [List.take_zero]; decide

theorem rd_le {l : List UInt8} {k W : Nat} {g : Bool} (h : RdInv l k W g) : W ≤ 9007199254740991 := by
  obtain ⟨_, h2, h3⟩ := h
  cases g
  · simp only [Bool.false_eq_true, if_false] at h3
    have := h2.symm
    rw [decide_eq_false_iff_not] at this
    omega
  · simp only [if_true] at h3; omega

theorem rd_step {l : List UInt8} {k W : Nat} {g : Bool} (h : RdInv l k W g) (hk : k < l.length) (hd : isDig l[k] = true) :
    RdInv l (k + 1) (if 9007199254740991 < W * 10 + (l[k].toNat - 48) then 9007199254740991 else W * 10 + (l[k].toNat - 48)) (if 9007199254740991 < W * 10 + (l[k].toNat - 48) then true else g) := by
  obtain ⟨h1, h2, h3⟩ := h
  unfold RdInv
  rw [List.take_succ_eq_append_getElem hk, worth_snoc, List.all_append, h1]
  refine ⟨by simp [hd], ?_, ?_⟩
  · cases g
    · simp only [Bool.false_eq_true, if_false] at h3
      subst h3
      rw [Nat.mul_comm]
      split
      · rename_i hc; symm; rw [decide_eq_true_eq]; exact hc
      · rename_i hc; symm; rw [decide_eq_false_iff_not]; exact hc
    · have h4 := of_decide_eq_true h2.symm
      rw [if_pos rfl] at h3
      rw [if_pos (by omega)]
      symm; rw [decide_eq_true_eq]; omega
  · cases g
    · simp only [Bool.false_eq_true, if_false] at h3
      subst h3
      split
      · rfl
      · rw [if_neg (by simp), Nat.mul_comm]
    · rw [if_pos rfl] at h3
      have hc : 9007199254740991 < W * 10 + (l[k].toNat - 48) := by omega
      rw [if_pos hc, if_pos hc, if_pos rfl]

/-- .. and what it answers behind the last one. -/
def endR (m g : Bool) (W : Nat) : Int × Option Int := if g || (m && decide (W = 0)) then (10, some 0) else (0, some (if m then -(W : Int) else (W : Int)))

theorem rd_end {t : List UInt8} {W : Nat} {g m : Bool} (h0 : t ≠ []) (h1 : unsigned t ≠ []) (hm : m = decide (t.head? = some 45)) (h : RdInv (unsigned t) (unsigned t).length W g) : bareR t = endR m g W := by
  obtain ⟨h2, h3, h4⟩ := h
  rw [List.take_length] at h2 h3 h4
  unfold bareR endR
  rw [if_neg h0, if_neg h1, if_neg (by rw [h2]; decide), hm]
  cases g
  · simp only [Bool.false_eq_true, if_false] at h4
    have h5 := of_decide_eq_false h3.symm
    subst h4
    by_cases hc : t.head? = some 45
    · by_cases hz : worth (unsigned t) = 0
      · simp [hc, hz]
      · simp [hc, hz, h5]
    · simp [hc, h5]
  · have h5 := of_decide_eq_true h3.symm
    simp [h5]

theorem rd_no {t : List UInt8} {k : Nat} (h0 : t ≠ []) (hk : k < (unsigned t).length) (hd : isDig (unsigned t)[k] = false) : bareR t = (0, none) := by
  unfold bareR
  have h1 : unsigned t ≠ [] := by intro h; rw [h] at hk; simp at hk
  have h2 : (unsigned t).all isDig = false := by
    rw [List.all_eq_false]
    exact ⟨_, List.getElem_mem hk, by rw [hd]; decide⟩
  rw [if_neg h0, if_neg h1, if_pos h2]

theorem end_stands (m g : Bool) (W : Nat) (h : W ≤ 9007199254740991) (hf : (g || (m && decide (W = 0))) = false) : Stands (floatOfInt .f64 (if m then -(W : Int) else (W : Int))) (endR m g W).2 ∧ (endR m g W).1 = 0 := by
  unfold endR
  rw [hf]
  refine ⟨Fl.is_nearest _ ?_ ?_, rfl⟩ <;> cases m <;> simp <;> omega

set_option maxHeartbeats 2000000 in
set_option maxRecDepth 100000 in
theorem read_any (s : ByteArray) (w : World) (hs : s.size ≤ 5000) :
    Calls Tryd.prog 56 #[.string s] w (Tells (readR s.data.toList) w) := by
  have T := hid (fun W => trim_any s W (by omega))
  have hT := trimS_length s.data.toList blanks
  unfold readR
  generalize Lib.trimS s.data.toList blanks = t at *
  have ht : t.length ≤ 5000 := by have := ba_size s; omega
  clear hT hs
  by_cases h0 : t = []
  · subst h0
    go_enter Tryd.func56, Tryd.ntmps56
    go_wp2_with fail
    refine (T.out _).mono ?_
    rintro e w1 ⟨⟨r, rfl, hr⟩, hb⟩
    have Hb := hid hb
    clear hb
    have hr2 : r.toList.isEmpty = true := by rw [toList_data, hr]; rfl
    clear hr
    go_wp2_with fail
    go_ret2
    exact ⟨⟨0, rfl, Fl.is_0⟩, Hb.out⟩
  have H0 := hid h0
  have hlen : 0 < t.length := List.length_pos_iff.2 h0
  obtain ⟨m, hm⟩ : ∃ m, m = decide (t.head? = some 45) := ⟨_, rfl⟩
  obtain ⟨p, hp⟩ : ∃ p, p = decide (t.head? = some 43) := ⟨_, rfl⟩
  have Hm := hid hm
  have Hp := hid hp
  have hh : t.head? = some (t[0]'hlen) := by rw [List.head?_eq_getElem?, List.getElem?_eq_getElem hlen]
  rw [hh] at hm hp
  clear h0
  go_enter Tryd.func56, Tryd.ntmps56
  go_wp2_with fail
  refine (T.out _).mono ?_
  rintro e w1 ⟨⟨r, rfl, hr⟩, hb⟩
  have Hb := hid hb
  clear hb T
  have hr2 : r.toList.isEmpty = false := by rw [toList_data, hr]; simpa using H0.out
  have hsz : r.size = t.length := by rw [ba_size, hr]
  have hrs : 0 < r.size := by rw [hsz]; exact hlen
  have hrz : r.size ≤ 5000 := by omega
  have e0 := ba_at r t hr 0 hrs hlen
  have f1 : ((r[0].toNat : Int) == 45) = m := by
    rw [hm, e0, Bool.eq_iff_iff, beq_iff_eq, decide_eq_true_eq, Option.some.injEq, ← UInt8.toNat_inj]
    show ((t[0]'_).toNat : Int) = 45 ↔ (t[0]'_).toNat = 45
    omega
  have f2 : ((r[0].toNat : Int) == 43) = p := by
    rw [hp, e0, Bool.eq_iff_iff, beq_iff_eq, decide_eq_true_eq, Option.some.injEq, ← UInt8.toNat_inj]
    show ((t[0]'_).toNat : Int) = 43 ↔ (t[0]'_).toNat = 43
    omega
  have Hr := hid hr
  clear hr hm hp hh e0 hsz
  have hun : (m || p) = true → unsigned t = t.tail := by
    intro h
    unfold unsigned
    rw [if_pos]
    rw [Hm.out, Hp.out] at h
    simpa using h
  have hun2 : (m || p) = false → unsigned t = t := by
    intro h
    unfold unsigned
    rw [if_neg]
    rw [Hm.out, Hp.out] at h
    simpa using h
  have Hun := hid hun
  have Hun2 := hid hun2
  clear hun hun2
  have hex : ∀ z : ByteArray, z = r.extract 1 r.size → z.data.toList = t.tail := by
    intro z hz
    rw [hz, Lib.extract_data, Hr.out, List.drop_one, List.take_of_length_le (by simp; have := ba_size r; rw [Hr.out] at this; omega)]
  have Hex := hid hex
  clear hex
  go_upto_region 5 with fail
  go_cut [4, 22] from 12 to 67 (fun s4 s22 wx => s4 = .bool m ∧ s22 = .bool (m || p) ∧ w1 = wx)
  case first =>
    cases m <;> cases p
    all_goals
      go_wp2_with fail
      go_meet
      case rel => exact ⟨rfl, rfl, rfl⟩
  case rest =>
  obtain ⟨rfl, rfl, rfl⟩ := hcut
  go_upto_if 22 with fail
  go_cut [0] from 8 to 67 (fun s0 wx => (∃ u : ByteArray, s0 = .string u ∧ u.data.toList = unsigned t) ∧ Below w.heap.size w wx)
  case first =>
    cases hmp : (m || p)
    · go_wp2_with fail
      go_meet
      case rel => exact ⟨⟨_, rfl, by rw [Hr.out, Hun2.out hmp]⟩, Hb.out⟩
    · go_wp2_with fail
      go_meet
      case rel => exact ⟨⟨_, rfl, by rw [Hun.out hmp]; exact Hex.out _ rfl⟩, Hb.out⟩
  case rest =>
    obtain ⟨⟨u, rfl, hu⟩, hb2⟩ := hcut
    have HB := hid hb2
    have HU := hid hu
    have hus : u.size ≤ 5000 := by
      have h1 := ba_size u
      rw [hu] at h1
      have h2 : (unsigned t).length ≤ t.length := by unfold unsigned; split <;> simp
      omega
    have hul : u.size = (unsigned t).length := by rw [ba_size, hu]
    have HL := hid hul
    clear hb2 hu hul f1 f2 hr2 Hex Hun Hun2 Hb Hr Hp hrs hrz r p
    by_cases h1 : unsigned t = []
    · have hu2 : u.toList.isEmpty = true := by rw [toList_data, HU.out, h1]; rfl
      have e : bareR t = (0, none) := by unfold bareR; rw [if_neg H0.out, if_pos h1]
      have E := hid e
      clear e h1
      go_wp2_with (go_at_call 82; refine (mnan_any _).mono ?_; rintro e w' ⟨rfl, rfl⟩)
      go_ret2
      rw [E.out]
      exact ⟨⟨9221120237041090561, rfl, nan_word⟩, HB.out⟩
    have H1 := hid h1
    have hu2 : u.toList.isEmpty = false := by rw [toList_data, HU.out]; simpa using h1
    clear h1
    go_wp2_with fail
    go_loop [5, 6, 30] (fun v o i => ∃ (k W : Nat) (g : Bool), i = .int .i64 k ∧ k ≤ u.size ∧ v = .int .i64 W ∧ o = .bool g ∧ RdInv (unsigned t) k W g) (fun _ _ i => u.size - (intOf i).toNat)
    case atStart => exact ⟨0, 0, false, rfl, Nat.zero_le _, rfl, rfl, rd_0 _⟩
    case round =>
      obtain ⟨k, W, g, rfl, hk, rfl, rfl, hi⟩ := hrel
      have hW := rd_le hi
      have Hi := hid hi
      clear hi
      by_cases hlt : k < u.size
      · have hlt2 : k < (unsigned t).length := by rw [← HL.out]; exact hlt
        have e0 := hid (ba_at u (unsigned t) HU.out k hlt hlt2)
        have h256 := (u[k]).toNat_lt
        by_cases hd : isDig (unsigned t)[k] = true
        · have hd2 := hd
          unfold isDig at hd2
          rw [← e0.out] at hd2
          simp only [Bool.and_eq_true, decide_eq_true_eq] at hd2
          obtain ⟨d1, d2⟩ := hd2
          have Hs := hid (rd_step Hi.out hlt2 hd)
          have c1 : (48 : Int) ≤ (u[k].toNat : Int) := by omega
          have c2 : (u[k].toNat : Int) ≤ 57 := by omega
          have eW : ((W * 10 + (u[k].toNat - 48) : Nat) : Int) = (W : Int) * 10 + ((u[k].toNat : Int) - 48) := by omega
          have EW := hid eW
          by_cases hV : (9007199254740991 : Int) < (W : Int) * 10 + ((u[k].toNat : Int) - 48)
          · have hs := Hs.out
            rw [← e0.out, if_pos (by omega), if_pos (by omega)] at hs
            have Hs := hid hs
            clear hs eW hd d1 d2
            go_wp2_with fail
            refine ⟨⟨k + 1, 9007199254740991, true, by go_num, by omega, rfl, rfl, Hs.out⟩, by simp [intOf]; omega⟩
          · have hs := Hs.out
            rw [← e0.out, if_neg (by omega), if_neg (by omega)] at hs
            have Hs := hid hs
            clear hs eW hd d1 d2
            go_wp2_with fail
            refine ⟨⟨k + 1, _, g, by go_num, by omega, congrArg (Value.int .i64) EW.out.symm, rfl, Hs.out⟩, by simp [intOf]; omega⟩
        · have e : bareR t = (0, none) := rd_no H0.out hlt2 (by simpa using hd)
          have E := hid e
          unfold isDig at hd
          rw [← e0.out] at hd
          simp only [Bool.and_eq_true, decide_eq_true_eq] at hd
          have hd : u[k].toNat < 48 ∨ 57 < u[k].toNat := by omega
          rcases hd with hd | hd
          · have c1 : (u[k].toNat : Int) < 48 := by omega
            clear e hd
            go_wp2_with (go_at_call 82; refine (mnan_any _).mono ?_; rintro e w' ⟨rfl, rfl⟩)
            go_ret2
            rw [E.out]
            exact ⟨⟨9221120237041090561, rfl, nan_word⟩, HB.out⟩
          · have c1 : ¬ (u[k].toNat : Int) < 48 := by omega
            have c2 : (57 : Int) < (u[k].toNat : Int) := by omega
            clear e hd
            go_wp2_with (go_at_call 82; refine (mnan_any _).mono ?_; rintro e w' ⟨rfl, rfl⟩)
            go_ret2
            rw [E.out]
            exact ⟨⟨9221120237041090561, rfl, nan_word⟩, HB.out⟩
      · have hi := Hi.out
        rw [show k = (unsigned t).length from by rw [← HL.out]; omega] at hi
        have e := rd_end H0.out H1.out Hm.out hi
        have E := hid e
        have HE := hid (end_stands m g W hW)
        clear e hi
        have z : ((W : Int) == 0) = decide (W = 0) := by rw [Bool.eq_iff_iff, beq_iff_eq, decide_eq_true_eq]; omega
        cases g
        · cases m
          · have q := HE.out rfl
            clear z
            have Q := hid q
            clear q
            go_wp2_with fail
            go_ret2
            rw [E.out]
            exact ⟨⟨_, congrArg (fun q => Ending.returned (.tuple #[.float .f64 _, .int .i64 q])) Q.out.2.symm, Q.out.1⟩, HB.out⟩
          · by_cases hz : W = 0
            · have e2 : endR true false W = (10, some 0) := by unfold endR; rw [if_pos (by simp [hz])]
              have E := hid (E.out.trans e2)
              rw [decide_eq_true hz] at z
              clear e2 hz
              go_wp2_with fail
              go_ret2
              rw [E.out]
              exact ⟨⟨0, rfl, Fl.is_0⟩, HB.out⟩
            · have q := HE.out (by simp [hz])
              rw [decide_eq_false hz] at z
              have Q := hid q
              clear q hz
              go_wp2_with fail
              go_ret2
              rw [E.out]
              exact ⟨⟨_, congrArg (fun q => Ending.returned (.tuple #[.float .f64 _, .int .i64 q])) Q.out.2.symm, Q.out.1⟩, HB.out⟩
        · have e2 : endR m true W = (10, some 0) := by unfold endR; rw [if_pos (by simp)]
          have E := hid (E.out.trans e2)
          clear e2 z
          go_wp2_with fail
          go_ret2
          rw [E.out]
          exact ⟨⟨0, rfl, Fl.is_0⟩, HB.out⟩

end Go.Proofs.YtkomjmgmancinaaDoor

namespace Go.Proofs.YtkomjmgmancinaaDoor
open Go.ChangeShapes Go.WideShapes Go.ChangeAt Go.RowKit

section
variable {H : Type} {enc : TypeId × Value → H} {P : Program}

/-- Each argument reads as it did, below a world that has only grown. -/
theorem trodAll_below (hl : laidOutB P = true) {W W' : World} (hb : Below W.heap.size W W') :
    ∀ {ts : List TypeId} {vs : List Value} {ds : List (DataW H)} {ps : List MemPlace}, (∀ t, t ∈ ts → P.readableRec t = true ∧ t < P.types.size) → (∀ x, x ∈ ps → x.block < W.heap.size) →
      DataW.TrodAll enc P W 0 (fun _ => true) true ts vs ds ps → DataW.TrodAll enc P W' 0 (fun b => decide (b < W.heap.size)) true ts vs ds ps
  | [], [], [], _, _, _, h => h
  | [], [], _ :: _, _, _, _, h => h.elim
  | [], _ :: _, _, _, _, _, h => h.elim
  | _ :: _, [], _, _, _, _, h => h.elim
  | _ :: _, _ :: _, [], _, _, _, h => h.elim
  | t :: ts, v :: vs, d :: ds, ps, hr, hlt, h => by
    obtain ⟨p, q, h1, h2, rfl⟩ := h
    exact ⟨p, q, Below.trod hl (hr t (by simp)).1 (hr t (by simp)).2 h1 hb (fun x hx => hlt x (by simp [hx])), trodAll_below hl hb (fun u hu => hr u (by simp [hu])) (fun x hx => hlt x (by simp [hx])) h2, rfl⟩

/-- What was readable with the marks below the old size alone is readable with all marks. -/
theorem trodAll_all (hl : laidOutB P = true) {W W' : World} (hb : Below W.heap.size W W') :
    ∀ {ts : List TypeId} {vs : List Value} {ds : List (DataW H)} {ps : List MemPlace}, (∀ t, t ∈ ts → P.readableRec t = true ∧ t < P.types.size) → (∀ x, x ∈ ps → x.block < W.heap.size) →
      DataW.TrodAll enc P W 0 (fun _ => true) true ts vs ds ps → DataW.TrodAll enc P W' 0 (fun _ => true) true ts vs ds ps
  | [], [], [], _, _, _, h => h
  | [], [], _ :: _, _, _, _, h => h.elim
  | [], _ :: _, _, _, _, _, h => h.elim
  | _ :: _, [], _, _, _, _, h => h.elim
  | _ :: _, _ :: _, [], _, _, _, h => h.elim
  | t :: ts, v :: vs, d :: ds, ps, hr, hlt, h => by
    obtain ⟨p, q, h1, h2, rfl⟩ := h
    exact ⟨p, q, WideElems.Trod_stays hl (hr t (by simp)).1 (hr t (by simp)).2 h1 (fun x hx => hb.same (hlt x (by simp [hx]))) (fun _ _ => rfl), trodAll_all hl hb (fun u hu => hr u (by simp [hu])) (fun x hx => hlt x (by simp [hx])) h2, rfl⟩

theorem law_post {f : Func} {s : ChangeSpec} {apart fresh handsOn again : Bool} {W W' : World} {args : Array Value} {ds gs : List (DataW H)} {before : List MemPlace} {tb : TypeId}
    (hl : laidOutB P = true) (hread : ∀ t, t ∈ f.params.toList → P.readableRec t = true ∧ t < P.types.size)
    (hv : s.vars = []) (hr : f.resultTypes = #[tb]) (htb : P.underlying tb = some .bool)
    (hW : DataW.Whole enc P f.params.toList s.vars apart W args.toList ds gs before)
    (hres : (s.fn H (ds ++ gs)).results = [.lit (.bool true)]) (hargs : (s.fn H (ds ++ gs)).args = ds) (hvars : (s.fn H (ds ++ gs)).vars = [])
    (hb : Below W.heap.size W W') :
    s.post enc P f apart fresh handsOn again W args (.bool true) W' := by
  have hlt : ∀ p ∈ before, p.block < W.heap.size := fun p hp => hW.lt p hp
  have hW0 := hW
  obtain ⟨p, q, hA, hV, rfl, hfz, hnd⟩ := hW
  rw [hv] at hV
  obtain ⟨rfl, rfl⟩ := trodVars_none hV
  simp only [List.append_nil] at *
  have hres1 : ∀ (b : Nat) (sp : Nat → Bool) (hd : Bool), DataW.TrodAll enc P W' b sp hd f.resultTypes.toList ((Value.bool true).resultList f.resultTypes.size) [.lit (.bool true)] [] := by
    intro b sp hd
    rw [hr]
    exact trodAll_mk1 (shut_bool htb true)
  refine ⟨ds, [], p, [], p, [], hW0, ?_, ?_, ?_, World.keptBut_mono (fun x hx => ⟨hx, Or.inr (Or.inl hx)⟩) (hb.frame (· ∈ p)), fun _ => ?_⟩
  · rw [List.append_nil, hres]; exact hres1 _ _ _
  · rw [List.append_nil, hargs]; exact trodAll_below hl hb hread hlt hA
  · rw [List.append_nil, hvars, hv]; rfl
  · refine ⟨?_, .lit (.bool true) :: ds, [], [] ++ p, ⟨[] ++ p, [], trodAll_append (trodAll_all hl hb hread hlt hA) (hres1 _ _ _), ?_, by simp, ?_, ?_⟩, ?_⟩
    · exact ok_one hr rfl (okWide_bool_mk htb true)
    · rw [hv]; rfl
    · intro b off hp
      have hp' : MemPlace.cell b off ∈ p := by simpa using hp
      rw [hb.frozen (p := ⟨b, off, none⟩) (hlt _ hp')]
      exact hfz b off hp'
    · intro ha; simpa using hnd ha
    · intro x hx _; simpa using hx
end

/-- Two steps that only make memory. -/
theorem grow {w w1 w2 : World} (h : Below w.heap.size w w1) (k : Below w1.heap.size w1 w2) : Below w.heap.size w w2 := h.trans (k.mono h.size)

end Go.Proofs.YtkomjmgmancinaaDoor
