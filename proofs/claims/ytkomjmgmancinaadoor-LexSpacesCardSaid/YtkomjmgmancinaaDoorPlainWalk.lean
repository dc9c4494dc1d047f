/-
  The walks of str.worth, escape and Plain.
-/
import Derived.Test.YtkomjmgmancinaaDoorQuoteWalk
import Derived.Test.YtkomjmgmancinaaDoorLxE
namespace Go.Proofs.YtkomjmgmancinaaDoor
open Go.RowKit

theorem hexv_bd {c : UInt8} {n : Nat} (h : hexv c = some n) : n < 16 := by
  unfold hexv at h; split at h
  · cases h; omega
  split at h
  · cases h; omega
  · cases h

/-- The kinds of sixteens. -/
theorem hex_kinds (c : UInt8) : (48 ≤ c.toNat ∧ c.toNat ≤ 57 ∧ hexv c = some (c.toNat - 48)) ∨ (97 ≤ c.toNat ∧ c.toNat ≤ 102 ∧ hexv c = some (c.toNat - 87)) ∨ ((c.toNat < 48 ∨ (57 < c.toNat ∧ c.toNat < 97) ∨ 102 < c.toNat) ∧ hexv c = none) := by
  unfold hexv
  by_cases h1 : 48 ≤ c.toNat ∧ c.toNat ≤ 57
  · exact Or.inl ⟨h1.1, h1.2, if_pos h1⟩
  · rw [if_neg h1]
    by_cases h2 : 97 ≤ c.toNat ∧ c.toNat ≤ 102
    · exact Or.inr (Or.inl ⟨h2.1, h2.2, if_pos h2⟩)
    · exact Or.inr (Or.inr ⟨by omega, if_neg h2⟩)

def hv (c : UInt8) : Int := match hexv c with | some n => n | none => 0
def hb (c : UInt8) : Bool := (hexv c).isSome

theorem worth_any (c : UInt8) (w : World) : Calls Tryd.prog 101 #[.int .u8 c.toNat] w fun e w' => e = .returned (.tuple #[.int .u8 (hv c), .bool (hb c)]) ∧ w = w' := by
  have h256 := c.toNat_lt
  rcases hex_kinds c with ⟨h1, h2, he⟩ | ⟨h1, h2, he⟩ | ⟨h1, he⟩
  · have e1 : hv c = (c.toNat : Int) - 48 := by unfold hv; rw [he]; simp only; omega
    have e2 : hb c = true := by unfold hb; rw [he]; rfl
    rw [e1, e2]
    clear e1 e2 he
    go_enter Tryd.func101, Tryd.ntmps101
    go_wp2
    go_ret2
    exact ⟨rfl, rfl⟩
  · have e1 : hv c = (c.toNat : Int) - 87 := by unfold hv; rw [he]; simp only; omega
    have e2 : hb c = true := by unfold hb; rw [he]; rfl
    have d1 : decide ((c.toNat : Int) ≤ 57) = false := by rw [decide_eq_false_iff_not]; omega
    rw [e1, e2]
    clear e1 e2 he
    go_enter Tryd.func101, Tryd.ntmps101
    go_wp2
    go_ret2
    exact ⟨congrArg (fun x => Ending.returned (.tuple #[.int .u8 x, .bool true])) (by omega), rfl⟩
  · have e1 : hv c = 0 := by unfold hv; rw [he]
    have e2 : hb c = false := by unfold hb; rw [he]; rfl
    rw [e1, e2]
    clear e1 e2 he
    rcases h1 with h1 | ⟨h1, h2⟩ | h1
    · have d1 : decide (48 ≤ (c.toNat : Int)) = false := by rw [decide_eq_false_iff_not]; omega
      have d2 : decide (97 ≤ (c.toNat : Int)) = false := by rw [decide_eq_false_iff_not]; omega
      go_enter Tryd.func101, Tryd.ntmps101
      go_wp2
      go_ret2
      exact ⟨rfl, rfl⟩
    · have d1 : decide ((c.toNat : Int) ≤ 57) = false := by rw [decide_eq_false_iff_not]; omega
      have d2 : decide (97 ≤ (c.toNat : Int)) = false := by rw [decide_eq_false_iff_not]; omega
      go_enter Tryd.func101, Tryd.ntmps101
      go_wp2
      go_ret2
      exact ⟨rfl, rfl⟩
    · have d1 : decide ((c.toNat : Int) ≤ 57) = false := by rw [decide_eq_false_iff_not]; omega
      have d2 : decide ((c.toNat : Int) ≤ 102) = false := by rw [decide_eq_false_iff_not]; omega
      go_enter Tryd.func101, Tryd.ntmps101
      go_wp2
      go_ret2
      exact ⟨rfl, rfl⟩

/-- What escape answers. -/
def escB (l : List UInt8) : Int := match esc l with | some (b, _) => b.toNat | none => 0
def escN (l : List UInt8) : Int := match esc l with | some (_, n) => n | none => 0

theorem escape_nil (w : World) (t : ByteArray) (ht : t.toList.isEmpty = true) : Calls Tryd.prog 83 #[.string t] w fun e w' => e = .returned (.tuple #[.int .u8 0, .int .i64 0]) ∧ w = w' := by
  go_enter Tryd.func83, Tryd.ntmps83
  go_wp2
  go_ret2
  exact ⟨rfl, rfl⟩

theorem cons_of (t : ByteArray) (h0 : 0 < t.size) : t.data.toList = t[0] :: t.data.toList.tail := by
  have := List.drop_eq_getElem_cons (l := t.data.toList) (i := 0) (by simpa using h0)
  rw [List.drop_zero, ← List.tail_drop, List.drop_zero] at this
  exact this

theorem cons3_of (t : ByteArray) (h0 : 2 < t.size) : ∃ r, t.data.toList = t[0] :: t[1] :: t[2] :: r := by
  have h1 := List.drop_eq_getElem_cons (l := t.data.toList) (i := 0) (by simpa using (by omega : 0 < t.size))
  have h2 := List.drop_eq_getElem_cons (l := t.data.toList) (i := 1) (by simpa using (by omega : 1 < t.size))
  have h3 := List.drop_eq_getElem_cons (l := t.data.toList) (i := 2) (by simpa using h0)
  refine ⟨t.data.toList.drop 3, ?_⟩
  rw [List.drop_zero] at h1
  rw [h1, h2, h3]
  rfl

theorem or4 (a b : Int) (h0 : 0 ≤ a) (h1 : a < 16) (h2 : 0 ≤ b) (h3 : b < 16) : bits .or .u8 (a * 16) b = 16 * a + b := by
  rw [u8_or _ _ (by omega) (by omega) (by omega) (by omega)]
  have e : ((a * 16).toNat ||| b.toNat) = 16 * a.toNat + b.toNat := by
    have := Nat.two_pow_add_eq_or_of_lt (i := 4) (b := b.toNat) (by omega) a.toNat
    rw [show (a * 16).toNat = 2 ^ 4 * a.toNat by omega, ← this]
  rw [e]; omega

def EscOk (l : List UInt8) (w : World) (e : Ending) (w' : World) : Prop := e = .returned (.tuple #[.int .u8 (escB l), .int .i64 (escN l)]) ∧ w = w'

theorem escOk_some {l : List UInt8} {b : UInt8} {n : Nat} (h : esc l = some (b, n)) (w : World) {x y : Int} (hx : x = b.toNat) (hy : y = n) : EscOk l w (.returned (.tuple #[.int .u8 x, .int .i64 y])) w := by
  subst hx; subst hy
  refine ⟨?_, rfl⟩
  simp [escB, escN, h]

theorem escOk_none {l : List UInt8} (h : esc l = none) (w : World) : EscOk l w (.returned (.tuple #[.int .u8 0, .int .i64 0])) w := by
  refine ⟨?_, rfl⟩
  simp [escB, escN, h]

theorem escX_short {l : List UInt8} (h : l.length ≤ 1) : escX l = none := by
  match l, h with
  | [], _ => rfl
  | [_], _ => rfl

theorem tail_len (t : ByteArray) : t.data.toList.tail.length = t.size - 1 := by simp

set_option maxHeartbeats 1000000 in
set_option maxRecDepth 100000 in
theorem escape_cons (w : World) (t : ByteArray) (h0 : 0 < t.size) (hm : t.size ≤ 9223372036854775807) : Calls Tryd.prog 83 #[.string t] w (EscOk t.data.toList w) := by
  have hne : t.toList.isEmpty = false := by
    rw [ByteArray.toList_eq, cons_of t h0]; rfl
  have hl := cons_of t h0
  have h256 := (t[0]).toNat_lt
  have hk : (t[0].toNat = 92 ∨ t[0].toNat = 34 ∨ t[0].toNat = 39) ∨ t[0].toNat = 110 ∨ t[0].toNat = 116 ∨ t[0].toNat = 114 ∨ t[0].toNat = 120 ∨ (t[0].toNat ≠ 92 ∧ t[0].toNat ≠ 34 ∧ t[0].toNat ≠ 39 ∧ t[0].toNat ≠ 110 ∧ t[0].toNat ≠ 116 ∧ t[0].toNat ≠ 114 ∧ t[0].toNat ≠ 120) := by omega
  rcases hk with h | h | h | h | h | ⟨n1, n2, n3, n4, n5, n6, n7⟩
  · have he : esc t.data.toList = some (t[0], 1) := by rw [hl, esc_cons, if_pos h]
    have HE := hidB he
    clear he hl
    rcases h with h | h | h
    all_goals
      go_enter Tryd.func83, Tryd.ntmps83
      go_wp2_with fail
      go_ret2
      exact escOk_some HE.out _ (by omega) rfl
  · have he : esc t.data.toList = some (10, 1) := by rw [hl, esc_cons, if_neg (by omega), if_pos h]
    have HE := hidB he
    clear he hl
    go_enter Tryd.func83, Tryd.ntmps83
    go_wp2_with fail
    go_ret2
    exact escOk_some HE.out _ rfl rfl
  · have he : esc t.data.toList = some (9, 1) := by rw [hl, esc_cons, if_neg (by omega), if_neg (by omega), if_pos h]
    have HE := hidB he
    clear he hl
    go_enter Tryd.func83, Tryd.ntmps83
    go_wp2_with fail
    go_ret2
    exact escOk_some HE.out _ rfl rfl
  · have he : esc t.data.toList = some (13, 1) := by rw [hl, esc_cons, if_neg (by omega), if_neg (by omega), if_neg (by omega), if_pos h]
    have HE := hidB he
    clear he hl
    go_enter Tryd.func83, Tryd.ntmps83
    go_wp2_with fail
    go_ret2
    exact escOk_some HE.out _ rfl rfl
  · by_cases h3 : 2 < t.size
    · obtain ⟨r, hr⟩ := cons3_of t h3
      have hee : esc t.data.toList = match hexv t[1], hexv t[2] with | some x, some y => some (UInt8.ofNat (16 * x + y), 3) | _, _ => none := by
        rw [hr, esc_cons, if_neg (by omega), if_neg (by omega), if_neg (by omega), if_neg (by omega), if_pos h]
        rfl
      clear hl hr
      cases hx : hexv t[1] with
      | none =>
        have he : esc t.data.toList = none := by rw [hee, hx]
        have hb1 : hb t[1] = false := by unfold hb; rw [hx]; rfl
        have HE := hidB he
        have HB := hidB hb1
        clear he hee hx hb1
        go_enter Tryd.func83, Tryd.ntmps83
        go_wp2_with fail
        refine (worth_any t[1] _).mono ?_; rintro e w' ⟨rfl, rfl⟩
        rw [HB.out]
        go_wp2_with fail
        refine (worth_any t[2] _).mono ?_; rintro e w' ⟨rfl, rfl⟩
        go_wp2_with fail
        go_ret2
        exact escOk_none HE.out _
      | some x =>
        have hb1 : hb t[1] = true := by unfold hb; rw [hx]; rfl
        have hv1 : hv t[1] = (x : Int) := by unfold hv; rw [hx]
        have hx16 := hexv_bd hx
        cases hy : hexv t[2] with
        | none =>
          have he : esc t.data.toList = none := by rw [hee, hx, hy]
          have hb2 : hb t[2] = false := by unfold hb; rw [hy]; rfl
          have HE := hidB he
          have HB1 := hidB hb1
          have HB2 := hidB hb2
          clear he hee hx hy hb1 hb2 hv1
          go_enter Tryd.func83, Tryd.ntmps83
          go_wp2_with fail
          refine (worth_any t[1] _).mono ?_; rintro e w' ⟨rfl, rfl⟩
          rw [HB1.out]
          go_wp2_with fail
          refine (worth_any t[2] _).mono ?_; rintro e w' ⟨rfl, rfl⟩
          rw [HB2.out]
          go_wp2_with fail
          go_ret2
          exact escOk_none HE.out _
        | some y =>
          have hb2 : hb t[2] = true := by unfold hb; rw [hy]; rfl
          have hv2 : hv t[2] = (y : Int) := by unfold hv; rw [hy]
          have hy16 := hexv_bd hy
          have he : esc t.data.toList = some (UInt8.ofNat (16 * x + y), 3) := by rw [hee, hx, hy]
          have ho := or4 x y (by omega) (by omega) (by omega) (by omega)
          have HE := hidB he
          have HB1 := hidB hb1
          have HB2 := hidB hb2
          have HV1 := hidB hv1
          have HV2 := hidB hv2
          clear he hee hx hy hb1 hb2 hv1 hv2
          go_enter Tryd.func83, Tryd.ntmps83
          go_wp2_with fail
          refine (worth_any t[1] _).mono ?_; rintro e w' ⟨rfl, rfl⟩
          rw [HB1.out, HV1.out]
          go_wp2_with fail
          refine (worth_any t[2] _).mono ?_; rintro e w' ⟨rfl, rfl⟩
          rw [HB2.out, HV2.out]
          go_wp2_with fail
          go_ret2
          exact escOk_some HE.out _ (by rw [UInt8.toNat_ofNat']; omega) rfl
    · have hle : t.data.toList.tail.length ≤ 1 := by rw [tail_len t]; omega
      have he : esc t.data.toList = none := by
        rw [hl, esc_cons, if_neg (by omega), if_neg (by omega), if_neg (by omega), if_neg (by omega), if_pos h]
        exact escX_short hle
      have HE := hidB he
      clear he hl hle
      go_enter Tryd.func83, Tryd.ntmps83
      go_wp2_with fail
      go_ret2
      exact escOk_none HE.out _
  · have he : esc t.data.toList = none := by
      rw [hl, esc_cons, if_neg (by omega), if_neg (by omega), if_neg (by omega), if_neg (by omega), if_neg (by omega)]
    have HE := hidB he
    clear he hl
    go_enter Tryd.func83, Tryd.ntmps83
    go_wp2_with fail
    go_ret2
    exact escOk_none HE.out _

theorem escape_any (w : World) (t : ByteArray) (hm : t.size ≤ 9223372036854775807) : Calls Tryd.prog 83 #[.string t] w (EscOk t.data.toList w) := by
  by_cases h0 : 0 < t.size
  · exact escape_cons w t h0 hm
  · have hz : t.data.toList = [] := by
      have hl : t.data.toList.length = t.size := by simp
      exact List.eq_nil_of_length_eq_zero (by omega)
    refine (escape_nil w t (by rw [ByteArray.toList_eq, hz]; rfl)).mono ?_
    rintro e w' ⟨rfl, rfl⟩
    rw [hz]
    exact escOk_none rfl _

theorem drop_extract (s : ByteArray) (k : Nat) : (s.extract k s.size).data.toList = s.data.toList.drop k := by
  rw [Lib.extract_data]
  apply List.take_of_length_le
  simp

/-- What Plain answers. -/
def PlainOk (s : ByteArray) (w : World) (e : Ending) (w' : World) : Prop := e = .returned (.tuple #[.string ⟨(plainR s.data.toList).1.toArray⟩, .int .i64 (plainR s.data.toList).2.1, .int .i64 (plainR s.data.toList).2.2]) ∧ Below w.heap.size w w'

theorem plainOk {s : ByteArray} {w w' : World} {l : List UInt8} {p : Nat} {er : Int} (h : plainR s.data.toList = (l, p, er)) {b : ByteArray} (hb : b.data.toList = l) {x y : Int} (hx : x = p) (hy : y = er) (hbel : Below w.heap.size w w') :
    PlainOk s w (.returned (.tuple #[.string b, .int .i64 x, .int .i64 y])) w' := by
  subst hx; subst hy
  refine ⟨?_, hbel⟩
  rw [h]
  have : b = ⟨l.toArray⟩ := WideShapes.bytes_inj (by rw [hb])
  rw [this]

theorem plainR_big {l : List UInt8} (h : 65536 < l.length) : plainR l = ([], 0, 3) := by unfold plainR; rw [if_pos h]
theorem plainR_inl {l : List UInt8} (h : ¬ 65536 < l.length) {i : Nat} (hs : scanAll l = .inl i) : plainR l = ([], i, 5) := by unfold plainR; rw [if_neg h, hs]
theorem plainR_long {l out : List UInt8} (h : ¬ 65536 < l.length) (hs : scanAll l = .inr out) (ho : 4096 < out.length) : plainR l = ([], 0, 20) := by unfold plainR; rw [if_neg h, hs]; simp only; rw [if_pos ho]
theorem plainR_ok {l out : List UInt8} (h : ¬ 65536 < l.length) (hs : scanAll l = .inr out) (ho : ¬ 4096 < out.length) : plainR l = (out, 0, 0) := by unfold plainR; rw [if_neg h, hs]; simp only; rw [if_neg ho]

theorem len_of (s : ByteArray) : s.data.toList.length = s.size := by simp

set_option maxHeartbeats 1000000 in
set_option maxRecDepth 100000 in
theorem plain_any (s : ByteArray) (w : World) (hm : s.size ≤ 9223372036854775807) : Calls Tryd.prog 58 #[.string s] w (PlainOk s w) := by
  have hlen := len_of s
  have Hlen := hidB hlen
  clear hlen
  by_cases hbig : 65536 < s.size
  · go_enter Tryd.func58, Tryd.ntmps58
    go_wp2_with fail
    go_ret3
    exact plainOk (plainR_big (by rw [Hlen.out]; exact hbig)) rfl rfl rfl (Below.refl _ _)
  · have HB0 := hidB (fresh_Bld w)
    go_enter Tryd.func58, Tryd.ntmps58
    go_wp2_with fail
    go_loopw [6] (fun i wr => ∃ (k : Nat) (out : List UInt8), i = .int .i64 k ∧ At s.data.toList k out ∧ Bld w.heap.size w.heap.size out wr ∧ Below w.heap.size w wr) (fun i _ => s.size - (intOf i).toNat)
    case atStart => exact ⟨0, [], rfl, at_0 _, HB0.out, (Below.refl _ _).alloc (Nat.le_refl _) _⟩
    case round =>
      obtain ⟨k, out, rfl, hat, hbl, hb⟩ := hrel
      have hk : k ≤ s.size := by rw [← Hlen.out]; exact hat.1
      have ho : out.length ≤ k := hat.2.1
      have hsz := hb.size
      have HAt := hidB hat
      have HB := hidB hbl
      have Hb := hidB hb
      clear hat hbl hb
      by_cases hlt : k < s.size
      · have h256 := (s[k]).toNat_lt
        have hlt' : k < s.data.toList.length := by rw [Hlen.out]; exact hlt
        by_cases hc : s[k].toNat = 92
        · have Hc := hidB hc
          have hb1 : ((s[k].toNat : Int) != 92) = false := by rw [hc]; rfl
          clear hc
          go_wp2_with fail
          refine (escape_any _ _ (by rw [ByteArray.size_extract]; omega)).mono ?_; rintro e w' ⟨rfl, rfl⟩
          rw [drop_extract]
          cases he : esc (s.data.toList.drop (k + 1)) with
          | none =>
            have e1 : escB (s.data.toList.drop (k + 1)) = 0 := by unfold escB; rw [he]
            have e2 : escN (s.data.toList.drop (k + 1)) = 0 := by unfold escN; rw [he]
            rw [e1, e2]
            have HN := hidB (at_none HAt.out hlt' Hc.out he)
            clear e1 e2 he
            go_wp2_with fail
            go_ret3
            exact plainOk (plainR_inl (by rw [Hlen.out]; exact hbig) HN.out) rfl rfl rfl Hb.out
          | some p =>
            obtain ⟨b, n⟩ := p
            have e1 : escB (s.data.toList.drop (k + 1)) = b.toNat := by unfold escB; rw [he]
            have e2 : escN (s.data.toList.drop (k + 1)) = n := by unfold escN; rw [he]
            have hn := esc_len he
            rw [List.length_drop, Hlen.out] at hn
            obtain ⟨n1, n2⟩ := hn
            have hn0 : ((n : Int) == 0) = false := by rw [beq_eq_false_iff_ne]; omega
            rw [e1, e2]
            have HN := hidB (at_some HAt.out hlt' Hc.out he)
            clear e1 e2 he
            go_wp2_with fail
            refine (writeByte_any w.heap.size w.heap.size out b b.toNat rfl _ HB.out (by omega) (by omega)).mono ?_; rintro e w2 ⟨rfl, hbl, hb⟩
            have H1 := hidB hbl
            have B1 := hidB hb
            clear hbl hb
            go_wp2_with fail
            refine ⟨⟨k + 1 + n, out ++ [b], ?_, HN.out, H1.out, Hb.out.trans B1.out⟩, by simp [intOf]; omega⟩
            exact congrArg (Value.int .i64) (by omega)
        · have hb1 : ((s[k].toNat : Int) != 92) = true := by rw [bne_iff_ne]; omega
          have HN := hidB (at_byte HAt.out hlt' hc)
          clear hc
          go_wp2_with fail
          refine (writeByte_any w.heap.size w.heap.size out s[k] s[k].toNat rfl _ HB.out (by omega) (by omega)).mono ?_; rintro e w2 ⟨rfl, hbl, hb⟩
          have H1 := hidB hbl
          have B1 := hidB hb
          clear hbl hb
          go_wp2_with fail
          refine ⟨⟨k + 1, out ++ [s[k]], by go_num, HN.out, H1.out, Hb.out.trans B1.out⟩, by simp [intOf]; omega⟩
      · obtain rfl : k = s.size := by omega
        have hs : scanAll s.data.toList = .inr out := at_end (by rw [Hlen.out]; exact HAt.out)
        have HS := hidB hs
        clear hs
        go_wp2_with fail
        refine (blen_any w.heap.size w.heap.size out _ HB.out).mono ?_; rintro e w' ⟨rfl, rfl⟩
        by_cases hlong : 4096 < out.length
        · go_wp2_with fail
          go_ret3
          exact plainOk (plainR_long (by rw [Hlen.out]; exact hbig) HS.out hlong) rfl rfl rfl Hb.out
        · go_wp2_with fail
          refine (toString_any w.heap.size w.heap.size _ _ HB.out (by omega)).mono ?_; rintro e w3 ⟨rfl, hb⟩
          have B2 := hidB hb
          clear hb
          go_wp2_with fail
          go_ret3
          exact plainOk (plainR_ok (by rw [Hlen.out]; exact hbig) HS.out hlong) rfl rfl rfl (Hb.out.trans B2.out)

end Go.Proofs.YtkomjmgmancinaaDoor
