/-
  The walk of the reference's Plain.
-/
import Derived.Test.YtkomjmgmancinaaDoorPlainWalk
import Derived.Lib.BufferRead
import Derived.IntWalk
import Derived.Deep.QuietTactic
import Derived.BigQuiet
namespace Go.Proofs.YtkomjmgmancinaaDoor
open Go.RowKit

def hi (c : UInt8) : Int := match hexv c with | some n => n | none => -1

theorem refSixteen_any (c : UInt8) (w : World) : Calls Tryd.prog 86 #[.int .u8 c.toNat] w fun e w' => e = .returned (.int .i64 (hi c)) ∧ w' = w := by
  have h256 := c.toNat_lt
  rcases hex_kinds c with ⟨h1, h2, he⟩ | ⟨h1, h2, he⟩ | ⟨h1, he⟩
  · have e1 : hi c = (c.toNat : Int) - 48 := by unfold hi; rw [he]; simp only; omega
    rw [e1]
    clear e1 he
    go_enter Tryd.func86, Tryd.ntmps86
    go_wp2
    go_ret
    exact ⟨rfl, rfl⟩
  · have e1 : hi c = (c.toNat : Int) - 87 := by unfold hi; rw [he]; simp only; omega
    have d1 : decide ((c.toNat : Int) ≤ 57) = false := by rw [decide_eq_false_iff_not]; omega
    rw [e1]
    clear e1 he
    go_enter Tryd.func86, Tryd.ntmps86
    go_wp2
    go_ret
    exact ⟨congrArg (fun x => Ending.returned (.int .i64 x)) (by omega), rfl⟩
  · have e1 : hi c = -1 := by unfold hi; rw [he]
    rw [e1]
    clear e1 he
    rcases h1 with h1 | ⟨h1, h2⟩ | h1
    · have d1 : decide (48 ≤ (c.toNat : Int)) = false := by rw [decide_eq_false_iff_not]; omega
      have d2 : decide (97 ≤ (c.toNat : Int)) = false := by rw [decide_eq_false_iff_not]; omega
      go_enter Tryd.func86, Tryd.ntmps86
      go_wp2
      go_ret
      exact ⟨rfl, rfl⟩
    · have d1 : decide ((c.toNat : Int) ≤ 57) = false := by rw [decide_eq_false_iff_not]; omega
      have d2 : decide (97 ≤ (c.toNat : Int)) = false := by rw [decide_eq_false_iff_not]; omega
      go_enter Tryd.func86, Tryd.ntmps86
      go_wp2
      go_ret
      exact ⟨rfl, rfl⟩
    · have d1 : decide ((c.toNat : Int) ≤ 57) = false := by rw [decide_eq_false_iff_not]; omega
      have d2 : decide ((c.toNat : Int) ≤ 102) = false := by rw [decide_eq_false_iff_not]; omega
      go_enter Tryd.func86, Tryd.ntmps86
      go_wp2
      go_ret
      exact ⟨rfl, rfl⟩

theorem drop1 (s : ByteArray) (k : Nat) (h : k < s.size) : s.data.toList.drop k = s[k] :: s.data.toList.drop (k + 1) :=
  List.drop_eq_getElem_cons (by simpa using h)

theorem below_drewN {B : Nat} {a w : World} (h : Below B a w) (q : Nat) : Below B a (w.drewN q) := ⟨h.os, h.tape, h.output, h.size, h.block⟩

theorem own_drewN {w : World} {base : Nat} {e : TypeId} {size : Nat} {v : Value} {n : Nat} {xs : List Value} (h : w.ownsRow base e size v n xs) (q : Nat) : (w.drewN q).ownsRow base e size v n xs := h

set_option maxHeartbeats 4000000 in
set_option maxRecDepth 100000 in
theorem refPlain_any (s : ByteArray) (w : World) (hm : s.size ≤ 9223372036854775807) : Calls Tryd.prog 64 #[.string s] w (PlainOk s w) := by
  have hlen := len_of s
  have Hlen := hidB hlen
  clear hlen
  by_cases hbig : 65536 < s.size
  · go_enter Tryd.func64, Tryd.ntmps64
    go_wp2_with fail
    go_ret3
    exact plainOk (plainR_big (by rw [Hlen.out]; exact hbig)) rfl rfl rfl (Below.refl _ _)
  · obtain ⟨i0, hii, hz0, hz1, hz2⟩ := info_partsB info_byte
    go_enter Tryd.func64, Tryd.ntmps64
    go_wp2_with fail
    go_loopw [5, 6] (fun v i wr => ∃ (k : Nat) (out : List UInt8), i = .int .i64 k ∧ At s.data.toList k out ∧ wr.ownsRow w.heap.size 5 1 v out.length (Lib.byteCells out) ∧ Below w.heap.size w wr) (fun _ i _ => s.size - (intOf i).toNat)
    case atStart => exact ⟨0, [], rfl, at_0 _, World.ownsRow_nil _ _ _ _, Below.refl _ _⟩
    case round =>
      obtain ⟨k, out, rfl, hat, hown, hb⟩ := hrel
      have hk : k ≤ s.size := by rw [← Hlen.out]; exact hat.1
      have ho : out.length ≤ k := hat.2.1
      have hsz := hb.size
      have HAt := hidB hat
      have Hown := hidB hown
      have Hb := hidB hb
      clear hat hown hb
      by_cases hlt : k < s.size
      · have h256 := (s[k]).toNat_lt
        have hlt' : k < s.data.toList.length := by rw [Hlen.out]; exact hlt
        by_cases hc : s[k].toNat = 92
        · have Hc := hidB hc
          have hb1 : ((s[k].toNat : Int) != 92) = false := by rw [hc]; rfl
          clear hc
          by_cases hk1 : k + 1 < s.size
          · have hq1 : ((k : Int) + 1 == (s.size : Int)) = false := by rw [beq_eq_false_iff_ne]; omega
            have d1 := hidB (drop1 s (k + 1) hk1)
            have h257 := (s[k + 1]).toNat_lt
            have hkd : (s[k + 1].toNat = 92 ∨ s[k + 1].toNat = 34 ∨ s[k + 1].toNat = 39) ∨ s[k + 1].toNat = 110 ∨ s[k + 1].toNat = 116 ∨ s[k + 1].toNat = 114 ∨ s[k + 1].toNat = 120 ∨ (s[k + 1].toNat ≠ 92 ∧ s[k + 1].toNat ≠ 34 ∧ s[k + 1].toNat ≠ 39 ∧ s[k + 1].toNat ≠ 110 ∧ s[k + 1].toNat ≠ 116 ∧ s[k + 1].toNat ≠ 114 ∧ s[k + 1].toNat ≠ 120) := by omega
            rcases hkd with h | h | h | h | h | ⟨n1, n2, n3, n4, n5, n6, n7⟩
            · have he : esc (s.data.toList.drop (k + 1)) = some (s[k + 1], 1) := by rw [d1.out, esc_cons, if_pos h]
              have HN := hidB (at_some HAt.out hlt' Hc.out he)
              clear he
              rcases h with h | h | h
              · have hx : s[k + 1] = 92 := UInt8.toNat_inj.1 h
                rw [hx] at HN
                clear hx
                go_wp2_with (at_builtin; refine wpList_append_own _ rfl _ _ 41 rfl w.heap.size 5 i0 (.int .u8 0) 1 1 Tryd.underlying41 hii hz0 hz1 hz2 rfl (by decide) _ _ _ rfl ((Hown.out).alloc _) ⟨(wr).heap.size, 0, none⟩ 1 1 [.int .u8 92] rfl rfl ?c1 ?c2 ?c3 ?c4 ?c5 ?_)
                case c1 => exact cell_one_new _ _ _
                case c2 => intro u hu; simp at hu; subst hu; rfl
                case c3 => unfold maxLen; omega
                case c4 => omega
                case c5 => simp; omega
                intro v' w4 hown' hgrow _
                have hown2 : w4.ownsRow w.heap.size 5 1 v' (out ++ [(92 : UInt8)]).length (Lib.byteCells (out ++ [(92 : UInt8)])) := by
                  have e : Lib.byteCells (out ++ [(92 : UInt8)]) = Lib.byteCells out ++ [.int .u8 92] := by simp [Lib.byteCells]
                  rw [e]; simpa using hown'
                have hbel2 : Below w.heap.size w w4 := ((Hb.out).alloc (show w.heap.size ≤ (wr).heap.size from hsz) _).grown hgrow (by have h9 : w.heap.size ≤ (wr).heap.size := hsz; simp; omega) (fun j hj => ((Hown.out).lt j hj).1)
                have Hown2 := hidB hown2
                have Hbel2 := hidB hbel2
                clear hown' hown2 hbel2 hgrow
                go_wp2_with fail
                refine ⟨⟨k + 1 + 1, out ++ [(92 : UInt8)], ?_, HN.out, Hown2.out, Hbel2.out⟩, by simp [intOf]; omega⟩
                exact congrArg (Value.int .i64) (by omega)
              · have hx : s[k + 1] = 34 := UInt8.toNat_inj.1 h
                rw [hx] at HN
                clear hx
                go_wp2_with (at_builtin; refine wpList_append_own _ rfl _ _ 41 rfl w.heap.size 5 i0 (.int .u8 0) 1 1 Tryd.underlying41 hii hz0 hz1 hz2 rfl (by decide) _ _ _ rfl ((Hown.out).alloc _) ⟨(wr).heap.size, 0, none⟩ 1 1 [.int .u8 34] rfl rfl ?c1 ?c2 ?c3 ?c4 ?c5 ?_)
                case c1 => exact cell_one_new _ _ _
                case c2 => intro u hu; simp at hu; subst hu; rfl
                case c3 => unfold maxLen; omega
                case c4 => omega
                case c5 => simp; omega
                intro v' w4 hown' hgrow _
                have hown2 : w4.ownsRow w.heap.size 5 1 v' (out ++ [(34 : UInt8)]).length (Lib.byteCells (out ++ [(34 : UInt8)])) := by
                  have e : Lib.byteCells (out ++ [(34 : UInt8)]) = Lib.byteCells out ++ [.int .u8 34] := by simp [Lib.byteCells]
                  rw [e]; simpa using hown'
                have hbel2 : Below w.heap.size w w4 := ((Hb.out).alloc (show w.heap.size ≤ (wr).heap.size from hsz) _).grown hgrow (by have h9 : w.heap.size ≤ (wr).heap.size := hsz; simp; omega) (fun j hj => ((Hown.out).lt j hj).1)
                have Hown2 := hidB hown2
                have Hbel2 := hidB hbel2
                clear hown' hown2 hbel2 hgrow
                go_wp2_with fail
                refine ⟨⟨k + 1 + 1, out ++ [(34 : UInt8)], ?_, HN.out, Hown2.out, Hbel2.out⟩, by simp [intOf]; omega⟩
                exact congrArg (Value.int .i64) (by omega)
              · have hx : s[k + 1] = 39 := UInt8.toNat_inj.1 h
                rw [hx] at HN
                clear hx
                go_wp2_with (at_builtin; refine wpList_append_own _ rfl _ _ 41 rfl w.heap.size 5 i0 (.int .u8 0) 1 1 Tryd.underlying41 hii hz0 hz1 hz2 rfl (by decide) _ _ _ rfl ((Hown.out).alloc _) ⟨(wr).heap.size, 0, none⟩ 1 1 [.int .u8 39] rfl rfl ?c1 ?c2 ?c3 ?c4 ?c5 ?_)
                case c1 => exact cell_one_new _ _ _
                case c2 => intro u hu; simp at hu; subst hu; rfl
                case c3 => unfold maxLen; omega
                case c4 => omega
                case c5 => simp; omega
                intro v' w4 hown' hgrow _
                have hown2 : w4.ownsRow w.heap.size 5 1 v' (out ++ [(39 : UInt8)]).length (Lib.byteCells (out ++ [(39 : UInt8)])) := by
                  have e : Lib.byteCells (out ++ [(39 : UInt8)]) = Lib.byteCells out ++ [.int .u8 39] := by simp [Lib.byteCells]
                  rw [e]; simpa using hown'
                have hbel2 : Below w.heap.size w w4 := ((Hb.out).alloc (show w.heap.size ≤ (wr).heap.size from hsz) _).grown hgrow (by have h9 : w.heap.size ≤ (wr).heap.size := hsz; simp; omega) (fun j hj => ((Hown.out).lt j hj).1)
                have Hown2 := hidB hown2
                have Hbel2 := hidB hbel2
                clear hown' hown2 hbel2 hgrow
                go_wp2_with fail
                refine ⟨⟨k + 1 + 1, out ++ [(39 : UInt8)], ?_, HN.out, Hown2.out, Hbel2.out⟩, by simp [intOf]; omega⟩
                exact congrArg (Value.int .i64) (by omega)
            · have he : esc (s.data.toList.drop (k + 1)) = some (10, 1) := by rw [d1.out, esc_cons, if_neg (by omega), if_pos h]
              have HN := hidB (at_some HAt.out hlt' Hc.out he)
              clear he
              go_wp2_with (at_builtin; refine wpList_append_own _ rfl _ _ 41 rfl w.heap.size 5 i0 (.int .u8 0) 1 1 Tryd.underlying41 hii hz0 hz1 hz2 rfl (by decide) _ _ _ rfl ((Hown.out).alloc _) ⟨(wr).heap.size, 0, none⟩ 1 1 [.int .u8 10] rfl rfl ?c1 ?c2 ?c3 ?c4 ?c5 ?_)
              case c1 => exact cell_one_new _ _ _
              case c2 => intro u hu; simp at hu; subst hu; rfl
              case c3 => unfold maxLen; omega
              case c4 => omega
              case c5 => simp; omega
              intro v' w4 hown' hgrow _
              have hown2 : w4.ownsRow w.heap.size 5 1 v' (out ++ [(10 : UInt8)]).length (Lib.byteCells (out ++ [(10 : UInt8)])) := by
                have e : Lib.byteCells (out ++ [(10 : UInt8)]) = Lib.byteCells out ++ [.int .u8 10] := by simp [Lib.byteCells]
                rw [e]; simpa using hown'
              have hbel2 : Below w.heap.size w w4 := ((Hb.out).alloc (show w.heap.size ≤ (wr).heap.size from hsz) _).grown hgrow (by have h9 : w.heap.size ≤ (wr).heap.size := hsz; simp; omega) (fun j hj => ((Hown.out).lt j hj).1)
              have Hown2 := hidB hown2
              have Hbel2 := hidB hbel2
              clear hown' hown2 hbel2 hgrow
              go_wp2_with fail
              refine ⟨⟨k + 1 + 1, out ++ [(10 : UInt8)], ?_, HN.out, Hown2.out, Hbel2.out⟩, by simp [intOf]; omega⟩
              exact congrArg (Value.int .i64) (by omega)
            · have he : esc (s.data.toList.drop (k + 1)) = some (9, 1) := by rw [d1.out, esc_cons, if_neg (by omega), if_neg (by omega), if_pos h]
              have HN := hidB (at_some HAt.out hlt' Hc.out he)
              clear he
              go_wp2_with (at_builtin; refine wpList_append_own _ rfl _ _ 41 rfl w.heap.size 5 i0 (.int .u8 0) 1 1 Tryd.underlying41 hii hz0 hz1 hz2 rfl (by decide) _ _ _ rfl ((Hown.out).alloc _) ⟨(wr).heap.size, 0, none⟩ 1 1 [.int .u8 9] rfl rfl ?c1 ?c2 ?c3 ?c4 ?c5 ?_)
              case c1 => exact cell_one_new _ _ _
              case c2 => intro u hu; simp at hu; subst hu; rfl
              case c3 => unfold maxLen; omega
              case c4 => omega
              case c5 => simp; omega
              intro v' w4 hown' hgrow _
              have hown2 : w4.ownsRow w.heap.size 5 1 v' (out ++ [(9 : UInt8)]).length (Lib.byteCells (out ++ [(9 : UInt8)])) := by
                have e : Lib.byteCells (out ++ [(9 : UInt8)]) = Lib.byteCells out ++ [.int .u8 9] := by simp [Lib.byteCells]
                rw [e]; simpa using hown'
              have hbel2 : Below w.heap.size w w4 := ((Hb.out).alloc (show w.heap.size ≤ (wr).heap.size from hsz) _).grown hgrow (by have h9 : w.heap.size ≤ (wr).heap.size := hsz; simp; omega) (fun j hj => ((Hown.out).lt j hj).1)
              have Hown2 := hidB hown2
              have Hbel2 := hidB hbel2
              clear hown' hown2 hbel2 hgrow
              go_wp2_with fail
              refine ⟨⟨k + 1 + 1, out ++ [(9 : UInt8)], ?_, HN.out, Hown2.out, Hbel2.out⟩, by simp [intOf]; omega⟩
              exact congrArg (Value.int .i64) (by omega)
            · have he : esc (s.data.toList.drop (k + 1)) = some (13, 1) := by rw [d1.out, esc_cons, if_neg (by omega), if_neg (by omega), if_neg (by omega), if_pos h]
              have HN := hidB (at_some HAt.out hlt' Hc.out he)
              clear he
              go_wp2_with (at_builtin; refine wpList_append_own _ rfl _ _ 41 rfl w.heap.size 5 i0 (.int .u8 0) 1 1 Tryd.underlying41 hii hz0 hz1 hz2 rfl (by decide) _ _ _ rfl ((Hown.out).alloc _) ⟨(wr).heap.size, 0, none⟩ 1 1 [.int .u8 13] rfl rfl ?c1 ?c2 ?c3 ?c4 ?c5 ?_)
              case c1 => exact cell_one_new _ _ _
              case c2 => intro u hu; simp at hu; subst hu; rfl
              case c3 => unfold maxLen; omega
              case c4 => omega
              case c5 => simp; omega
              intro v' w4 hown' hgrow _
              have hown2 : w4.ownsRow w.heap.size 5 1 v' (out ++ [(13 : UInt8)]).length (Lib.byteCells (out ++ [(13 : UInt8)])) := by
                have e : Lib.byteCells (out ++ [(13 : UInt8)]) = Lib.byteCells out ++ [.int .u8 13] := by simp [Lib.byteCells]
                rw [e]; simpa using hown'
              have hbel2 : Below w.heap.size w w4 := ((Hb.out).alloc (show w.heap.size ≤ (wr).heap.size from hsz) _).grown hgrow (by have h9 : w.heap.size ≤ (wr).heap.size := hsz; simp; omega) (fun j hj => ((Hown.out).lt j hj).1)
              have Hown2 := hidB hown2
              have Hbel2 := hidB hbel2
              clear hown' hown2 hbel2 hgrow
              go_wp2_with fail
              refine ⟨⟨k + 1 + 1, out ++ [(13 : UInt8)], ?_, HN.out, Hown2.out, Hbel2.out⟩, by simp [intOf]; omega⟩
              exact congrArg (Value.int .i64) (by omega)
            · have hee : esc (s.data.toList.drop (k + 1)) = escX (s.data.toList.drop (k + 2)) := by rw [d1.out, esc_cons, if_neg (by omega), if_neg (by omega), if_neg (by omega), if_neg (by omega), if_pos h]
              by_cases hk3 : k + 3 < s.size
              · have d2 := drop1 s (k + 2) (by omega)
                have d3 := drop1 s (k + 3) hk3
                have hq3 : decide ((s.size : Int) ≤ (k : Int) + 3) = false := by rw [decide_eq_false_iff_not]; omega
                cases hx : hexv s[k + 2] with
                | none =>
                  have he : esc (s.data.toList.drop (k + 1)) = none := by rw [hee, d2, d3, escX, hx]
                  have hv1 : hi s[k + 2] = -1 := by unfold hi; rw [hx]
                  have HN := hidB (at_none HAt.out hlt' Hc.out he)
                  have HV1 := hidB hv1
                  clear he hee hx hv1 d2 d3
                  go_wp2_with fail
                  refine (refSixteen_any s[k + 2] _).mono ?_; rintro e w' ⟨rfl, rfl⟩
                  rw [HV1.out]
                  go_wp2_with fail
                  go_ret3
                  exact plainOk (plainR_inl (by rw [Hlen.out]; exact hbig) HN.out) rfl rfl rfl Hb.out
                | some x =>
                  have hv1 : hi s[k + 2] = (x : Int) := by unfold hi; rw [hx]
                  have hx16 := hexv_bd hx
                  cases hy : hexv s[k + 3] with
                  | none =>
                    have he : esc (s.data.toList.drop (k + 1)) = none := by rw [hee, d2, d3, escX, hx, hy]
                    have hv2 : hi s[k + 3] = -1 := by unfold hi; rw [hy]
                    have HN := hidB (at_none HAt.out hlt' Hc.out he)
                    have HV1 := hidB hv1
                    have HV2 := hidB hv2
                    clear he hee hx hy hv1 hv2 d2 d3
                    go_wp2_with fail
                    refine (refSixteen_any s[k + 2] _).mono ?_; rintro e w' ⟨rfl, rfl⟩
                    rw [HV1.out]
                    go_wp2_with fail
                    refine (refSixteen_any s[k + 3] _).mono ?_; rintro e w' ⟨rfl, rfl⟩
                    rw [HV2.out]
                    go_wp2_with fail
                    go_ret3
                    exact plainOk (plainR_inl (by rw [Hlen.out]; exact hbig) HN.out) rfl rfl rfl Hb.out
                  | some y =>
                    have hv2 : hi s[k + 3] = (y : Int) := by unfold hi; rw [hy]
                    have hy16 := hexv_bd hy
                    obtain ⟨z, hz, hzn⟩ : ∃ z : UInt8, UInt8.ofNat (16 * x + y) = z ∧ (z.toNat : Int) = 16 * (x : Int) + (y : Int) := ⟨_, rfl, by rw [UInt8.toNat_ofNat']; omega⟩
                    have he : esc (s.data.toList.drop (k + 1)) = some (z, 3) := by rw [hee, d2, d3, escX, hx, hy]; exact congrArg (fun z => some (z, 3)) hz
                    have Hzn := hidB hzn
                    have HN := hidB (at_some HAt.out hlt' Hc.out he)
                    have HV1 := hidB hv1
                    have HV2 := hidB hv2
                    clear he hee hx hy hv1 hv2 d2 d3 hz hzn
                    go_wp2_with fail
                    refine (refSixteen_any s[k + 2] _).mono ?_; rintro e w' ⟨rfl, rfl⟩
                    rw [HV1.out]
                    go_wp2_with fail
                    refine (refSixteen_any s[k + 3] _).mono ?_; rintro e w' ⟨rfl, rfl⟩
                    rw [HV2.out]
                    go_wp2_with fail
                    have hv1 := HV1.out
                    have hv2 := HV2.out
                    have g1 : IntKind.i64.wrap ((k : Int) + 2) = (k : Int) + 2 := IntWalk.i64_in _ (by omega)
                    have g2 : IntKind.i64.wrap ((k : Int) + 3) = (k : Int) + 3 := IntWalk.i64_in _ (by omega)
                    have g3 : ((k : Int) + 2).toNat = k + 2 := by omega
                    have g4 : ((k : Int) + 3).toNat = k + 3 := by omega
                    have g5 : 0 ≤ (k : Int) + 2 := by omega
                    have g6 : 0 ≤ (k : Int) + 3 := by omega
                    have g7 : IntKind.i64.wrap (16 * (x : Int)) = 16 * (x : Int) := IntWalk.i64_in _ (by omega)
                    have g8 : IntKind.i64.wrap (16 * (x : Int) + (y : Int)) = 16 * (x : Int) + (y : Int) := IntWalk.i64_in _ (by omega)
                    go_quiet ((go_at_call 86; exact Calls.quiet_of_same (refSixteen_any _ _)))
                    go_wp2_with (at_builtin; refine wpList_append_own _ rfl _ _ 41 rfl w.heap.size 5 i0 (.int .u8 0) 1 1 Tryd.underlying41 hii hz0 hz1 hz2 rfl (by decide) _ _ _ rfl ((own_drewN Hown.out nq).alloc _) ⟨(w'.drewN nq).heap.size, 0, none⟩ 1 1 [.int .u8 (16 * (x : Int) + (y : Int))] rfl rfl ?c1 ?c2 ?c3 ?c4 ?c5 ?_)
                    case c1 => exact cell_one_new _ _ _
                    case c2 => intro u hu; simp at hu; subst hu; rfl
                    case c3 => unfold maxLen; omega
                    case c4 => omega
                    case c5 => simp; omega
                    intro v' w4 hown' hgrow _
                    have hown2 : w4.ownsRow w.heap.size 5 1 v' (out ++ [z]).length (Lib.byteCells (out ++ [z])) := by
                      have e : Lib.byteCells (out ++ [z]) = Lib.byteCells out ++ [.int .u8 (16 * (x : Int) + (y : Int))] := by simp only [Lib.byteCells, List.map_append, List.map_cons, List.map_nil, Hzn.out]
                      rw [e]; simpa using hown'
                    have hbel2 : Below w.heap.size w w4 := ((below_drewN Hb.out nq).alloc (show w.heap.size ≤ (w'.drewN nq).heap.size from hsz) _).grown hgrow (by have h9 : w.heap.size ≤ (w'.drewN nq).heap.size := hsz; simp; omega) (fun j hj => ((own_drewN Hown.out nq).lt j hj).1)
                    have Hown2 := hidB hown2
                    have Hbel2 := hidB hbel2
                    clear hown' hown2 hbel2 hgrow
                    go_wp2_with fail
                    refine ⟨⟨k + 1 + 3, out ++ [z], ?_, HN.out, Hown2.out, Hbel2.out⟩, by simp [intOf]; omega⟩
                    exact congrArg (Value.int .i64) (by omega)
              · have he : esc (s.data.toList.drop (k + 1)) = none := by rw [hee]; exact escX_short (by rw [List.length_drop, Hlen.out]; omega)
                have hq3 : decide ((s.size : Int) ≤ (k : Int) + 3) = true := by rw [decide_eq_true_eq]; omega
                have HN := hidB (at_none HAt.out hlt' Hc.out he)
                clear he hee
                go_wp2_with fail
                go_ret3
                exact plainOk (plainR_inl (by rw [Hlen.out]; exact hbig) HN.out) rfl rfl rfl Hb.out
            · have he : esc (s.data.toList.drop (k + 1)) = none := by rw [d1.out, esc_cons, if_neg (by omega), if_neg (by omega), if_neg (by omega), if_neg (by omega), if_neg (by omega)]
              have HN := hidB (at_none HAt.out hlt' Hc.out he)
              clear he
              go_wp2_with fail
              go_ret3
              exact plainOk (plainR_inl (by rw [Hlen.out]; exact hbig) HN.out) rfl rfl rfl Hb.out
          · have hq1 : ((k : Int) + 1 == (s.size : Int)) = true := by rw [beq_iff_eq]; omega
            have he : esc (s.data.toList.drop (k + 1)) = none := by rw [List.drop_of_length_le (by rw [Hlen.out]; omega)]; rfl
            have HN := hidB (at_none HAt.out hlt' Hc.out he)
            clear he
            go_wp2_with fail
            go_ret3
            exact plainOk (plainR_inl (by rw [Hlen.out]; exact hbig) HN.out) rfl rfl rfl Hb.out
        · have hb1 : ((s[k].toNat : Int) != 92) = true := by rw [bne_iff_ne]; omega
          have HN := hidB (at_byte HAt.out hlt' hc)
          clear hc
          go_wp2_with (at_builtin; refine wpList_append_own _ rfl _ _ 41 rfl w.heap.size 5 i0 (.int .u8 0) 1 1 Tryd.underlying41 hii hz0 hz1 hz2 rfl (by decide) _ _ _ rfl ((Hown.out).alloc _) ⟨(wr).heap.size, 0, none⟩ 1 1 [.int .u8 s[k].toNat] rfl rfl ?c1 ?c2 ?c3 ?c4 ?c5 ?_)
          case c1 => exact cell_one_new _ _ _
          case c2 => intro u hu; simp at hu; subst hu; rfl
          case c3 => unfold maxLen; omega
          case c4 => omega
          case c5 => simp; omega
          intro v' w4 hown' hgrow _
          have hown2 : w4.ownsRow w.heap.size 5 1 v' (out ++ [s[k]]).length (Lib.byteCells (out ++ [s[k]])) := by
            have e : Lib.byteCells (out ++ [s[k]]) = Lib.byteCells out ++ [.int .u8 s[k].toNat] := by simp [Lib.byteCells]
            rw [e]; simpa using hown'
          have hbel2 : Below w.heap.size w w4 := ((Hb.out).alloc (show w.heap.size ≤ (wr).heap.size from hsz) _).grown hgrow (by have h9 : w.heap.size ≤ (wr).heap.size := hsz; simp; omega) (fun j hj => ((Hown.out).lt j hj).1)
          have Hown2 := hidB hown2
          have Hbel2 := hidB hbel2
          clear hown' hown2 hbel2 hgrow
          go_wp2_with fail
          refine ⟨⟨k + 1, out ++ [s[k]], ?_, HN.out, Hown2.out, Hbel2.out⟩, by simp [intOf]; omega⟩
          exact congrArg (Value.int .i64) (by omega)
      · obtain rfl : k = s.size := by omega
        have hs : scanAll s.data.toList = .inr out := at_end (by rw [Hlen.out]; exact HAt.out)
        have HS := hidB hs
        clear hs
        obtain ⟨a, cap, rfl, hconv⟩ : ∃ a cap, u5 = .slice a out.length cap ∧ ((convert 41 9 (.slice a out.length cap)).run Tryd.prog wr = .ok (.string ⟨out.toArray⟩) wr) := by
          have hown := Hown.out
          rcases hown.2 with ⟨hv, h0⟩ | ⟨g, cap, cur, hv, _⟩
          · have : out = [] := List.eq_nil_of_length_eq_zero h0
            subst this
            exact ⟨none, 0, hv, Lib.run_convert_nil_bytes wr _ _ 5 0 Tryd.underlying41 Tryd.underlying5 Tryd.underlying9⟩
          · refine ⟨_, cap, hv, run_convert_bytes_back wr _ _ 5 _ cap out Tryd.underlying41 Tryd.underlying5 Tryd.underlying9 (fun j hj => ?_)⟩
            subst hv
            have hcell := World.ownsRow.cellAt hown j (by omega)
            rw [show (⟨g, 0, none⟩ : Addr).add j = ⟨g, j, none⟩ by simp [Addr.add]; omega, hcell]
            simp [Lib.byteCells, hj]
        by_cases hlong : 4096 < out.length
        · clear hconv
          go_wp2_with fail
          go_ret3
          exact plainOk (plainR_long (by rw [Hlen.out]; exact hbig) HS.out hlong) rfl rfl rfl Hb.out
        · go_wp2_with fail
          go_ret3
          exact plainOk (plainR_ok (by rw [Hlen.out]; exact hbig) HS.out hlong) rfl rfl rfl Hb.out

end Go.Proofs.YtkomjmgmancinaaDoor
