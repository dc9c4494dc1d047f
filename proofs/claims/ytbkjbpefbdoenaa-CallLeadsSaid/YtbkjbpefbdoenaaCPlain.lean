/-
  What the reference wants, step by step, is what a task wants (plainly).
-/
import Derived.Test.YtbkjbpefbdoenaaCRef
import Derived.Test.YtbkjbpefbdoenaaCLike
namespace Go.Proofs.Ytbkjbpefbdoenaa
open Go.RowKit

/-! ### what is wrong with what is begun -/
theorem listE_eq (args : List VI) (l : List VI) : wrongE args l = if badL l then 9 else listE args := rfl
theorem refE_start (f v pr : VI) (args : List VI) : refE 0 f v pr args = wrongE args [f, v] := by
  rw [listE_eq]
  unfold refE badL
  cases hf : f.may <;> cases hv : v.may <;> simp [hf, hv]
theorem refE_make (f v pr : VI) (args : List VI) : refE 1 f v pr args = makeE f v args := by
  unfold makeE
  rw [listE_eq]
  unfold refE badL
  by_cases h : v.k = 8 <;> cases hf : f.may <;> cases hv : v.may <;> simp [h, hf, hv]
theorem refE_body (f v pr : VI) (args : List VI) : refE 2 f v pr args = bodyE f v pr args := by
  unfold bodyE
  rw [listE_eq]
  unfold refE badL
  by_cases h : v.k = 8 <;> by_cases h' : f.k = 8 <;> cases hf : f.may <;> cases hv : v.may <;> cases hp : pr.may <;> cases hi : isObj pr.k <;> simp [h, h', hf, hv, hp, hi]
def taskE (kd : Int) (f v pr : VI) (args : List VI) : Int := if kd = 0 then wrongE args [f, v] else if kd = 1 then makeE f v args else bodyE f v pr args
theorem refE_task {kd : Int} (hkd : kd = 0 ∨ kd = 1 ∨ kd = 2) (f v pr : VI) (args : List VI) : refE kd f v pr args = taskE kd f v pr args := by
  rcases hkd with rfl | rfl | rfl
  · exact refE_start f v pr args
  · exact refE_make f v pr args
  · exact refE_body f v pr args

/-! ### what is wanted last -/
def Res.isWant : Res → Prop
  | .want _ _ => True
  | .out _ _ => False
def Pend (S : List (OI × List KI) → Res) (L : List (OI × List KI)) : Prop := ∀ n, n < L.length → (S (L.take n)).isWant
def lastW (r : Res) (av : Value) : WI := match r with | .want W _ => W av | .out y _ => endW y
def LastR (r : Res) (av : Value) (l : List WI) (n : Nat) : Prop := l.length = n + 1 ∧ l[n]? = some (lastW r av)
abbrev endF (x : List WI × OI) : List WI := endL x.1 x.2
theorem endL_no {wl : List WI} {x : OI} (h : x.kd = 0) : endL wl x = wl := if_pos h
theorem endL_yes {wl : List WI} {x : OI} (h : x.kd = 1 ∨ x.kd = 2 ∨ x.kd = 3) : endL wl x = wl ++ [endW x] := if_neg (by omega)
theorem ask_last (m : Int) (f th : VI) (args : List VI) (av : Value) (L : List (OI × List KI)) (hk : ∀ e ∈ L, e.1.kd = 1 ∨ e.1.kd = 2) (hp : Pend (askR m f th args) L) : LastR (askR m f th args L) av (endF (askF m f th av L)) L.length := by
  match L, hk, hp with
  | [], _, _ => exact ⟨rfl, rfl⟩
  | [e], hk, _ =>
    have h := hk e (List.mem_singleton.2 rfl)
    show LastR (onlyR e) av (endL [methW (callA m f th av)] (onlyI e.1)) 1
    unfold onlyR onlyI
    by_cases h1 : e.1.kd = 1
    · rw [if_pos h1, if_pos h1, endL_yes (.inl rfl)]; exact ⟨rfl, rfl⟩
    · rw [if_neg h1, if_neg h1, endL_yes (by omega)]; exact ⟨rfl, rfl⟩
  | a :: b :: r, _, hp =>
    have h := hp 1 (by simp)
    exfalso
    change (onlyR a).isWant at h
    unfold onlyR at h
    split at h <;> exact h
theorem body_last (f tg pr : VI) (args : List VI) (av : Value) (L : List (OI × List KI)) (hk : ∀ e ∈ L, e.1.kd = 1 ∨ e.1.kd = 2) (hp : Pend (bodyS f tg pr args) L) : LastR (bodyS f tg pr args L) av (endF (bodyF f tg pr av L)) L.length := by
  match L, hk, hp with
  | [], _, _ => exact ⟨rfl, rfl⟩
  | [a], hk, _ =>
    have h := hk a (by simp)
    show LastR (if a.1.kd = 1 then _ else _) av (endF (if a.1.kd = 1 then _ else _)) 1
    by_cases h1 : a.1.kd = 1
    · rw [if_pos h1, if_pos h1]; exact ⟨rfl, rfl⟩
    · rw [if_neg h1, if_neg h1]; show LastR (.out a.1 a.2) av (endL [_] a.1) 1; rw [endL_yes (show a.1.kd = 1 ∨ a.1.kd = 2 ∨ a.1.kd = 3 by omega)]; exact ⟨rfl, rfl⟩
  | [a, b], hk, hp =>
    have h := hk b (by simp)
    have hp1 := hp 1 (by simp)
    change Res.isWant (if a.1.kd = 1 then _ else _) at hp1
    show LastR (if a.1.kd = 1 then (if b.1.kd = 1 then _ else _) else _) av (endF (if a.1.kd = 1 then (if b.1.kd = 1 then _ else _) else _)) 2
    by_cases h1 : a.1.kd = 1
    · rw [if_pos h1, if_pos h1]
      by_cases h2 : b.1.kd = 1
      · rw [if_pos h2, if_pos h2]; exact ⟨rfl, rfl⟩
      · rw [if_neg h2, if_neg h2]; show LastR (.out b.1 b.2) av (endL [_, _] b.1) 2; rw [endL_yes (show b.1.kd = 1 ∨ b.1.kd = 2 ∨ b.1.kd = 3 by omega)]; exact ⟨rfl, rfl⟩
    · rw [if_neg h1] at hp1; exact hp1.elim
  | [a, b, c], hk, hp =>
    have h := hk c (by simp)
    have hp1 := hp 1 (by simp)
    have hp2 := hp 2 (by simp)
    change Res.isWant (if a.1.kd = 1 then _ else _) at hp1
    change Res.isWant (if a.1.kd = 1 then (if b.1.kd = 1 then _ else _) else _) at hp2
    show LastR (if a.1.kd = 1 then (if b.1.kd = 1 then (if c.1.kd = 1 then _ else _) else _) else _) av (endF (if a.1.kd = 1 then (if b.1.kd = 1 then (if c.1.kd = 1 then _ else _) else _) else _)) 3
    by_cases h1 : a.1.kd = 1
    · rw [if_pos h1] at hp2 ⊢
      rw [if_pos h1]
      by_cases h2 : b.1.kd = 1
      · rw [if_pos h2, if_pos h2]
        by_cases h3 : c.1.kd = 1
        · rw [if_pos h3, if_pos h3]; unfold endF; rw [endL_yes (.inl rfl)]; exact ⟨rfl, rfl⟩
        · rw [if_neg h3, if_neg h3]; show LastR (.out c.1 c.2) av (endL [_, _, _] c.1) 3; rw [endL_yes (show c.1.kd = 1 ∨ c.1.kd = 2 ∨ c.1.kd = 3 by omega)]; exact ⟨rfl, rfl⟩
      · rw [if_neg h2] at hp2; exact hp2.elim
    · rw [if_neg h1] at hp1; exact hp1.elim
  | a :: b :: c :: d :: r, _, hp =>
    have hp3 := hp 3 (by simp)
    exfalso
    change Res.isWant (if a.1.kd = 1 then (if b.1.kd = 1 then (if c.1.kd = 1 then _ else _) else _) else _) at hp3
    split at hp3
    · split at hp3
      · split at hp3 <;> exact hp3
      · exact hp3
    · exact hp3
/-- What a task of a kind comes to. -/
def taskS (kd : Int) (f v pr : VI) (args : List VI) : List (OI × List KI) → Res := if kd = 0 then startS f v args else if kd = 1 then makeS f v args else bodyS f v pr args
theorem run_last {kd : Int} (hkd : kd = 0 ∨ kd = 1 ∨ kd = 2) (f v pr : VI) (args : List VI) (av : Value) (L : List (OI × List KI)) (hk : ∀ e ∈ L, e.1.kd = 1 ∨ e.1.kd = 2) (hp : Pend (taskS kd f v pr args) L) : LastR (taskS kd f v pr args L) av (endF (runF kd f v pr av L)) L.length := by
  rcases hkd with rfl | rfl | rfl
  · change LastR (startS f v args L) av (endF (calledF f v av L)) L.length
    change Pend (startS f v args) L at hp
    unfold calledF
    by_cases h : isCal f.k = true
    · have hs : startS f v args = askR 12 f v args := by funext L; exact if_pos h
      rw [hs] at hp ⊢
      rw [if_pos h]
      exact ask_last 12 f v args av L hk hp
    · have hs : ∀ L, startS f v args L = .out typeI [] := fun L => if_neg h
      rw [if_neg h, hs]
      cases L with
      | nil => unfold endF; rw [endL_yes (.inr (.inr rfl))]; exact ⟨rfl, rfl⟩
      | cons a r => have := hp 0 (by simp); rw [hs] at this; exact this.elim
  · change LastR (makeS f v args L) av (endF (madeF f v av L)) L.length
    change Pend (makeS f v args) L at hp
    unfold madeF
    by_cases h : f.k = 8
    · have hs : makeS f v args = askR 13 f v args := by funext L; exact if_pos h
      rw [hs] at hp ⊢
      rw [if_pos h]
      exact ask_last 13 f v args av L hk hp
    · have hs : ∀ L, makeS f v args L = .out typeI [] := fun L => if_neg h
      rw [if_neg h, hs]
      cases L with
      | nil => unfold endF; rw [endL_yes (.inr (.inr rfl))]; exact ⟨rfl, rfl⟩
      | cons a r => have := hp 0 (by simp); rw [hs] at this; exact this.elim
  · exact body_last f v pr args av L hk hp

/-! ### how wants look -/
def Shape (args : List VI) (W : Value → WI) (l : List VI) : Prop :=
  (l = args ∧ ∃ t : WI, t.ob.props = vNil ∧ ∀ a, W a = t.put3 a vNil vNil) ∨ (l = args ∧ ∃ t : WI, t.ob.props = vNil ∧ ∀ a, W a = t.put3 vNil a vNil) ∨ (l = [] ∧ ∃ t : WI, t.ob.props = vNil ∧ ∀ a, W a = t.put3 vNil vNil vNil)
/-- An outcome that is handed back: without keys, or one that was given. -/
def Handed (y : OI) (ks : List KI) (L : List (OI × List KI)) : Prop := (y.keys = vNil ∧ ks = []) ∨ (y, ks) ∈ L
def Fair (args : List VI) (r : Res) (L : List (OI × List KI)) : Prop := match r with | .want W l => Shape args W l | .out y ks => Handed y ks L
theorem fair_ask (m : Int) (f th : VI) (args : List VI) (L : List (OI × List KI)) : Fair args (askR m f th args L) L := by
  cases L with
  | nil => exact .inl ⟨rfl, methW (callA m f th vNil), rfl, fun _ => rfl⟩
  | cons e r =>
    show Fair args (onlyR e) (e :: r)
    unfold onlyR
    split
    · exact .inl ⟨rfl, rfl⟩
    · exact .inr (List.mem_cons_self ..)
theorem fair_step {args : List VI} {L : List (OI × List KI)} {k : Nat} {W : Value → WI} {l : List VI} {c : VI → Res} (hW : Shape args W l) (hc : ∀ v, Fair args (c v) L) : Fair args (stepS L k W l c) L := by
  unfold stepS
  cases h : L[k]? with
  | none => exact hW
  | some e =>
    show Fair args (if e.1.kd = 1 then c e.1.v else .out e.1 e.2) L
    split
    · exact hc _
    · exact .inr (List.mem_of_getElem? h)
theorem fair_task (kd : Int) (f v pr : VI) (args : List VI) (L : List (OI × List KI)) : Fair args (taskS kd f v pr args L) L := by
  unfold taskS
  split
  · unfold startS
    split
    · exact fair_ask 12 f v args L
    · exact .inl ⟨rfl, rfl⟩
  · split
    · unfold makeS
      split
      · exact fair_ask 13 f v args L
      · exact .inl ⟨rfl, rfl⟩
    · exact fair_step (.inr (.inr ⟨rfl, methW (getA v protoK), rfl, fun _ => rfl⟩)) fun a => fair_step (.inr (.inr ⟨rfl, madeW (objI (orV a pr)), rfl, fun _ => rfl⟩)) fun b => fair_step (.inr (.inl ⟨rfl, callW f b vNil, rfl, fun _ => rfl⟩)) fun c => .inl ⟨rfl, rfl⟩
/-- Two wants of a kind are alike, as the reference says. -/
theorem like_any (r : Res) (args : List VI) (L : List (OI × List KI)) (av : Value) {mid : Nat} {wt : WI} (w : World) (hf : Fair args r L) (hL : ∀ e ∈ L, RdL KI.cells 2 e.2 e.1.keys w) (ha : RdL VI.cells 4 args av w) (h : WantR r.strip mid wt w) : Calls Try.prog 35 #[wt.a, (lastW r av).a] w fun e w' => e = .returned (.bool true) ∧ Below w.heap.size w w' := by
  cases r with
  | want W l =>
    obtain ⟨a, rfl, ho⟩ := h
    have hr := own_rd VI.cells_len ho
    rcases hf with ⟨rfl, t, ht, hW⟩ | ⟨rfl, t, ht, hW⟩ | ⟨rfl, t, ht, hW⟩
    · show Calls _ _ #[(W a).a, (W av).a] _ _
      rw [hW a, hW av]
      exact rlikeW_self t ht a av vNil vNil vNil vNil l [] [] w hr ha (RdL.nil _ _ _) (RdL.nil _ _ _) (RdL.nil _ _ _) (RdL.nil _ _ _)
    · show Calls _ _ #[(W a).a, (W av).a] _ _
      rw [hW a, hW av]
      exact rlikeW_self t ht vNil vNil a av vNil vNil [] l [] w (RdL.nil _ _ _) (RdL.nil _ _ _) hr ha (RdL.nil _ _ _) (RdL.nil _ _ _)
    · show Calls _ _ #[(W a).a, (W av).a] _ _
      rw [hW a, hW av]
      exact rlikeW_self t ht vNil vNil vNil vNil vNil vNil [] [] [] w (RdL.nil _ _ _) (RdL.nil _ _ _) (RdL.nil _ _ _) (RdL.nil _ _ _) (RdL.nil _ _ _) (RdL.nil _ _ _)
  | out y ks =>
    obtain ⟨_, _, kv, rfl, ho⟩ := h
    have hr := own_rd KI.cells_len ho
    have hy : RdL KI.cells 2 ks y.keys w := by
      rcases hf with ⟨h1, rfl⟩ | h1
      · rw [h1]; exact RdL.nil _ _ _
      · exact hL _ h1
    exact rlikeW_self (endW y) rfl vNil vNil vNil vNil kv y.keys [] [] ks w (RdL.nil _ _ _) (RdL.nil _ _ _) (RdL.nil _ _ _) (RdL.nil _ _ _) hr hy

/-! ### what comes next -/
theorem taskS_strip (kd : Int) (f v pr : VI) (args : List VI) (L : List (OI × List KI)) : taskS kd f v pr args (L.map stripE) = (taskS kd f v pr args L).strip := by
  unfold taskS
  split
  · unfold startS
    split
    · exact askR_strip 12 f v args L
    · rfl
  · split
    · unfold makeS
      split
      · exact askR_strip 13 f v args L
      · rfl
    · exact bodyS_strip f v pr args L
theorem taskS_km (kd : Int) (f v pr : VI) (args : List VI) (L : List (OI × List KI)) (W : Value → WI) (l : List VI) (h : taskS kd f v pr args L = .want W l) : ∀ av, (W av).kd = (W vNil).kd ∧ (W av).ask.m = (W vNil).ask.m := by
  intro av
  unfold taskS at h
  split at h
  · exact ⟨(startS_km f v args L W l h av).1, (startS_km f v args L W l h av).2.1⟩
  · split at h
    · exact ⟨(makeS_km f v args L W l h av).1, (makeS_km f v args L W l h av).2.1⟩
    · exact ⟨(bodyS_km f v pr args L W l h av).1, (bodyS_km f v pr args L W l h av).2.1⟩
theorem pend_snoc {S : List (OI × List KI) → Res} {L : List (OI × List KI)} (h : Pend S L) (hw : (S L).isWant) (e : OI × List KI) : Pend S (L ++ [e]) := by
  intro n hn
  rw [List.length_append, List.length_singleton] at hn
  by_cases hl : n < L.length
  · rw [List.take_append_of_le_length (by omega)]; exact h n hl
  · obtain rfl : n = L.length := by omega
    rw [List.take_append_of_le_length (Nat.le_refl _), List.take_length]; exact hw
theorem strip_isWant {r : Res} : r.strip.isWant ↔ r.isWant := by cases r <;> exact Iff.rfl
theorem strip_km (r : Res) : r.strip.km = r.km := by cases r <;> rfl

end Go.Proofs.Ytbkjbpefbdoenaa
