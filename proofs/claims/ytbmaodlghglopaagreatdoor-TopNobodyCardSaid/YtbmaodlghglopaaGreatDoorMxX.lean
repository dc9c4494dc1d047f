/-
  A call, a construction: the walks of the functions that a machine runs.
  A machine that waits: its states in memory.
-/
import Derived.Test.YtbmaodlghglopaaGreatDoorWant
namespace Go.Proofs.YtbmaodlghglopaaGreatDoor
open Go.RowKit

/-- What a run comes to: an outcome with its keys, or a want that holds a list of values. -/
inductive Res where
  | out (x : OI) (ks : List KI)
  | want (W : Value → WI) (l : List VI)
/-- The same, in memory. -/
def RunR (r : Res) (p B : Nat) (O : OI) (w' : World) : Prop := match r with
  | .out x ks => x.kd ≠ 0 ∧ ks.length ≤ 1024 ∧ ∃ kv, O = x.put kv ∧ w'.ownsRow B 26 2 kv ks.length (ks.flatMap KI.cells)
  | .want W l => O.kd = 0 ∧ ∃ av ans n, w'.ownsRow B 29 4 av l.length (l.flatMap VI.cells) ∧ Bk w' p 218 (playC ans n (W av))
theorem WantRes.on {t : WI} {p : Nat} {ans : Value} {k : Nat} {wt : WI} {L : List (OI × List KI)} {B : Nat} {O : OI} {w w' : World} (h : WantRes t p ans k wt L B O w) (hb : Below w.heap.size w w') : WantRes t p ans k wt L B O w' := by
  rcases h with ⟨hl, kv, e, h, h'⟩ | ⟨h1, h2, h3⟩
  · exact .inl ⟨hl, kv, e, own_on h hb, h'.on hb⟩
  · exact .inr ⟨h1, h2, h3.on hb⟩
theorem RunR.lower {r : Res} {p B B' : Nat} {O : OI} {w' : World} (h : RunR r p B O w') (hB : B' ≤ B) : RunR r p B' O w' := by
  cases r with
  | out x ks => obtain ⟨h1, h2, kv, e, h⟩ := h; exact ⟨h1, h2, kv, e, own_base h fun k hk => Nat.le_trans hB (h.lt k hk).1⟩
  | want W l => obtain ⟨h1, av, ans, n, h, h'⟩ := h; exact ⟨h1, av, ans, n, own_base h fun k hk => Nat.le_trans hB (h.lt k hk).1, h'⟩
theorem WantRes.key {t : WI} {p : Nat} {ans : Value} {k : Nat} {wt : WI} {L : List (OI × List KI)} {B : Nat} {O : OI} {w' : World} (h : WantRes t p ans k wt L B O w') : O.keys.oneCell' = true := by
  rcases h with ⟨_, kv, rfl, h, _⟩ | ⟨_, rfl, _⟩
  · exact own_one h
  · rfl
/-- What a call or a construction has captured. -/
structure CapS (E : Nat → Prop) (gf gt ga : Nat) (av : Value) (f th : VI) (args : List VI) (w : World) : Prop where
  bf : Bk w gf 29 f.cells.toArray
  bt : Bk w gt 29 th.cells.toArray
  ba : Bk w ga 32 #[av]
  rd : RdL VI.cells 4 args av w
  ef : E gf
  et : E gt
  ea : E ga
  ev : ∀ k, av.ownBlock = some k → E k
  len : args.length ≤ 64
theorem CapS.keep {E : Nat → Prop} {gf gt ga : Nat} {av : Value} {f th : VI} {args : List VI} {w w' : World} (h : CapS E gf gt ga av f th args w) (hs : w.heap.size ≤ w'.heap.size) (hb : ∀ k, E k → k < w.heap.size → w'.heap[k]? = w.heap[k]?) : CapS E gf gt ga av f th args w' :=
  ⟨(hb gf h.ef h.bf.lt).trans h.bf, (hb gt h.et h.bt.lt).trans h.bt, (hb ga h.ea h.ba.lt).trans h.ba, h.rd.keep hs fun k hv hk => hb k (h.ev k hv) hk, h.ef, h.et, h.ea, h.ev, h.len⟩
theorem CapS.kept {E : Nat → Prop} {gf gt ga : Nat} {av : Value} {f th : VI} {args : List VI} {w w' : World} {p : Nat} (h : CapS E gf gt ga av f th args w) (hp : ¬ E p) (hk : Kept (fun q => q = p) w w') : CapS E gf gt ga av f th args w' :=
  h.keep hk.size fun k he hlt => hk.block k hlt (fun e => hp (e ▸ he))

end Go.Proofs.YtbmaodlghglopaaGreatDoor

namespace Go.Proofs.YtbmaodlghglopaaGreatDoor
open Go.RowKit

abbrev machC (fn : Nat) (caps : Array Value) (ans : Value) (kd mt : Int) (b o : Bool) : Array Value := #[.func (.func fn) #[] caps, ans, .int .u8 kd, .int .u8 mt, .bool b, .bool o]
/-- An answer without the place of its keys. -/
abbrev stripE (e : OI × List KI) : OI × List KI := (e.1.put vNil, e.2)
def Res.strip : Res → Res
  | .out x ks => .out (x.put vNil) ks
  | .want W l => .want W l
theorem RunR.strip {r : Res} {p B : Nat} {O : OI} {w' : World} (h : RunR r p B O w') : RunR r.strip p B O w' := by
  cases r with
  | out x ks => exact h
  | want W l => exact h
/-- What is wanted: the kind and the method. -/
def Res.km : Res → Int × Int
  | .want W _ => ((W vNil).kd, (W vNil).ask.m)
  | .out _ _ => (0, 0)
def WI.one1 (t : WI) : Prop := t.ask.args.oneCell' = true ∧ t.args.oneCell' = true ∧ t.ob.props.oneCell' = true ∧ t.out.keys.oneCell' = true
/-- What is told of a run. -/
def Res.good : Res → Prop
  | .out x _ => x.kd ≠ 0
  | .want _ _ => True
theorem Res.good_strip {r : Res} : r.strip.good ↔ r.good := by cases r <;> exact Iff.rfl
/-- A function that a machine runs, with what it has captured. -/
structure RunF (S : List (OI × List KI) → Res) (fn : Nat) (caps : Array Value) (E : Nat → Prop) (Cap : World → Prop) : Prop where
  run : ∀ (p : Nat) (ans : Value) (wt : WI) (L : List (OI × List KI)) (w : World), Cap w → ¬ E p → Bk w p 218 (playC ans 0 wt) → AnsR p L ans w → (S L).good → Calls Tryz.prog fn (#[.pointer (some ⟨p, 0, none⟩)] ++ caps) w fun e w' => ∃ O : OI, e = .returned O.a ∧ O.keys.oneCell' = true ∧ Kept (fun q => q = p) w w' ∧ RunR (S L) p w.heap.size O w'
  body : ∀ (args : Array Value) (w : World), (callFunc fn args).run Tryz.prog w = .ok (.enter fn args) w
  keep : ∀ w w', Cap w → w.heap.size ≤ w'.heap.size → (∀ k, E k → w'.heap[k]? = w.heap[k]?) → Cap w'
  typ : ∀ w k, Cap w → E k → ∃ cs t x, w.heap[k]? = some (.cells cs t x) ∧ t ≠ 49 ∧ t ≠ 172 ∧ t ≠ 218
  strip : ∀ L, S (L.map stripE) = (S L).strip
  km : ∀ L W l, S L = .want W l → ∀ av, (W av).kd = (W vNil).kd ∧ (W av).ask.m = (W vNil).ask.m ∧ (av.oneCell' = true → (W av).one1)
inductive Q where
  | fresh
  | wait (L : List (OI × List KI))
  | over
/-- Answers that a machine holds, in blocks of A. -/
def AnsM (L : List (OI × List KI)) (ans : Value) (A : Nat → Prop) (w : World) : Prop :=
  ∃ L' : List (OI × List KI), L'.map stripE = L ∧ w.ownsRow 0 49 26 ans L'.length (L'.flatMap (fun e => e.1.cs.toList)) ∧ (∀ k, ans.ownBlock = some k → A k) ∧ ∀ e ∈ L', w.ownsRow 0 26 2 e.1.keys e.2.length (e.2.flatMap KI.cells) ∧ e.2.length ≤ 1024 ∧ (e.1.kd = 1 ∨ e.1.kd = 2) ∧ ∀ k, e.1.keys.ownBlock = some k → A k
def MachS (S : List (OI × List KI) → Res) (fn : Nat) (caps : Array Value) (g : Nat) (A : Nat → Prop) (w : World) : Q → Prop
  | .fresh => Bk w g 172 (machC fn caps vNil 0 0 false false)
  | .wait L => L.length < 900 ∧ ∃ ans, Bk w g 172 (machC fn caps ans (S L).km.1 (S L).km.2 true false) ∧ AnsM L ans A w
  | .over => ∃ kd mt, Bk w g 172 (machC fn caps vNil kd mt true true)
/-- A machine, all of it in blocks of A. -/
structure MachW (S : List (OI × List KI) → Res) (fn : Nat) (caps : Array Value) (E : Nat → Prop) (Cap : World → Prop) (g : Nat) (q : Q) (A : Nat → Prop) (w : World) : Prop where
  cap : Cap w
  eA : ∀ k, E k → A k
  gA : A g
  lt : ∀ k, A k → k < w.heap.size
  st : MachS S fn caps g A w q
theorem own_heap {w w' : World} {base : Nat} {e : TypeId} {sz : Nat} {v : Value} {n : Nat} {xs : List Value} {A : Nat → Prop} (h : w.ownsRow base e sz v n xs) (hA : ∀ k, v.ownBlock = some k → A k) (hb : ∀ k, A k → w'.heap[k]? = w.heap[k]?) : w'.ownsRow base e sz v n xs := own_eq h fun k hk => hb k (hA k hk)
theorem AnsM.keep {L : List (OI × List KI)} {ans : Value} {A A' : Nat → Prop} {w w' : World} (h : AnsM L ans A w) (hA : ∀ k, A k → A' k) (hb : ∀ k, A k → w'.heap[k]? = w.heap[k]?) : AnsM L ans A' w' := by
  obtain ⟨L', h1, h2, h3, h4⟩ := h
  exact ⟨L', h1, own_heap h2 h3 hb, fun k hk => hA k (h3 k hk), fun e he => ⟨own_heap (h4 e he).1 (h4 e he).2.2.2 hb, (h4 e he).2.1, (h4 e he).2.2.1, fun k hk => hA k ((h4 e he).2.2.2 k hk)⟩⟩
section
variable {S : List (OI × List KI) → Res} {fn : Nat} {caps : Array Value} {E : Nat → Prop} {Cap : World → Prop} {g : Nat} {q : Q} {A A' : Nat → Prop} {w w' : World}
theorem MachS.keep (h : MachS S fn caps g A w q) (hg : A g) (hA : ∀ k, A k → A' k) (hb : ∀ k, A k → w'.heap[k]? = w.heap[k]?) : MachS S fn caps g A' w' q := by
  cases q with
  | fresh => exact (hb g hg).trans h
  | wait L => obtain ⟨h0, ans, h1, h2⟩ := h; exact ⟨h0, ans, (hb g hg).trans h1, h2.keep hA hb⟩
  | over => obtain ⟨kd, mt, h1⟩ := h; exact ⟨kd, mt, (hb g hg).trans h1⟩
theorem MachW.keep (h : MachW S fn caps E Cap g q A w) (hF : RunF S fn caps E Cap) (hs : w.heap.size ≤ w'.heap.size) (hb : ∀ k, A k → w'.heap[k]? = w.heap[k]?) : MachW S fn caps E Cap g q A w' :=
  ⟨hF.keep w w' h.cap hs fun k hk => hb k (h.eA k hk), h.eA, h.gA, fun k hk => Nat.lt_of_lt_of_le (h.lt k hk) hs, h.st.keep h.gA (fun _ hk => hk) hb⟩
theorem MachW.kept {U : Nat → Prop} (h : MachW S fn caps E Cap g q A w) (hF : RunF S fn caps E Cap) (hk : Kept U w w') (hd : ∀ k, A k → ¬ U k) : MachW S fn caps E Cap g q A w' :=
  h.keep hF hk.size fun k ha => hk.block k (h.lt k ha) (hd k ha)
theorem MachW.on (h : MachW S fn caps E Cap g q A w) (hF : RunF S fn caps E Cap) (hb : Below w.heap.size w w') : MachW S fn caps E Cap g q A w' := h.keep hF hb.size fun k ha => hb.block k (h.lt k ha)
theorem cap_neG (hF : RunF S fn caps E Cap) (hc : Cap w) {cs : Array Value} {t : TypeId} (hg : Bk w g t cs) (ht : t = 172 ∨ t = 218) : ¬ E g := by
  intro he
  obtain ⟨cs', t', x, h, h1, h2, h3⟩ := hF.typ w g hc he
  unfold Bk at hg
  rw [hg] at h
  simp only [Option.some.injEq, Obj.cells.injEq] at h
  rcases ht with ht | ht
  · exact h2 (h.2.1 ▸ ht)
  · exact h3 (h.2.1 ▸ ht)
theorem cap_neO (hF : RunF S fn caps E Cap) (hc : Cap w) {base n sz k : Nat} {v : Value} {xs : List Value} (h : w.ownsRow base 49 sz v n xs) (hk : v.ownBlock = some k) : ¬ E k := by
  intro he
  obtain ⟨cs', t', x, h0, h1, h2, h3⟩ := hF.typ w k hc he
  rcases h.2 with ⟨rfl, _⟩ | ⟨b, cap, cur, rfl, _, hb, _⟩
  · cases hk
  · cases hk
    rw [hb] at h0
    simp only [Option.some.injEq, Obj.cells.injEq] at h0
    exact h1 h0.2.1.symm
end
/-- A block of one type is none that a slice of another type owns. -/
theorem own_neB {w : World} {base n sz k g : Nat} {e t : TypeId} {v : Value} {xs : List Value} {cs : Array Value} (h : w.ownsRow base e sz v n xs) (hg : Bk w g t cs) (ht : e ≠ t) (hk : v.ownBlock = some k) : k ≠ g := by
  rintro rfl
  rcases h.2 with ⟨rfl, _⟩ | ⟨b, cap, cur, rfl, _, hb, _⟩
  · cases hk
  · cases hk
    unfold Bk at hg
    rw [hb] at hg
    simp only [Option.some.injEq, Obj.cells.injEq] at hg
    exact ht hg.2.1
theorem own_neO {w : World} {base n sz k base' n' sz' : Nat} {e t : TypeId} {v u : Value} {xs ys : List Value} (h : w.ownsRow base e sz v n xs) (h' : w.ownsRow base' t sz' u n' ys) (ht : e ≠ t) (hk : v.ownBlock = some k) : u.ownBlock ≠ some k := by
  rcases h.2 with ⟨rfl, _⟩ | ⟨b, cap, cur, rfl, _, hb, _⟩
  · cases hk
  · cases hk
    intro hu
    rcases h'.2 with ⟨rfl, _⟩ | ⟨b', cap', cur', rfl, _, hb', _⟩
    · cases hu
    · cases hu
      rw [hb] at hb'
      simp only [Option.some.injEq, Obj.cells.injEq] at hb'
      exact ht hb'.2.1
/-- Answers that a machine holds can be read by a player. -/
theorem AnsM.read {L : List (OI × List KI)} {ans : Value} {A : Nat → Prop} {w : World} (h : AnsM L ans A w) {p : Nat} {cs : Array Value} (hp : Bk w p 218 cs) : ∃ L' : List (OI × List KI), L'.map stripE = L ∧ AnsR p L' ans w := by
  obtain ⟨L', h1, h2, h3, h4⟩ := h
  refine ⟨L', h1, own_rd (fun e : OI × List KI => OI.cells_len e.1) h2, fun k hk => own_neB h2 hp (by decide) hk, fun e he => ⟨own_rd KI.cells_len (h4 e he).1, (h4 e he).2.1, fun k hk => own_neB (h4 e he).1 hp (by decide) hk, (h4 e he).2.2.1⟩⟩
/-- Where the slice lies that an append hands back: where it lay, or in a new block. -/
theorem append_block {P : Program} (w : World) (base : Nat) (t ty e : TypeId) (i : TypeInfo) (z : Value) (size bytes : Nat) (ht : P.underlying t = some (.slice e)) (hi : P.info? e = some i) (hz : i.zero = some z)
    (hsize : i.size = size) (hby : i.bytes = bytes) (hzs : z.cells.size = size) (hsz : 0 < size) (v : Value) (n : Nat) (xs : List Value) (hown : w.ownsRow base e size v n xs)
    (a : Addr) (m c : Nat) (news : List Value) (hl : news.length = m * size) (hnews : ∀ j u, news[j]? = some u → w.cell? (a.add j) = some u) (h1 : ∀ u ∈ news, u.oneCell' = true)
    (h63 : n + m ≤ maxLen) (hbytes : (n + m) * bytes ≤ 140737488355328) {v' : Value} {w' : World} (hr : (Builtin.append_ #[t, t] ty #[v, .slice (some a) m c]).run P w = .ok v' w') {k : Nat} (hk : v'.ownBlock = some k) : v.ownBlock = some k ∨ w.heap.size ≤ k := by
  subst hsize
  subst hby
  have hsmall : n + m ≤ 9223372036854775807 := by simp only [maxLen] at h63; omega
  rcases hown.2 with ⟨rfl, rfl⟩ | ⟨g, cap, cur, rfl, hbg, hg, hnc, hcm, hcs, htake⟩
  · obtain ⟨v2, w2, h2, ho, _⟩ := run_append_own (P := P) w w.heap.size t ty e i z i.size i.bytes ht hi hz rfl rfl hzs hsz _ 0 [] (World.ownsRow_nil w w.heap.size e i.size) a m c news hl hnews h1 h63 hbytes (Nat.le_refl _)
    rw [hr] at h2
    injection h2 with e1 e2
    subst e1
    exact .inr (ho.lt k hk).1
  · by_cases hroom : n + m ≤ cap
    · have hfit : n * i.size + news.length ≤ cur.size := by rw [hl, hcs, ← Nat.add_mul]; exact Nat.mul_le_mul_right _ hroom
      have h2 := run_append_room (P := P) w t ty e i ht hi g n cap cur hg a m c news hl hnews h1 hroom hfit
      rw [hr] at h2
      injection h2 with e1 e2
      subst e1
      exact .inl hk
    · have holds : ∀ j u, xs[j]? = some u → w.cell? ((⟨g, 0, none⟩ : Addr).add j) = some u := hown.cells (g := g) rfl
      have h2 := run_append_grow (P := P) w t ty e i z ht hi hz ⟨g, 0, none⟩ n cap xs hown.1 holds a m c news hl hnews (by omega) (by omega) (growslice_fits (by omega) hbytes)
      rw [hr] at h2
      injection h2 with e1 e2
      subst e1
      cases hk
      exact .inr (Nat.le_refl _)
theorem wp_append_in {P : Program} {w : World} {o : Oper} {a : Act} {K : Act → World → Prop} {Q : Exit → Act → World → Prop} (s x : Operand) (t : TypeId)
    (ho : o.op = .call { callee := .builtin .append, args := #[s, x], argTypes := #[t, t] }) (base : Nat) (e : TypeId) (i : TypeInfo) (z : Value) (size bytes : Nat) (ht : P.underlying t = some (.slice e)) (hi : P.info? e = some i) (hz : i.zero = some z)
    (hsize : i.size = size) (hby : i.bytes = bytes) (hzs : z.cells.size = size) (hsz : 0 < size) (v : Value) (n : Nat) (xs : List Value) (hs : a.eval s = v) (hown : w.ownsRow base e size v n xs)
    (ad : Addr) (m c : Nat) (news : List Value) (hx : a.eval x = .slice (some ad) m c) (hl : news.length = m * size) (hnews : ∀ j u, news[j]? = some u → w.cell? (ad.add j) = some u) (h1 : ∀ u ∈ news, u.oneCell' = true)
    (h63 : n + m ≤ maxLen) (hbytes : (n + m) * bytes ≤ 140737488355328) (hbase : base ≤ w.heap.size)
    (h : ∀ v' w', w'.ownsRow base e size v' (n + m) (xs ++ news) → w.grownBy w' v.ownBlock → (∀ k, v'.ownBlock = some k → v.ownBlock = some k ∨ w.heap.size ≤ k) → K (a.put o.dst v') w') : o.wp P a w K Q := by
  obtain ⟨v', w', hr, h2, h3, h4⟩ := run_append_own (P := P) w base t o.type e i z size bytes ht hi hz hsize hby hzs hsz v n xs hown ad m c news hl hnews h1 h63 hbytes hbase
  have hb := fun k hk => append_block w base t o.type e i z size bytes ht hi hz hsize hby hzs hsz v n xs hown ad m c news hl hnews h1 h63 hbytes hr (k := k) hk
  unfold Oper.wp execOp
  simp only [ho, resolve, invoke, builtin, Sem.run_bind, Sem.run_pure, Result.andThen_ok, List.map_toArray, List.map_cons, List.map_nil, hs, hx, hr]
  exact h v' w' h2 h3 hb
theorem bk_cells {w : World} {g : Nat} {t : TypeId} {cs : Array Value} (h : Bk w g t cs) : ∀ j u, cs.toList[j]? = some u → w.cell? ((⟨g, 0, none⟩ : Addr).add j) = some u := by
  intro j u hu
  rw [Addr.add_mid, Nat.zero_add, h.cell j, ← Array.getElem?_toList]
  exact hu
/-- What Next is given with, by a state: the answers to go on with. -/
def nextQ (S : List (OI × List KI) → Res) (x : OI) (ks : List KI) : Q → Option (List (OI × List KI))
  | .fresh => some []
  | .wait L => if fitsB (S L).km.1 (S L).km.2 x ks then some (L ++ [(x.put vNil, ks)]) else none
  | .over => none
def endW (x : OI) : WI := { WI.zero with kd := 7, out := x }
/-- The state behind. -/
def Res.q (L : List (OI × List KI)) : Res → Q
  | .out _ _ => .over
  | .want _ _ => .wait L
/-- What Next hands back, in memory of its own from 'mid' on. -/
def WantR (r : Res) (mid : Nat) (wt : WI) (w' : World) : Prop := match r with
  | .out x ks => x.kd ≠ 0 ∧ ks.length ≤ 1024 ∧ ∃ kv, wt = endW (x.put kv) ∧ w'.ownsRow mid 26 2 kv ks.length (ks.flatMap KI.cells)
  | .want W l => ∃ av, wt = W av ∧ w'.ownsRow mid 29 4 av l.length (l.flatMap VI.cells)

end Go.Proofs.YtbmaodlghglopaaGreatDoor
