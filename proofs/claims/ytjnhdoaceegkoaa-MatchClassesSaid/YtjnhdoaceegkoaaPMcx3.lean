-- WRITTEN BY gprint.py, a program of this session, out of the translation (over the kit's print.py): Lean checks it.
import Derived.Test.YtjnhdoaceegkoaaPMcx0
import Derived.Maps.Own
import Derived.Maps.OwnOps
import Derived.Maps.OwnSet
import Derived.WalkLawsBesides
import Derived.LoopTactic
import Derived.ProofKit
import Derived.Lib.Hide
import Derived.Deep.DeepCutAuto
import Derived.IntWalk
import Derived.WalkMore
import Derived.Deep.DeepMust
import Derived.Laws.IdiomCopy
import Derived.Test.YtjnhdoaceegkoaaSort
namespace Go.Proofs.Ytjnhdoaceegkoaa.PMc
open Go.RowKit Go.Proofs.YtjnhdoaceegkoaaW.PrintWords Go.Proofs.YtjnhdoaceegkoaaW.PrintLast Go.Proofs.YtjnhdoaceegkoaaW.PrintMore
attribute [local go_sem] max2_int min2_int max_two min_two max_three min_three max_four min_four   -- for this text's walks alone
set_option linter.unusedVariables false
set_option linter.unusedSimpArgs false

--@given oriel/match.Class making=1 rounds=1
--@given oriel/match.Links making=1 rounds=1
--@given oriel/match.Linked making=1 rounds=1
--@import Derived.Maps.Own
--@import Derived.Maps.OwnOps
--@import Derived.Maps.OwnSet
--@import Derived.WalkLawsBesides
--@import Derived.LoopTactic
--@import Derived.ProofKit
--@import Derived.Lib.Hide
--@import Derived.Deep.DeepCutAuto
--@import Derived.IntWalk
--@import Derived.WalkMore
--@import Derived.Deep.DeepMust
--@import Derived.Laws.IdiomCopy
--@import Derived.Test.YtjnhdoaceegkoaaSort
theorem gi3 : (Try.prog.info? 3).map (fun i => (i.zero, i.size, i.bytes)) = some (some (.int .i64 0), 1, 8) := by kernel_rfl
theorem giP : (Try.prog.info? 51).map (fun i => (i.zero, i.size, i.bytes)) = some (some (.agg #[(.int .i64 0), (.int .i64 0)]), 2, 16) := by kernel_rfl
/-! ### maps, entry by entry -/
section
open Go.MapKept Go.ChangeMaps
/-- what is asked of a kind of keys -/
structure KeyL (P : Program) (k : TypeId) (isK : Value → Prop) : Prop where
  check : ∀ (w : World) (em : Bool) {v : Value}, isK v → (Instr.checkKey em 10000 k v).run P w = .ok () w
  find : ∀ (w : World) {x : Value}, isK x → ∀ es : List MapEntry, (∀ e ∈ es, isK e.key) →
    ((Instr.findKey k x es).run P w = .ok none w ∧ ∀ e ∈ es, e.key ≠ x) ∨ ∃ j e, (Instr.findKey k x es).run P w = .ok (some (j, e.val)) w ∧ es[j]? = some e ∧ e.key = x
  stays : ∀ (w : World) {v : Value}, isK v → (Instr.keyThatStays v v).run P w = .ok v w
def isI (v : Value) : Prop := ∃ x : Int, v = .int .i64 x
theorem findNow_int (x : Int) : ∀ (es : List MapEntry) (i : Nat), (∀ e ∈ es, isI e.key) →
    (Instr.findNow (.int .i64) (.int .i64 x) es i = some none ∧ ∀ e ∈ es, e.key ≠ .int .i64 x) ∨ ∃ j e, i ≤ j ∧ Instr.findNow (.int .i64) (.int .i64 x) es i = some (some (j, e.val)) ∧ es[j - i]? = some e ∧ e.key = .int .i64 x
  | [], _, _ => .inl ⟨rfl, by simp⟩
  | e :: es, i, h => by
    obtain ⟨y, hy⟩ := h e (by simp)
    by_cases he : x = y
    · subst he
      refine .inr ⟨i, e, Nat.le_refl _, ?_, by simp, hy⟩
      simp [Instr.findNow, hy, Instr.sameNow]
    · have hb : (x == y) = false := beq_eq_false_iff_ne.2 he
      rcases findNow_int x es (i + 1) (fun e he => h e (by simp [he])) with ⟨h1, h2⟩ | ⟨j, e1, h0, h1, h2, h3⟩
      · refine .inl ⟨?_, ?_⟩
        · simp [Instr.findNow, hy, Instr.sameNow, hb, h1]
        · intro e2 h3
          rcases List.mem_cons.1 h3 with rfl | h3
          · rw [hy]
            intro h4
            injection h4 with _ h5
            exact he h5.symm
          · exact h2 e2 h3
      · refine .inr ⟨j, e1, by omega, ?_, ?_, h3⟩
        · simp [Instr.findNow, hy, Instr.sameNow, hb, h1]
        · rw [show j - i = (j - (i + 1)) + 1 by omega]
          simpa using h2
theorem intKeys {P : Program} {k : TypeId} (hk : P.underlying k = some (.int .i64)) : KeyL P k isI where
  check w em v h := by
    obtain ⟨x, rfl⟩ := h
    rw [show (10000 : Nat) = 9999 + 1 from rfl, Instr.checkKey]
    simp [run_underlying hk, Result.andThen]
  find w x hx es hes := by
    obtain ⟨x, rfl⟩ := hx
    rcases findNow_int x es 0 hes with ⟨h1, h2⟩ | ⟨j, e, _, h1, h2, h3⟩
    · exact .inl ⟨by simp [Instr.findKey, run_underlying hk, Result.andThen, h1], h2⟩
    · exact .inr ⟨j, e, by simp [Instr.findKey, run_underlying hk, Result.andThen, h1], by simpa using h2, h3⟩
  stays w v h := by
    obtain ⟨x, rfl⟩ := h
    simp [Instr.keyThatStays, Instr.sameBits]
/-- block b is a map with keys of a type, which holds what F says -/
def Fmap (isK : Value → Prop) (w : World) (b : Nat) (F : Value → Option Value) : Prop :=
  ∃ es clock, w.heap[b]? = some (.map es clock) ∧ (∀ e ∈ es.toList, isK e.key) ∧
    (∀ (i j : Nat) (e e' : MapEntry), es[i]? = some e → es[j]? = some e' → e.key = e'.key → i = j) ∧
    (∀ key v, F key = some v ↔ ∃ (i : Nat) (e : MapEntry), es[i]? = some e ∧ e.key = key ∧ e.val = v)
variable {α : Type} {P : Program} {isK : Value → Prop} {k e t : TypeId} {w : World} {b : Nat} {F : Value → Option Value}
theorem Fmap.made (isK : Value → Prop) (w : World) : Fmap isK (w.alloc (.map #[] 0)) w.heap.size (fun _ => none) :=
  ⟨#[], 0, (MapKept.heap_alloc w _).1, by simp, by simp, by simp⟩
theorem Fmap.of_block {w' : World} (h : Fmap isK w b F) (hb : w'.heap[b]? = w.heap[b]?) : Fmap isK w' b F := by
  obtain ⟨es, c, h1, h2⟩ := h
  exact ⟨es, c, hb.trans h1, h2⟩
theorem Fmap.lt (h : Fmap isK w b F) : b < w.heap.size := by
  obtain ⟨es, c, h1, _⟩ := h
  exact (Array.getElem?_eq_some_iff.1 h1).1
theorem Fmap.grown {w' : World} {row : Option Nat} (h : Fmap isK w b F) (hg : w.grownBy w' row) (hne : some b ≠ row) : Fmap isK w' b F := h.of_block (hg.block b h.lt hne)
theorem Fmap.below {w' : World} (h : Fmap isK w b F) (hb : Below w.heap.size w w') : Fmap isK w' b F := h.of_block (hb.block b h.lt)
theorem Fmap.alloc (h : Fmap isK w b F) (o : Obj) : Fmap isK (w.alloc o) b F := h.below (below_alloc (Below.refl _ _) o)
theorem Fmap.set (h : Fmap isK w b F) {p : Addr} (hp : b ≠ p.block) (u : Value) : Fmap isK (w.setCell p u) b F := h.of_block (Below.heap_setCell w p u b hp)
theorem Fmap.ne_own {d : Kd α} {e base : Nat} {ok : Nat → Prop} {v : Value} {xs : List α} (h : Fmap isK w b F) (hq : d.Q e w base ok v xs) : some b ≠ v.ownBlock := by
  intro he
  obtain ⟨cells, hc⟩ := Kd.Q_typed hq b he.symm
  obtain ⟨es, c, h1, _⟩ := h
  rw [hc] at h1
  cases h1
theorem Fmap.ne_cells (h : Fmap isK w b F) {g : Nat} {cs : Array Value} {t : TypeId} {z : Nat × Nat} (hg : w.heap[g]? = some (.cells cs t z)) : b ≠ g := by
  intro he
  obtain ⟨es, c, h1, _⟩ := h
  rw [he, hg] at h1
  cases h1
theorem Q_overmap {d : Kd α} {e base : Nat} {ok : Nat → Prop} {v : Value} {xs : List α} {w1 : World} (h : Fmap isK w b F) (hq : d.Q e w base ok v xs) (hg : w.grownBy w1 (some b)) : d.Q e w1 base ok v xs :=
  Kd.Q_mono (Kd.Q_grown (Kd.Q_bound hq) hg (fun k hk he => by
    obtain ⟨_, _, _, q, _, cells, hc⟩ := hk
    obtain ⟨es, c, h1, _⟩ := h
    cases he
    rw [hc] at h1
    cases h1)) (fun _ hk => hk.1)
theorem Fmap.ext {G : Value → Option Value} (h : Fmap isK w b F) (e : ∀ x, F x = G x) : Fmap isK w b G := by
  obtain rfl : F = G := funext e
  exact h
theorem Fmap.look (h : Fmap isK w b F) (K : KeyL P k isK) (ht : P.underlying t = some (.map k e)) {z : Value} (hz : (zeroValue e).run P w = .ok z w)
    {key : Value} (hkey : isK key) (c : Bool) :
    (Instr.lookup t (.map (some b)) key c).run P w = .ok (if c then .tuple #[(F key).getD z, .bool (F key).isSome] else (F key).getD z) w := by
  obtain ⟨es, clock, hb, hk, hi, hF⟩ := h
  rcases K.find w hkey es.toList hk with ⟨h1, h2⟩ | ⟨j, e0, h1, h2, h3⟩
  · have hn : F key = none := by
      cases hh : F key with
      | none => rfl
      | some v =>
        obtain ⟨i, e1, g1, g2, _⟩ := (hF key v).1 hh
        exact absurd g2 (h2 e1 (by rw [← Array.getElem?_toList] at g1; exact List.mem_of_getElem? g1))
    rw [hn]
    simp [Instr.lookup, run_underlying ht, MapKept.run_getObj_map hb, K.check w _ hkey, h1, hz, Result.andThen]
  · have hs : F key = some e0.val := (hF key e0.val).2 ⟨j, e0, by simpa using h2, h3, rfl⟩
    rw [hs]
    simp [Instr.lookup, run_underlying ht, MapKept.run_getObj_map hb, K.check w _ hkey, h1, Result.andThen]
theorem Fmap.put (h : Fmap isK w b F) (K : KeyL P k isK) (ht : P.underlying t = some (.map k e)) {key : Value} (hkey : isK key) (val : Value) {G : Value → Option Value} (hG : G key = some val) (hG' : ∀ x, x ≠ key → G x = F x) :
    ∃ w', (Instr.mapUpdate t (.map (some b)) key val).run P w = .ok () w' ∧ Fmap isK w' b G ∧ w.grownBy w' (some b) := by
  obtain ⟨es, clock, hb, hk, hi, hF⟩ := h
  rcases K.find w hkey es.toList hk with ⟨h1, h2⟩ | ⟨j, e0, h1, h2, h3⟩
  · refine ⟨setBlock w b (.map (es.push ⟨key, val, clock⟩) (clock + 1)), ?_, ⟨_, _, heap_setBlock_same hb _, ?_, ?_, ?_⟩, ⟨rfl, rfl, rfl, by simp [setBlock], fun i _ hi => heap_setBlock_other hb _ (fun e => hi (by rw [e]))⟩⟩
    · simp [Instr.mapUpdate, run_underlying ht, MapKept.run_getObj_map hb, K.check w false hkey, h1, MapKept.run_setObj_map _ hb, Result.andThen, setBlock]
    · intro e1 he1
      simp only [Array.toList_push, List.mem_append, List.mem_singleton] at he1
      rcases he1 with he1 | rfl
      · exact hk e1 he1
      · exact hkey
    · intro i j e1 e2 g1 g2 g3
      rw [Array.getElem?_push] at g1 g2
      split at g1
      · split at g2
        · omega
        · cases g1
          exact absurd g3.symm (h2 e2 (by rw [← Array.getElem?_toList] at g2; exact List.mem_of_getElem? g2))
      · split at g2
        · cases g2
          exact absurd g3 (h2 e1 (by rw [← Array.getElem?_toList] at g1; exact List.mem_of_getElem? g1))
        · exact hi i j e1 e2 g1 g2 g3
    · intro x v
      constructor
      · intro hx
        by_cases he : x = key
        · rw [he, hG] at hx
          cases hx
          exact ⟨es.size, ⟨key, val, clock⟩, by simp, he.symm, rfl⟩
        · rw [hG' x he] at hx
          obtain ⟨i, e1, g1, g2, g3⟩ := (hF x v).1 hx
          refine ⟨i, e1, ?_, g2, g3⟩
          have := (Array.getElem?_eq_some_iff.1 g1).1
          rw [Array.getElem?_push, if_neg (by omega)]
          exact g1
      · rintro ⟨i, e1, g1, g2, g3⟩
        rw [Array.getElem?_push] at g1
        split at g1
        · cases g1
          simp at g2 g3
          rw [← g2, hG, g3]
        · rw [hG']
          · exact (hF x v).2 ⟨i, e1, g1, g2, g3⟩
          · intro he
            exact absurd (g2.trans he) (h2 e1 (by rw [← Array.getElem?_toList] at g1; exact List.mem_of_getElem? g1))
  · have hj : es[j]? = some e0 := by simpa using h2
    have hjl : j < es.size := (Array.getElem?_eq_some_iff.1 hj).1
    refine ⟨setBlock w b (.map (es.modify j fun e => { e with key := key, val := val }) clock), ?_, ⟨_, _, heap_setBlock_same hb _, ?_, ?_, ?_⟩, ⟨rfl, rfl, rfl, by simp [setBlock], fun i _ hi => heap_setBlock_other hb _ (fun e => hi (by rw [e]))⟩⟩
    · simp [Instr.mapUpdate, run_underlying ht, MapKept.run_getObj_map hb, K.check w false hkey, h1, hj, h3, K.stays w hkey, MapKept.run_setObj_map _ hb, Result.andThen, setBlock]
    · intro e1 he1
      obtain ⟨i, hi1⟩ := List.getElem?_of_mem he1
      rw [Array.getElem?_toList, Array.getElem?_modify] at hi1
      split at hi1
      · obtain ⟨e2, g1, g2⟩ := Option.map_eq_some_iff.1 hi1
        rw [← g2]
        exact hkey
      · exact hk e1 (by rw [← Array.getElem?_toList] at hi1; exact List.mem_of_getElem? hi1)
    · have aux : ∀ (i : Nat) (e1 : MapEntry), (es.modify j fun e => { e with key := key, val := val })[i]? = some e1 → ∃ e2 : MapEntry, es[i]? = some e2 ∧ e2.key = e1.key := by
        intro i e1 g1
        rw [Array.getElem?_modify] at g1
        split at g1
        · rename_i he
          obtain ⟨e2, q1, q2⟩ := Option.map_eq_some_iff.1 g1
          refine ⟨e2, q1, ?_⟩
          rw [← q2]
          subst he
          rw [hj] at q1
          cases q1
          exact h3
        · exact ⟨e1, g1, rfl⟩
      intro i i' e1 e2 g1 g2 g3
      obtain ⟨a1, b1, c1⟩ := aux i e1 g1
      obtain ⟨a2, b2, c2⟩ := aux i' e2 g2
      exact hi i i' a1 a2 b1 b2 (by rw [c1, c2, g3])
    · intro x v
      constructor
      · intro hx
        by_cases he : x = key
        · rw [he, hG] at hx
          cases hx
          exact ⟨j, { e0 with key := key, val := val }, by rw [Array.getElem?_modify, if_pos rfl, hj]; rfl, he.symm, rfl⟩
        · rw [hG' x he] at hx
          obtain ⟨i, e1, g1, g2, g3⟩ := (hF x v).1 hx
          refine ⟨i, e1, ?_, g2, g3⟩
          rw [Array.getElem?_modify, if_neg]
          · exact g1
          · rintro rfl
            rw [hj] at g1
            cases g1
            exact he (g2.symm.trans h3)
      · rintro ⟨i, e1, g1, g2, g3⟩
        rw [Array.getElem?_modify] at g1
        split at g1
        · obtain ⟨e2, q1, q2⟩ := Option.map_eq_some_iff.1 g1
          subst q2
          simp at g2 g3
          rw [← g2, hG, g3]
        · rename_i hne
          rw [hG']
          · exact (hF x v).2 ⟨i, e1, g1, g2, g3⟩
          · intro he
            exact hne (hi j i e0 e1 hj g1 (by rw [h3, g2, he]))
/-- a look-up at the operation -/
theorem wpList_look (w : World) {ops : Array Oper} {rest : List Oper} {o : Oper} {a : Act} {Q : Exit → Act → World → Prop}
    (hg : o.guard = none) (m x : Operand) (t : TypeId) (c : Bool) (hop : o.op = Op.lookup t m x c) (K : KeyL P k isK) (ht : P.underlying t = some (.map k e)) {z : Value} (hz : (zeroValue e).run P w = .ok z w)
    (hm : a.eval m = .map (some b)) (hown : Fmap isK w b F) (key : Value) (hx : a.eval x = key) (hkey : isK key)
    (hK : wpList P ops Q rest (a.put o.dst (if c then .tuple #[(F key).getD z, .bool (F key).isSome] else (F key).getD z)) w) :
    wpList P ops Q (o :: rest) a w := by
  refine wpList_plain hg fun K' hK' => ?_
  have hrun := hown.look K ht hz hkey c
  unfold Oper.wp
  simp [execOp, hop, hm, hx, hrun, Result.andThen]
  exact hK' _ _ hK
/-- a store at the operation -/
theorem wpList_put (w : World) {ops : Array Oper} {rest : List Oper} {o : Oper} {a : Act} {Q : Exit → Act → World → Prop}
    (hg : o.guard = none) (m x v : Operand) (t : TypeId) (hop : o.op = Op.mapUpdate t m x v ∨ o.op = Op.insert t m x v) (K : KeyL P k isK) (ht : P.underlying t = some (.map k e))
    (hm : a.eval m = .map (some b)) (hown : Fmap isK w b F) (key val : Value) (hx : a.eval x = key) (hv : a.eval v = val) (hkey : isK key) (G : Value → Option Value) (hG : G key = some val) (hG' : ∀ x, x ≠ key → G x = F x)
    (hK : ∀ w', Fmap isK w' b G → w.grownBy w' (some b) → wpList P ops Q rest (a.put o.dst undef) w') :
    wpList P ops Q (o :: rest) a w := by
  refine wpList_plain hg fun K' hK' => ?_
  obtain ⟨w', hrun, r1, r2⟩ := hown.put K ht hkey val hG hG'
  unfold Oper.wp
  rcases hop with hop | hop
  all_goals
    simp [execOp, hop, hm, hx, hv, hrun, Result.andThen]
    exact hK' _ _ (hK w' r1 r2)
end
/-! ### match_Linked: match.Linked, by hand -/
mutual
def match_Linked.l0 : Nat → List S51 → Int → List Int → List Int → Option Bool
  | 0, _, _, _, _ => none
  | k + 1, l, b, seen, op => if (0 : Int) < (op.length : Int) then (if (rd op 0 == b) = true then some true else match_Linked.l1 k l b seen (op.drop 1) (rd op 0) 0) else some false
def match_Linked.l1 : Nat → List S51 → Int → List Int → List Int → Int → Int → Option Bool
  | 0, _, _, _, _, _, _ => none
  | k + 1, l, b, seen, op, x, i => if i < (l.length : Int) then (if 0 ≤ i then match_Linked.l2 k l b seen op x i (rd_T51 l i).f0 (rd_T51 l i).f1 0 else none) else match_Linked.l0 k l b seen op
def match_Linked.l2 : Nat → List S51 → Int → List Int → List Int → Int → Int → Int → Int → Nat → Option Bool
  | 0, _, _, _, _, _, _, _, _, _ => none
  | k + 1, l, b, seen, op, x, i, p, q, j => if j < 2 then
      (if ((if j = 0 then p else q) == x) = true then
        (if (seen.contains (if j = 0 then q else p)) = true then match_Linked.l2 k l b seen op x i p q (j + 1)
         else if op.length < 1000000 then match_Linked.l2 k l b (seen ++ [if j = 0 then q else p]) (op ++ [if j = 0 then q else p]) x i p q (j + 1) else none)
       else match_Linked.l2 k l b seen op x i p q (j + 1))
    else match_Linked.l1 k l b seen op x (wrap64 (i + 1))
end
def match_Linked.f (k : Nat) (l0 : List S51) (a1 a2 : Int) : Option Bool := match_Linked.l0 k l0 a2 [a1] [a1]
theorem zeroB (w : World) : (zeroValue 4).run Try.prog w = .ok (.bool false) w := by kernel_rfl
/-- the set of what was seen -/
def seenF (seen : List Int) : Value → Option Value
  | .int .i64 x => if seen.contains x then some (.bool true) else none
  | _ => none
theorem seenF_yes {seen : List Int} {x : Int} (h : seen.contains x = true) : seenF seen (.int .i64 x) = some (.bool true) := by simp only [seenF]; rw [if_pos h]
theorem seenF_no {seen : List Int} {x : Int} (h : seen.contains x = false) : seenF seen (.int .i64 x) = none := by simp only [seenF]; rw [if_neg (by rw [h]; simp)]
theorem seenF_put (seen : List Int) (x : Int) : seenF (seen ++ [x]) (.int .i64 x) = some (.bool true) := seenF_yes (by simp)
theorem seenF_old (seen : List Int) (x : Int) (v : Value) (hv : v ≠ .int .i64 x) : seenF (seen ++ [x]) v = seenF seen v := by
  unfold seenF
  split
  · rename_i y
    have : y ≠ x := fun h => hv (by rw [h])
    simp [this]
  · rfl
set_option maxHeartbeats 8000000 in
set_option maxRecDepth 100000 in
theorem match_Linked.calls (k : Nat) (A0 : Option Addr) (c0 : Nat) (l0 : List (S51)) (a1 : Int) (a2 : Int) (r : Bool) (w : World) (hr0 : Kd.C k51 w A0 l0.length l0) (hc0 : l0.length ≤ c0) (h : match_Linked.f k l0 a1 a2 = some r) :
    Calls Try.prog 30 #[.slice A0 l0.length c0, .int .i64 a1, .int .i64 a2] w fun e w' => e = .returned (.bool r) ∧ Below w.heap.size w w' := by
  have HR0 := Aside0.mk hr0
  have HC0 := Aside0.mk hc0
  clear hr0 hc0
  have HB := Aside0.mk (Below.refl w.heap.size w)
  have H' := Aside0.mk h
  clear h
  have hmm := @run_makeMap Try.prog
  go_enter Try.func30, Try.ntmps30
  go_wp2_with (refine wpList_put (F := fun _ => none) (isK := isI) _ rfl _ _ _ 94 (.inr rfl) (intKeys Try.underlying3) Try.underlying94 rfl (Fmap.made isI _) (.int .i64 a1) (.bool true) rfl rfl ⟨a1, rfl⟩ (seenF [a1]) ?hG ?hG2 ?_)
  case hG => simp [seenF]
  case hG2 =>
    intro x hx
    unfold seenF
    split
    · rename_i y
      rw [if_neg]
      intro h
      simp at h
      exact hx (by rw [h])
    · rfl
  intro w1 HM1 hg1
  go_wp2
  have hb1 : Below w.heap.size w w1 := pw_below_grown (below_alloc (Below.refl _ _) _) (some w.heap.size) (by simp) hg1 (fun k hk => by cases hk; exact Nat.le_refl _)
  have hQ : Kd.Q (Kd.int .i64) 3 (w1.alloc (.cells #[.int .i64 a1] 3)) w.heap.size (fun _ => True) (.slice (some ⟨w1.heap.size, 0, none⟩) 1 1) [a1] := Kd.Q_of_R (Kd.R_of_own (own_lit w1 w.heap.size 3 .i64 [a1] hb1.size (by simp)) (fun _ _ => trivial))
  have hM : Fmap isI (w1.alloc (.cells #[.int .i64 a1] 3)) w.heap.size (seenF [a1]) := HM1.alloc _
  have hB := below_alloc hb1 (.cells #[.int .i64 a1] 3)
  generalize (w1.alloc (.cells #[.int .i64 a1] 3)) = w2 at hQ hM hB ⊢
  generalize (Value.slice (some ⟨w1.heap.size, 0, none⟩) 1 1) = v8 at hQ ⊢
  have HQ := Aside0.mk hQ
  have HM := Aside0.mk hM
  clear HB hQ hM HM1 hg1 hb1 hmm
  have HB := Aside0.mk hB
  clear hB
  go_loopg [8] k (fun kq v8 w' => ∃ (seen op : List Int), Aside0 (match_Linked.l0 kq l0 a2 seen op = some r) ∧ Aside0 (Kd.Q (Kd.int .i64) 3 w' w.heap.size (fun _ => True) v8 op) ∧ Aside0 (Fmap isI w' w.heap.size (seenF seen)) ∧ Aside0 (Below w.heap.size w w'))
  case atStart => exact ⟨[a1], [a1], H', HQ, HM, HB⟩
  case round =>
    clear H' HQ HM HB
    obtain ⟨seen, op, HA, HQ, HM, HB⟩ := hrel
    cases gk with
    | zero => exact absurd HA.out (by simp [match_Linked.l0])
    | succ k1 =>
      have H := HA.out
      clear HA
      simp only [match_Linked.l0] at H
      obtain ⟨A8, c8, rfl, hc8⟩ := Kd.Q_slice HQ.out
      by_cases c0 : (0 : Int) < (op.length : Int)
      · rw [if_pos c0] at H
        have p1 : 0 < op.length := by omega
        obtain ⟨ad, e8, hx⟩ := Kd.at_int (Kd.Q_reads' HQ.out).2.2 0 (by omega) c0
        subst e8
        have e0 : ad.add (0 : Int).toNat = ad := by unfold Addr.add; simp
        rw [e0] at hx
        clear e0
        obtain ⟨i3, hi3, _, hsz3, _⟩ := info_parts gi3
        have hcut := cut_from (P := Try.prog) 38 3 .i64 Try.underlying38 hi3 1 hsz3 (some ad) op.length c8 1 (by omega) (by omega)
        have hQ := Kd.Q_drop (k := 1) HQ.out (by omega)
        obtain ⟨A1, hA1⟩ : ∃ A1, A1 = (if c8 = 1 then some ad else (some ad : Option Addr).map (·.add (1 * 1))) := ⟨_, rfl⟩
        obtain ⟨c1, hc1⟩ : ∃ c1, c1 = c8 - 1 := ⟨_, rfl⟩
        replace hcut : ∀ W : World, (Instr.slice 38 (.slice (some ad) op.length c8) (some (.int .i64 1)) none none).run Try.prog W = .ok (.slice A1 (op.length - 1) c1) W := by rw [hA1, hc1]; exact hcut
        replace hQ : Kd.Q (Kd.int .i64) 3 wr w.heap.size (fun _ => True) (.slice A1 (op.length - 1) c1) (op.drop 1) := by rw [hA1, hc1]; exact hQ
        clear hA1 hc1 hi3 hsz3
        have HQ1 := Aside0.mk hQ
        have HH := Aside0.mk H
        clear H hQ HQ
        by_cases hxb : (rd op 0 == a2) = true
        · rw [if_pos hxb] at HH
          obtain rfl := Option.some.inj HH.out
          go_wp2
          go_ret
          exact ⟨rfl, HB.out⟩
        · rw [if_neg hxb] at HH
          replace hxb := Bool.eq_false_iff.mpr hxb
          obtain ⟨x, hxx⟩ : ∃ x, x = rd op 0 := ⟨_, rfl⟩
          obtain ⟨o1, ho1⟩ : ∃ o1, o1 = op.drop 1 := ⟨_, rfl⟩
          have hl1 : op.length - 1 = o1.length := by rw [ho1, List.length_drop]
          rw [← hxx] at HH hx hxb
          rw [← ho1] at HH HQ1
          rw [hl1] at hcut HQ1
          clear hxx ho1 hl1
          go_wp2
          go_loopg [8, 32] k1 (fun kq v8 v32 w' => ∃ (seen op : List Int) (i : Int), v32 = .int .i64 i ∧ Aside0 (kq ≤ k1) ∧ Aside0 (match_Linked.l1 kq l0 a2 seen op x i = some r) ∧ Aside0 (Kd.Q (Kd.int .i64) 3 w' w.heap.size (fun _ => True) v8 op) ∧ Aside0 (Fmap isI w' w.heap.size (seenF seen)) ∧ Aside0 (Below w.heap.size w w'))
          case atStart => exact ⟨seen, o1, 0, rfl, ⟨Nat.le_refl _⟩, HH, HQ1, HM, HB⟩
          case round =>
            clear HH HQ1 HM HB hcut hxb hx
            obtain ⟨seen, op, i, rfl, HK1, HA, HQ, HM, HB⟩ := hrel
            cases gk with
            | zero => exact absurd HA.out (by simp [match_Linked.l1])
            | succ k2 =>
              have H := HA.out
              clear HA
              simp only [match_Linked.l1] at H
              by_cases c7 : i < (l0.length : Int)
              · rw [if_pos c7] at H
                by_cases c8 : 0 ≤ i
                · rw [if_pos c8] at H
                  obtain ⟨ad, e213, hx0, hx1⟩ := at_T51 HR0.out i c8 c7
                  cases e213
                  replace hx0 := (HB.out.cell (World.block_lt_of_cell? w _ hx0)).trans hx0
                  replace hx1 := (HB.out.cell (World.block_lt_of_cell? w _ hx1)).trans hx1
                  have HH := Aside0.mk H
                  clear H
                  replace c8 := eq_true c8
                  replace c7 := eq_true c7
                  go_wp2
                  obtain ⟨p, hp⟩ : ∃ p, p = (rd_T51 l0 i).f0 := ⟨_, rfl⟩
                  obtain ⟨q, hq⟩ : ∃ q, q = (rd_T51 l0 i).f1 := ⟨_, rfl⟩
                  rw [← hp, ← hq] at HH ⊢
                  have hmB := Aside0.mk (below_alloc (Below.refl _ wr) (.cells #[.int .i64 p, .int .i64 q] 51))
                  have hQ := Aside0.mk (Kd.Q_below HQ.out hmB.out)
                  have hM := Aside0.mk (HM.out.below hmB.out)
                  have hB := Aside0.mk (below_then HB.out HB.out.size hmB.out)
                  clear hp hq hx0 hx1 hmB HQ HM HB
                  go_loopg [8, 43] k2 (fun kq v8 v43 w' => ∃ (seen op : List Int) (j : Nat), v43 = .int .i64 (j : Int) ∧ Aside0 (kq ≤ k2) ∧ Aside0 (j ≤ 2) ∧ Aside0 (match_Linked.l2 kq l0 a2 seen op x i p q j = some r) ∧ Aside0 (Kd.Q (Kd.int .i64) 3 w' w.heap.size (fun _ => True) v8 op) ∧ Aside0 (Fmap isI w' w.heap.size (seenF seen)) ∧ Aside0 (Below w.heap.size w w'))
                  case atStart => exact ⟨seen, op, 0, rfl, ⟨Nat.le_refl _⟩, ⟨by omega⟩, HH, hQ, hM, hB⟩
                  case round =>
                    clear HH hQ hM hB
                    obtain ⟨seen, op, j, rfl, HK2, hj, HA, HQ, HM, HB⟩ := hrel
                    cases gk with
                    | zero => exact absurd HA.out (by simp [match_Linked.l2])
                    | succ k3 =>
                    have H := HA.out
                    clear HA
                    rcases (show j = 0 ∨ j = 1 ∨ j = 2 by have := hj.out; omega) with rfl | rfl | rfl
                    · simp only [match_Linked.l2] at H
                      rw [if_pos (by omega)] at H
                      replace H : (if (p == x) = true then (if (seen.contains q) = true then match_Linked.l2 k3 l0 a2 seen op x i p q 1 else if op.length < 1000000 then match_Linked.l2 k3 l0 a2 (seen ++ [q]) (op ++ [q]) x i p q 1 else none) else match_Linked.l2 k3 l0 a2 seen op x i p q 1) = some r := H
                      have i0 : ∀ w, (Instr.index 95 (.agg #[.int .i64 p, .int .i64 q, .int .i64 q, .int .i64 p]) (.int .i64 0)).run Try.prog w = .ok (.agg #[.int .i64 p, .int .i64 q]) w := fun _ => by kernel_rfl
                      by_cases hx : (p == x) = true
                      · rw [if_pos hx] at H
                        by_cases hc : (seen.contains q) = true
                        · rw [if_pos hc] at H
                          have HH := Aside0.mk H
                          have HCC := Aside0.mk hc
                          clear H hc
                          have hmB := Aside0.mk (below_alloc (Below.refl _ wr) (.cells #[.int .i64 p, .int .i64 q] 51))
                          have hmF := Aside0.mk (HM.out.below hmB.out)
                          have hlk := hmF.out.look (intKeys Try.underlying3) Try.underlying94 (zeroB _) (key := .int .i64 q) ⟨q, rfl⟩ false
                          rw [seenF_yes HCC.out] at hlk
                          simp only [Option.getD_some, Bool.false_eq_true, if_false] at hlk
                          go_wp2
                          go_roundg k3
                          case rel => exact ⟨seen, op, 1, rfl, ⟨by have := HK2.out; omega⟩, ⟨by omega⟩, HH, ⟨Kd.Q_below HQ.out hmB.out⟩, hmF, ⟨below_then HB.out HB.out.size hmB.out⟩⟩
                          case measure => omega
                        · have hc' : seen.contains q = false := Bool.eq_false_iff.mpr hc
                          rw [if_neg hc] at H
                          by_cases hlen : op.length < 1000000
                          · rw [if_pos hlen] at H
                            have HH := Aside0.mk H
                            have HCC := Aside0.mk hc'
                            have HL := Aside0.mk hlen
                            clear H hc hc' hlen
                            have hmB := Aside0.mk (below_alloc (Below.refl _ wr) (.cells #[.int .i64 p, .int .i64 q] 51))
                            have hmF := Aside0.mk (HM.out.below hmB.out)
                            have hmQ := Aside0.mk (Kd.Q_below HQ.out hmB.out)
                            have hmBB := Aside0.mk (below_then HB.out HB.out.size hmB.out)
                            have hbk := Aside0.mk (blk_new wr (.cells #[.int .i64 p, .int .i64 q] 51))
                            have hlk := hmF.out.look (intKeys Try.underlying3) Try.underlying94 (zeroB _) (key := .int .i64 q) ⟨q, rfl⟩ false
                            rw [seenF_no HCC.out] at hlk
                            simp only [Option.getD_none, Bool.false_eq_true, if_false] at hlk
                            clear HQ HB HM
                            go_wp2_with (at_mapUpdate; clear hlk; refine wpList_put _ rfl _ _ _ 94 (.inl rfl) (intKeys Try.underlying3) Try.underlying94 rfl hmF.out (.int .i64 q) (.bool true) rfl rfl ⟨q, rfl⟩ (seenF (seen ++ [q])) (seenF_put _ _) (fun v hv => seenF_old _ _ v hv) ?_)
                            intro w4 hM4 hg4
                            have HM4 := Aside0.mk hM4
                            have HQ4 := Aside0.mk (Q_overmap hmF.out hmQ.out hg4)
                            have HB4 := Aside0.mk (pw_below_grown hmBB.out (some w.heap.size) hmBB.out.size hg4 (fun k hk => by cases hk; exact Nat.le_refl _))
                            have hbk4 := blk_grown hbk.out hg4 (fun he => hmF.out.ne_cells hbk.out (Option.some.inj he).symm)
                            have hcell : w4.cell? ⟨wr.heap.size, 1, none⟩ = some (.int .i64 q) := (blk_cell hbk4 1).trans rfl
                            clear hM4 hg4 hbk4 hmF hmQ hmBB hbk hmB
                            go_wp2_with (at_builtin; refine Kd.Q_append (Kd.int .i64) (w0 := w) w.heap.size rfl (.tmp 60) (.tmp 63) 38 3 (.int .i64 0) 8 rfl Try.underlying38 gi3 rfl (by decide) (by decide) _ op q [.int .i64 q] (fun _ => True) (fun _ => False) rfl rfl rfl (fun _ h => h.elim) (fun _ _ => trivial) HQ4.out HB4.out HB4.out.size ?hl ?_)
                            case hl => have := HL.out; omega
                            intro v5 w5 hQ5 hB5 hg5 _
                            have HM5 := Aside0.mk (HM4.out.grown hg5 (HM4.out.ne_own HQ4.out))
                            have HQ5 := Aside0.mk hQ5
                            have HB5 := Aside0.mk hB5
                            clear hQ5 hB5 hg5 HM4 HQ4 HB4
                            go_wp2
                            go_roundg k3
                            case rel => exact ⟨seen ++ [q], op ++ [q], 1, rfl, ⟨by have := HK2.out; omega⟩, ⟨by omega⟩, HH, HQ5, HM5, HB5⟩
                            case measure => omega
                          · rw [if_neg hlen] at H
                            cases H
                      · rw [if_neg hx] at H
                        replace hx := Bool.eq_false_iff.mpr hx
                        have HH := Aside0.mk H
                        clear H
                        have hmB := Aside0.mk (below_alloc (Below.refl _ wr) (.cells #[.int .i64 p, .int .i64 q] 51))
                        have hmF := Aside0.mk (HM.out.below hmB.out)
                        go_wp2
                        go_roundg k3
                        case rel => exact ⟨seen, op, 1, rfl, ⟨by have := HK2.out; omega⟩, ⟨by omega⟩, HH, ⟨Kd.Q_below HQ.out hmB.out⟩, hmF, ⟨below_then HB.out HB.out.size hmB.out⟩⟩
                        case measure => omega
                    · simp only [match_Linked.l2] at H
                      rw [if_pos (by omega)] at H
                      replace H : (if (q == x) = true then (if (seen.contains p) = true then match_Linked.l2 k3 l0 a2 seen op x i p q 2 else if op.length < 1000000 then match_Linked.l2 k3 l0 a2 (seen ++ [p]) (op ++ [p]) x i p q 2 else none) else match_Linked.l2 k3 l0 a2 seen op x i p q 2) = some r := H
                      have i0 : ∀ w, (Instr.index 95 (.agg #[.int .i64 p, .int .i64 q, .int .i64 q, .int .i64 p]) (.int .i64 1)).run Try.prog w = .ok (.agg #[.int .i64 q, .int .i64 p]) w := fun _ => by kernel_rfl
                      by_cases hx : (q == x) = true
                      · rw [if_pos hx] at H
                        by_cases hc : (seen.contains p) = true
                        · rw [if_pos hc] at H
                          have HH := Aside0.mk H
                          have HCC := Aside0.mk hc
                          clear H hc
                          have hmB := Aside0.mk (below_alloc (Below.refl _ wr) (.cells #[.int .i64 q, .int .i64 p] 51))
                          have hmF := Aside0.mk (HM.out.below hmB.out)
                          have hlk := hmF.out.look (intKeys Try.underlying3) Try.underlying94 (zeroB _) (key := .int .i64 p) ⟨p, rfl⟩ false
                          rw [seenF_yes HCC.out] at hlk
                          simp only [Option.getD_some, Bool.false_eq_true, if_false] at hlk
                          go_wp2
                          go_roundg k3
                          case rel => exact ⟨seen, op, 2, rfl, ⟨by have := HK2.out; omega⟩, ⟨by omega⟩, HH, ⟨Kd.Q_below HQ.out hmB.out⟩, hmF, ⟨below_then HB.out HB.out.size hmB.out⟩⟩
                          case measure => omega
                        · have hc' : seen.contains p = false := Bool.eq_false_iff.mpr hc
                          rw [if_neg hc] at H
                          by_cases hlen : op.length < 1000000
                          · rw [if_pos hlen] at H
                            have HH := Aside0.mk H
                            have HCC := Aside0.mk hc'
                            have HL := Aside0.mk hlen
                            clear H hc hc' hlen
                            have hmB := Aside0.mk (below_alloc (Below.refl _ wr) (.cells #[.int .i64 q, .int .i64 p] 51))
                            have hmF := Aside0.mk (HM.out.below hmB.out)
                            have hmQ := Aside0.mk (Kd.Q_below HQ.out hmB.out)
                            have hmBB := Aside0.mk (below_then HB.out HB.out.size hmB.out)
                            have hbk := Aside0.mk (blk_new wr (.cells #[.int .i64 q, .int .i64 p] 51))
                            have hlk := hmF.out.look (intKeys Try.underlying3) Try.underlying94 (zeroB _) (key := .int .i64 p) ⟨p, rfl⟩ false
                            rw [seenF_no HCC.out] at hlk
                            simp only [Option.getD_none, Bool.false_eq_true, if_false] at hlk
                            clear HQ HB HM
                            go_wp2_with (at_mapUpdate; clear hlk; refine wpList_put _ rfl _ _ _ 94 (.inl rfl) (intKeys Try.underlying3) Try.underlying94 rfl hmF.out (.int .i64 p) (.bool true) rfl rfl ⟨p, rfl⟩ (seenF (seen ++ [p])) (seenF_put _ _) (fun v hv => seenF_old _ _ v hv) ?_)
                            intro w4 hM4 hg4
                            have HM4 := Aside0.mk hM4
                            have HQ4 := Aside0.mk (Q_overmap hmF.out hmQ.out hg4)
                            have HB4 := Aside0.mk (pw_below_grown hmBB.out (some w.heap.size) hmBB.out.size hg4 (fun k hk => by cases hk; exact Nat.le_refl _))
                            have hbk4 := blk_grown hbk.out hg4 (fun he => hmF.out.ne_cells hbk.out (Option.some.inj he).symm)
                            have hcell : w4.cell? ⟨wr.heap.size, 1, none⟩ = some (.int .i64 p) := (blk_cell hbk4 1).trans rfl
                            clear hM4 hg4 hbk4 hmF hmQ hmBB hbk hmB
                            go_wp2_with (at_builtin; refine Kd.Q_append (Kd.int .i64) (w0 := w) w.heap.size rfl (.tmp 60) (.tmp 63) 38 3 (.int .i64 0) 8 rfl Try.underlying38 gi3 rfl (by decide) (by decide) _ op p [.int .i64 p] (fun _ => True) (fun _ => False) rfl rfl rfl (fun _ h => h.elim) (fun _ _ => trivial) HQ4.out HB4.out HB4.out.size ?hl ?_)
                            case hl => have := HL.out; omega
                            intro v5 w5 hQ5 hB5 hg5 _
                            have HM5 := Aside0.mk (HM4.out.grown hg5 (HM4.out.ne_own HQ4.out))
                            have HQ5 := Aside0.mk hQ5
                            have HB5 := Aside0.mk hB5
                            clear hQ5 hB5 hg5 HM4 HQ4 HB4
                            go_wp2
                            go_roundg k3
                            case rel => exact ⟨seen ++ [p], op ++ [p], 2, rfl, ⟨by have := HK2.out; omega⟩, ⟨by omega⟩, HH, HQ5, HM5, HB5⟩
                            case measure => omega
                          · rw [if_neg hlen] at H
                            cases H
                      · rw [if_neg hx] at H
                        replace hx := Bool.eq_false_iff.mpr hx
                        have HH := Aside0.mk H
                        clear H
                        have hmB := Aside0.mk (below_alloc (Below.refl _ wr) (.cells #[.int .i64 q, .int .i64 p] 51))
                        have hmF := Aside0.mk (HM.out.below hmB.out)
                        go_wp2
                        go_roundg k3
                        case rel => exact ⟨seen, op, 2, rfl, ⟨by have := HK2.out; omega⟩, ⟨by omega⟩, HH, ⟨Kd.Q_below HQ.out hmB.out⟩, hmF, ⟨below_then HB.out HB.out.size hmB.out⟩⟩
                        case measure => omega
                    · simp only [match_Linked.l2] at H
                      rw [if_neg (by omega)] at H
                      have HH := Aside0.mk H
                      clear H
                      go_wp2
                      go_roundg k3
                      case rel => exact ⟨seen, op, wrap64 (i + 1), (by first | rfl | (simp; done) | (simp [*]; done)), ⟨by have := HK1.out; have := HK2.out; omega⟩, HH, HQ, HM, HB⟩
                      case measure => have := HK1.out; have := HK2.out; omega
                · rw [if_neg c8] at H
                  cases H
              · rw [if_neg c7] at H
                have HH := Aside0.mk H
                clear H
                go_wp2
                go_roundg k2
                case rel => exact ⟨seen, op, HH, HQ, HM, HB⟩
                case measure => have := HK1.out; omega
      · rw [if_neg c0] at H
        obtain rfl := Option.some.inj H
        have p1 : op.length = 0 := by omega
        have p2 : ¬ (0 < op.length) := by omega
        go_wp2
        go_ret
        exact ⟨rfl, HB.out⟩
/-! ### match_Class: match.Class with its closures, by hand -/
def match_Class.rt : Nat → List Int → Int → Option Int
  | 0, _, _ => none
  | k + 1, tl, i => if 0 ≤ i then (if i < (tl.length : Int) then (if (rd tl i == i) = true then some i else match_Class.rt k tl (rd tl i)) else none) else none
def inN (n x : Int) : Bool := decide (0 ≤ x) && decide (x < n)
set_option maxHeartbeats 4000000 in
set_option maxRecDepth 100000 in
theorem root_any (k : Nat) (bt : Nat) (A : Option Addr) (c : Nat) (tl : List Int) (i0 r : Int) (w : World) (hbt : w.heap[bt]? = some (.cells #[.slice A tl.length c] 38 (0, 0))) (hC : Kd.C (Kd.int .i64) w A tl.length tl) (h : match_Class.rt k tl i0 = some r) :
    Calls Try.prog 58 #[.int .i64 i0, .pointer (some ⟨bt, 0, none⟩)] w fun e w' => e = .returned (.int .i64 r) ∧ w' = w := by
  have HC := Aside0.mk hC
  have H' := Aside0.mk h
  have t0 : w.cell? ⟨bt, 0, none⟩ = some (.slice A tl.length c) := (blk_cell hbt 0).trans rfl
  clear hC h hbt
  go_enter Try.func58, Try.ntmps58
  go_wp2
  go_loopg [0] k (fun kq v0 w' => ∃ i : Int, v0 = .int .i64 i ∧ Aside0 (match_Class.rt kq tl i = some r) ∧ Aside0 (w' = w))
  case atStart => exact ⟨i0, rfl, H', ⟨rfl⟩⟩
  case round =>
    clear H'
    obtain ⟨i, rfl, HA, HW⟩ := hrel
    cases gk with
    | zero => exact absurd HA.out (by simp [match_Class.rt])
    | succ k1 =>
      have H := HA.out
      clear HA
      simp only [match_Class.rt] at H
      by_cases c0 : 0 ≤ i
      · rw [if_pos c0] at H
        by_cases c1 : i < (tl.length : Int)
        · rw [if_pos c1] at H
          have hW := HW.out
          subst hW
          obtain ⟨ad, e, hx⟩ := Kd.at_int HC.out i c0 c1
          subst e
          replace c0 := eq_true c0
          replace c1 := eq_true c1
          by_cases hr : (rd tl i == i) = true
          · rw [if_pos hr] at H
            have hr' : (rd tl i != i) = false := by simp [bne, hr]
            obtain rfl := Option.some.inj H
            have HR := Aside0.mk hr
            clear hr
            go_wp2
            skip
            go_ret
            exact ⟨rfl, rfl⟩
          · rw [if_neg hr] at H
            have hr' : (rd tl i != i) = true := by simp [bne, Bool.eq_false_iff.mpr hr]
            have HH := Aside0.mk H
            clear H hr
            go_wp2
            go_roundg k1
            case rel => exact ⟨_, rfl, HH, ⟨rfl⟩⟩
            case measure => omega
        · rw [if_neg c1] at H
          cases H
      · rw [if_neg c0] at H
        cases H
set_option maxHeartbeats 4000000 in
set_option maxRecDepth 100000 in
theorem in_any (bn : Nat) (n x : Int) (w : World) (hbn : w.heap[bn]? = some (.cells #[.int .i64 n] 3 (0, 0))) :
    Calls Try.prog 59 #[.int .i64 x, .pointer (some ⟨bn, 0, none⟩)] w fun e w' => e = .returned (.bool (inN n x)) ∧ w' = w := by
  have t0 : w.cell? ⟨bn, 0, none⟩ = some (.int .i64 n) := (blk_cell hbn 0).trans rfl
  clear hbn
  by_cases h0 : 0 ≤ x
  · have e : inN n x = decide (x < n) := by simp [inN, h0]
    rw [e]
    clear e
    go_enter Try.func59, Try.ntmps59
    go_wp2
    skip
    go_ret
    exact ⟨rfl, rfl⟩
  · have e : inN n x = false := by simp [inN, h0]
    rw [e]
    clear e
    go_enter Try.func59, Try.ntmps59
    go_wp2
    go_ret
    exact ⟨rfl, rfl⟩
mutual
def match_Class.l0 : Nat → Int → Int → List S51 → List Int → Int → Option (List Int)
  | 0, _, _, _, _, _ => none
  | k + 1, m, n, l, tl, i => if i < m then (if tl.length < 17592186044416 then match_Class.l0 k m n l (tl ++ [i]) (wrap64 (i + 1)) else none) else match_Class.l1 k n l tl 0
def match_Class.l1 : Nat → Int → List S51 → List Int → Int → Option (List Int)
  | 0, _, _, _, _ => none
  | k + 1, n, l, tl, i => if i < (l.length : Int) then (if 0 ≤ i then (
      if inN n (rd_T51 l i).f0 = true then (if inN n (rd_T51 l i).f1 = true then
        ((match_Class.rt k tl (rd_T51 l i).f0).bind fun a => (match_Class.rt k tl (rd_T51 l i).f1).bind fun b => if 0 ≤ mx a b then (if mx a b < (tl.length : Int) then match_Class.l1 k n l (tl.set (mx a b).toNat (mn a b)) (wrap64 (i + 1)) else none) else none)
        else match_Class.l1 k n l tl (wrap64 (i + 1))) else match_Class.l1 k n l tl (wrap64 (i + 1))) else none)
    else match_Class.l2 k tl (tl.length : Int) 0
def match_Class.l2 : Nat → List Int → Int → Int → Option (List Int)
  | 0, _, _, _ => none
  | k + 1, tl, m, i => if i < m then ((match_Class.rt k tl i).bind fun a => if 0 ≤ i then (if i < (tl.length : Int) then match_Class.l2 k (tl.set i.toNat a) m (wrap64 (i + 1)) else none) else none) else some tl
end
def match_Class.f (k : Nat) (a0 : Int) (l1 : List S51) : Option (List Int) := if a0 > 16777216 then some [] else match_Class.l0 k (mx a0 0) a0 l1 [] 0
section
variable {P : Program} {ops : Array Oper} {Q : Exit → Act → World → Prop}
/-- a closure's call in a region that draws -/
theorem goesK_ {oi : Oper} {N : Option Tmp} {a : Act} {w : World} {K : Act → World → Prop} {f : FuncId} {fn : Func} {ag : Array Operand} {ts : Array TypeId} {s : Operand} (hf : P.funcs[f]? = some fn) (hname : (fn.name == "runtime.NumGoroutine") = false) (hb : fn.body.isSome = true) (args0 cap args : Array Value) (hcat : args0 ++ cap = args)
    (hw : Region.wanted oi (yielded ops a.tmps) = true) (hN : oi.dst = N) (hop : oi.op = .call { callee := .value s, args := ag, argTypes := ts }) (hs : a.eval s = .func (.func f) #[] cap) (hargs : ag.map a.eval = args0)
    (h : Calls P f args w fun e w' => ∃ v, e = .returned v ∧ K (a.put N v) w') : if Region.wanted oi (yielded ops a.tmps) = true then Oper.wp P oi a w K Q else K (a.put N undef) w := by
  subst hcat
  refine call_ f (args0 ++ cap) hw hN ?_ h
  have he := enters_ hf hname hb (args0 ++ cap) w
  unfold execOp
  simp [hop, resolve, Deferred.ofValue, invoke, hs, hargs, he]
end
def mcls.T21 : Bool × List (List Nat × List Nat) := (true, [([], []), ([], []), ([], []), ([], []), ([2, 3], [2, 3]), ([0, 1, 0, 1, 2, 3, 4], [0, 1]), ([5, 4, 4, 0, 1, 2, 3, 4], [4, 5])])
def mcls.B21 : List Nat := [0, 0, 0, 0, 12, 31, 63]
theorem mcls.tab21 : rtab .any (opsOf Try.f23 21) = mcls.T21 := by kernel_rfl
theorem mcls.bits21 : waitsOk mcls.T21.2 mcls.B21 = true := by kernel_rfl
/-- the world of a call: two boxes, and the row in the second one -/
def ClW (w : World) (n : Int) (w' : World) (tl : List Int) : Prop :=
  ∃ v : Value, w'.heap[w.heap.size]? = some (.cells #[.int .i64 n] 3 (0, 0)) ∧ w'.heap[w.heap.size + 1]? = some (.cells #[v] 38 (0, 0)) ∧ Kd.R (Kd.int .i64) 3 w' w.heap.size (fun k => k ≠ w.heap.size) v tl ∧ Below w.heap.size w w'
theorem ClW.alloc {w w' : World} {n : Int} {tl : List Int} (h : ClW w n w' tl) (o : Obj) : ClW w n (w'.alloc o) tl := by
  obtain ⟨v, h1, h2, h3, h4⟩ := h
  have hb := below_alloc (Below.refl _ w') o
  exact ⟨v, (hb.block _ (blk_lt h1)).trans h1, (hb.block _ (blk_lt h2)).trans h2, Kd.R_below h3 hb, below_alloc h4 o⟩
theorem ClW.drew {w w' : World} {n : Int} {tl : List Int} (h : ClW w n w' tl) (m : Nat) : ClW w n (w'.drewN m) tl := by
  obtain ⟨v, h1, h2, h3, h4⟩ := h
  exact ⟨v, h1, h2, Kd.R_drewN h3 m, pw_below_drewN h4 m⟩
theorem ClW.put {w w1 w5 : World} {n : Int} {v v5 : Value} {xs ys : List Int} (g1 : w1.heap[w.heap.size]? = some (.cells #[.int .i64 n] 3 (0, 0))) (g2 : w1.heap[w.heap.size + 1]? = some (.cells #[v] 38 (0, 0)))
    (g3 : Kd.R (Kd.int .i64) 3 w1 w.heap.size (fun k => k ≠ w.heap.size) v xs) (hR : Kd.R (Kd.int .i64) 3 w5 w.heap.size (fun k => k ≠ w.heap.size) v5 ys) (hB : Below w.heap.size w w5) (hg : w1.grownBy w5 v.ownBlock) :
    w5.cell? ⟨w.heap.size + 1, 0, none⟩ = some v ∧ w5.frozen? ⟨w.heap.size + 1, 0, none⟩ = false ∧ ClW w n (w5.setCell ⟨w.heap.size + 1, 0, none⟩ v5) ys := by
  have n1 : some w.heap.size ≠ v.ownBlock := fun he => g3.1 _ he.symm rfl
  have n2 : some (w.heap.size + 1) ≠ v.ownBlock := Kd.R_ne g3 g2 (by decide)
  have b1 := blk_grown g1 hg n1
  have b2 := blk_grown g2 hg n2
  refine ⟨(blk_cell b2 0).trans rfl, blk_frozen b2 0, v5, blk_far b1 (show w.heap.size ≠ w.heap.size + 1 by omega) _, blk_set b2 0 _, Kd.R_set hR b2 (by decide) 0 _, below_set hB (by show w.heap.size ≤ w.heap.size + 1; omega)⟩
theorem ClW.store {w W : World} {n : Int} {gg cap : Nat} {tl : List Int} (g1 : W.heap[w.heap.size]? = some (.cells #[.int .i64 n] 3 (0, 0))) (g2 : W.heap[w.heap.size + 1]? = some (.cells #[.slice (some ⟨gg, 0, none⟩) tl.length cap] 38 (0, 0)))
    (g3 : Kd.R (Kd.int .i64) 3 W w.heap.size (fun k => k ≠ w.heap.size) (.slice (some ⟨gg, 0, none⟩) tl.length cap) tl) (g4 : Below w.heap.size w W) (M m : Int) : ClW w n (W.setCell ⟨gg, M.toNat, none⟩ (.int .i64 m)) (tl.set M.toNat m) := by
  have n1 : gg ≠ w.heap.size := g3.1 gg (by simp [Value.ownBlock])
  have n2 : some (w.heap.size + 1) ≠ (Value.slice (some ⟨gg, 0, none⟩) tl.length cap).ownBlock := Kd.R_ne g3 g2 (by decide)
  have n3 : w.heap.size ≤ gg := Kd.R_base g3 gg (by simp [Value.ownBlock])
  refine ⟨.slice (some ⟨gg, 0, none⟩) tl.length cap, blk_far g1 (fun h => n1 h.symm) _, blk_far g2 (fun h => n2 (by simp [Value.ownBlock, h])) _, ?_, below_set g4 n3⟩
  exact Kd.R_putn g3 M m
set_option maxHeartbeats 8000000 in
set_option maxRecDepth 100000 in
theorem match_Class.calls (k : Nat) (a0 : Int) (A1 : Option Addr) (c1 : Nat) (l1 : List S51) (r : List Int) (w : World) (hr1 : Kd.C k51 w A1 l1.length l1) (hc1 : l1.length ≤ c1) (h : match_Class.f k a0 l1 = some r) :
    Calls Try.prog 23 #[.int .i64 a0, .slice A1 l1.length c1] w fun e w' => ∃ v0_ : Value, e = .returned (v0_) ∧ Kd.R (Kd.int .i64) 3 w' w.heap.size (fun _ => True) v0_ r ∧ Below w.heap.size w w' := by
  have HR1 := Aside0.mk hr1
  have HC1 := Aside0.mk hc1
  clear hr1 hc1
  unfold match_Class.f at h
  by_cases hn : a0 > 16777216
  · rw [if_pos hn] at h
    obtain rfl := Option.some.inj h
    clear h
    go_enter Try.func23, Try.ntmps23
    go_wp2
    go_ret
    exact ⟨_, rfl, Kd.R_nil _ _ _ _ _, below_alloc (Below.refl _ _) _⟩
  · rw [if_neg hn] at h
    obtain ⟨m0, hm0⟩ : ∃ m0 : Int, mx a0 0 = m0 := ⟨_, rfl⟩
    rw [hm0] at h
    have hm0_ : (if a0 < 0 then 0 else a0) = m0 := hm0
    have H' := Aside0.mk h
    clear h hm0
    go_enter Try.func23, Try.ntmps23
    go_wp2
    clear hm0_
    have hW : ClW w a0 ((w.alloc (.cells #[.int .i64 a0] 3)).alloc (.cells #[.slice none 0 0] 38)) [] := by
      refine ⟨.slice none 0 0, blk_alloc (blk_new w _) _, ?_, Kd.R_nil _ _ _ _ _, below_alloc (below_alloc (Below.refl _ _) _) _⟩
      have := blk_new (w.alloc (.cells #[.int .i64 a0] 3)) (.cells #[.slice none 0 0] 38)
      simpa using this
    generalize ((w.alloc (.cells #[.int .i64 a0] 3)).alloc (.cells #[.slice none 0 0] 38)) = w2 at hW ⊢
    have HW := Aside0.mk hW
    clear hW
    go_loopg [18] k (fun kq v18 w' => ∃ (tl : List Int) (i : Int), v18 = .int .i64 i ∧ Aside0 (kq ≤ k) ∧ Aside0 (match_Class.l0 kq m0 a0 l1 tl i = some r) ∧ Aside0 (ClW w a0 w' tl))
    case atStart => exact ⟨[], 0, rfl, ⟨Nat.le_refl _⟩, H', HW⟩
    case round =>
      clear H' HW
      obtain ⟨tl, i, rfl, HK0, HA, HW⟩ := hrel
      cases gk with
      | zero => exact absurd HA.out (by simp [match_Class.l0])
      | succ k1 =>
        have H := HA.out
        clear HA
        simp only [match_Class.l0] at H
        by_cases c0 : i < m0
        · rw [if_pos c0] at H
          by_cases hlen : tl.length < 17592186044416
          · rw [if_pos hlen] at H
            have HH := Aside0.mk H
            have HL := Aside0.mk hlen
            clear H hlen
            obtain ⟨v, g1, g2, g3, g4⟩ := HW.out
            have t5 : wr.cell? ⟨w.heap.size + 1, 0, none⟩ = some v := (blk_cell g2 0).trans rfl
            have G := Aside0.mk (And.intro g1 (And.intro g2 (And.intro g3 g4)))
            clear g1 g2 g3 g4
            have c0b : decide (i < m0) = true := decide_eq_true c0
            clear c0
            go_wp2_with (at_builtin; refine Kd.R_append (Kd.int .i64) (w0 := w) w.heap.size rfl (.tmp 21) (.tmp 23) 38 3 (.int .i64 0) 8 rfl Try.underlying38 gi3 rfl (by decide) (by decide) v tl i [.int .i64 i] (fun k => k ≠ w.heap.size) (fun _ => False) rfl rfl rfl (fun _ h => h.elim) ?hf G.out.2.2.1 G.out.2.2.2 G.out.2.2.2.size ?hl ?_)
            case hf => intro k hk; have := blk_lt G.out.1; omega
            case hl => have := HL.out; omega
            intro v5 w5 hR5 hB5 hg5 _
            obtain ⟨A5, c5, rfl⟩ := Kd.R_slice hR5
            have hP := ClW.put G.out.1 G.out.2.1 G.out.2.2.1 hR5 hB5 hg5
            have HP := Aside0.mk hP.2.2
            obtain ⟨p1, p2, _⟩ := hP
            clear hR5 hB5 hg5 G t5
            go_wp2
            go_roundg k1
            case rel => exact ⟨tl ++ [i], wrap64 (i + 1), (by first | rfl | (simp; done) | (simp [*]; done)), ⟨by have := HK0.out; omega⟩, HH, by simpa using HP⟩
            case measure => have := HK0.out; omega
          · rw [if_neg hlen] at H
            cases H
        · rw [if_neg c0] at H
          have c0b : decide (i < m0) = false := decide_eq_false c0
          clear c0
          have HH := Aside0.mk H
          clear H
          go_wp2
          go_loopg [30] k1 (fun kq v30 w' => ∃ (tl : List Int) (i : Int), v30 = .int .i64 i ∧ Aside0 (kq ≤ k1) ∧ Aside0 (match_Class.l1 kq a0 l1 tl i = some r) ∧ Aside0 (ClW w a0 w' tl))
          case atStart => exact ⟨tl, 0, rfl, ⟨Nat.le_refl _⟩, HH, HW⟩
          case round =>
            clear HH HW
            obtain ⟨tl, i, rfl, HK1, HA, HW⟩ := hrel
            cases gk with
            | zero => exact absurd HA.out (by simp [match_Class.l1])
            | succ k2 =>
              have H := HA.out
              clear HA
              simp only [match_Class.l1] at H
              by_cases c1 : i < (l1.length : Int)
              · rw [if_pos c1] at H
                by_cases c2 : 0 ≤ i
                · rw [if_pos c2] at H
                  obtain ⟨ad, e213, hx0, hx1⟩ := at_T51 HR1.out i c2 c1
                  cases e213
                  obtain ⟨p, hp⟩ : ∃ p, p = (rd_T51 l1 i).f0 := ⟨_, rfl⟩
                  obtain ⟨q, hq⟩ : ∃ q, q = (rd_T51 l1 i).f1 := ⟨_, rfl⟩
                  have hb := HW.out.choose_spec.2.2.2
                  rw [← hp, ← hq] at H
                  rw [← hp] at hx0
                  rw [← hq] at hx1
                  replace hx0 := (hb.cell (World.block_lt_of_cell? w _ hx0)).trans hx0
                  replace hx1 := (hb.cell (World.block_lt_of_cell? w _ hx1)).trans hx1
                  clear hp hq hb
                  have HH := Aside0.mk H
                  clear H
                  replace c1 := eq_true c1
                  replace c2 := eq_true c2
                  have hW2 := Aside0.mk (HW.out.alloc (.cells #[.int .i64 p, .int .i64 q] 51))
                  have hb2 := Aside0.mk (blk_new wr (.cells #[.int .i64 p, .int .i64 q] 51))
                  clear HW
                  by_cases hi0 : inN a0 p = true
                  · rw [if_pos hi0] at HH
                    by_cases hi1 : inN a0 q = true
                    · rw [if_pos hi1] at HH
                      have HI0 := Aside0.mk hi0
                      have HI1 := Aside0.mk hi1
                      clear hi0 hi1
                      obtain ⟨a, ha, H⟩ := Option.bind_eq_some_iff.1 HH.out
                      obtain ⟨b, hb, H⟩ := Option.bind_eq_some_iff.1 H
                      clear HH
                      by_cases hm0 : 0 ≤ mx a b
                      · rw [if_pos hm0] at H
                        by_cases hm1 : mx a b < (tl.length : Int)
                        · rw [if_pos hm1] at H
                          obtain ⟨v, g1, g2, g3, g4⟩ := hW2.out
                          obtain ⟨M, hM⟩ : ∃ M, mx a b = M := ⟨_, rfl⟩
                          obtain ⟨m, hm⟩ : ∃ m, mn a b = m := ⟨_, rfl⟩
                          rw [hM] at hm0 hm1 H
                          rw [hm] at H
                          obtain ⟨gg, cap, rfl, _⟩ := Kd.R_form g3 (by omega)
                          obtain ⟨ad5, e5, hx5⟩ := Kd.at_int (Kd.R_reads' g3).2.2 M hm0 hm1
                          cases e5
                          obtain ⟨_, _, _, _, hfr0⟩ := Kd.R_elem g3 0 M hm0 hm1
                          have hfr := hfr0 0
                          rw [show M.toNat * (Kd.int .i64).sz + 0 = M.toNat by show M.toNat * 1 + 0 = M.toNat; omega] at hfr
                          rw [add_plain] at hx5
                          have hRA : ∀ x, Calls Try.prog 58 #[.int .i64 p, .pointer (some ⟨w.heap.size + 1, 0, none⟩)] ((wr.alloc (.cells #[.int .i64 p, .int .i64 q] 51)).drewN x) fun e w' => e = .returned (.int .i64 a) ∧ ∃ n, w' = (wr.alloc (.cells #[.int .i64 p, .int .i64 q] 51)).drewN n := fun x =>
                            (root_any k2 (w.heap.size + 1) (some ⟨gg, 0, none⟩) cap tl p a ((wr.alloc (.cells #[.int .i64 p, .int .i64 q] 51)).drewN x) g2 (Kd.R_reads' (Kd.R_drewN g3 x)).2.2 ha).mono fun e w' h => ⟨h.1, x, h.2⟩
                          have hRB : ∀ x, Calls Try.prog 58 #[.int .i64 q, .pointer (some ⟨w.heap.size + 1, 0, none⟩)] ((wr.alloc (.cells #[.int .i64 p, .int .i64 q] 51)).drewN x) fun e w' => e = .returned (.int .i64 b) ∧ ∃ n, w' = (wr.alloc (.cells #[.int .i64 p, .int .i64 q] 51)).drewN n := fun x =>
                            (root_any k2 (w.heap.size + 1) (some ⟨gg, 0, none⟩) cap tl q b ((wr.alloc (.cells #[.int .i64 p, .int .i64 q] 51)).drewN x) g2 (Kd.R_reads' (Kd.R_drewN g3 x)).2.2 hb).mono fun e w' h => ⟨h.1, x, h.2⟩
                          have hM_ : (if a < b then b else a) = M := hM
                          have hm_ : (if b < a then b else a) = m := hm
                          have t5 := (blk_cell g2 0).trans rfl
                          have HH := Aside0.mk H
                          have HRA := Aside0.mk (And.intro hRA hRB)
                          have G := Aside0.mk (And.intro g1 (And.intro g2 (And.intro g3 g4)))
                          clear H ha hb hRA hRB hM hm hfr0 hW2 g1 g2 g3 g4
                          replace hm0 := eq_true hm0
                          replace hm1 := eq_true hm1
                          go_wp2_with (go_at_call 59; refine (in_any _ _ _ _ G.out.1).mono ?_; rintro e w' ⟨rfl, rfl⟩; first | rw [HI0.out] | rw [HI1.out])
                          go_quiet ((go_at_call 58; first | with_reducible exact HRA.out.1 _ | with_reducible exact HRA.out.2 _))
                          go_wp2
                          go_roundg k2
                          case rel => exact ⟨tl.set M.toNat m, wrap64 (i + 1), (by first | rfl | (simp; done) | (simp [*]; done)), ⟨by have := HK1.out; omega⟩, HH, ⟨ClW.store (W := World.drewN _ _) G.out.1 G.out.2.1 (Kd.R_drewN G.out.2.2.1 _) (pw_below_drewN G.out.2.2.2 _) M m⟩⟩
                          case measure => have := HK1.out; omega
                        · rw [if_neg hm1] at H
                          cases H
                      · rw [if_neg hm0] at H
                        cases H
                    · rw [if_neg hi1] at HH
                      replace hi1 := Bool.eq_false_iff.mpr hi1
                      have HI0 := Aside0.mk hi0
                      have HI1 := Aside0.mk hi1
                      clear hi0 hi1
                      go_wp2_with (go_at_call 59; refine (in_any _ _ _ _ hW2.out.choose_spec.1).mono ?_; rintro e w' ⟨rfl, rfl⟩; first | rw [HI0.out] | rw [HI1.out])
                      go_roundg k2
                      case rel => exact ⟨tl, wrap64 (i + 1), (by first | rfl | (simp; done) | (simp [*]; done)), ⟨by have := HK1.out; omega⟩, HH, hW2⟩
                      case measure => have := HK1.out; omega
                  · rw [if_neg hi0] at HH
                    replace hi0 := Bool.eq_false_iff.mpr hi0
                    have HI0 := Aside0.mk hi0
                    clear hi0
                    go_wp2_with (go_at_call 59; refine (in_any _ _ _ _ hW2.out.choose_spec.1).mono ?_; rintro e w' ⟨rfl, rfl⟩; rw [HI0.out])
                    go_roundg k2
                    case rel => exact ⟨tl, wrap64 (i + 1), (by first | rfl | (simp; done) | (simp [*]; done)), ⟨by have := HK1.out; omega⟩, HH, hW2⟩
                    case measure => have := HK1.out; omega
                · rw [if_neg c2] at H
                  cases H
              · rw [if_neg c1] at H
                obtain ⟨v, g1, g2, g3, g4⟩ := HW.out
                obtain ⟨A5, c5, rfl⟩ := Kd.R_slice g3
                have t5 := (blk_cell g2 0).trans rfl
                have HH := Aside0.mk H
                clear H g1 g2 g3 g4
                obtain ⟨t0, ht0⟩ : ∃ t0, t0 = tl := ⟨_, rfl⟩
                subst ht0
                go_wp2
                go_loopg [63] k2 (fun kq v63 w' => ∃ (tl : List Int) (i : Int), v63 = .int .i64 i ∧ Aside0 (kq ≤ k2) ∧ Aside0 (match_Class.l2 kq tl (t0.length : Int) i = some r) ∧ Aside0 (ClW w a0 w' tl))
                case atStart => exact ⟨t0, 0, rfl, ⟨Nat.le_refl _⟩, HH, HW⟩
                case round =>
                  clear HH HW t5
                  obtain ⟨tl, i, rfl, HK2, HA, HW⟩ := hrel
                  cases gk with
                  | zero => exact absurd HA.out (by simp [match_Class.l2])
                  | succ k3 =>
                    have H := HA.out
                    clear HA
                    simp only [match_Class.l2] at H
                    obtain ⟨v, g1, g2, g3, g4⟩ := HW.out
                    by_cases c2 : i < (t0.length : Int)
                    · rw [if_pos c2] at H
                      obtain ⟨a, ha, H⟩ := Option.bind_eq_some_iff.1 H
                      by_cases c3 : 0 ≤ i
                      · rw [if_pos c3] at H
                        by_cases c4 : i < (tl.length : Int)
                        · rw [if_pos c4] at H
                          obtain ⟨gg, cap, rfl, _⟩ := Kd.R_form g3 (by omega)
                          obtain ⟨ad5, e5, hx5⟩ := Kd.at_int (Kd.R_reads' g3).2.2 i c3 c4
                          cases e5
                          obtain ⟨_, _, _, _, hfr0⟩ := Kd.R_elem g3 0 i c3 c4
                          have hfr := hfr0 0
                          rw [show i.toNat * (Kd.int .i64).sz + 0 = i.toNat by show i.toNat * 1 + 0 = i.toNat; omega] at hfr
                          rw [add_plain] at hx5
                          have t5 := (blk_cell g2 0).trans rfl
                          have HR := Aside0.mk (fun W (n1 : W.heap[w.heap.size + 1]? = some (.cells #[.slice (some ⟨gg, 0, none⟩) tl.length cap] 38 (0, 0))) hC => root_any k3 (w.heap.size + 1) (some ⟨gg, 0, none⟩) cap tl i a W n1 hC ha)
                          have HH := Aside0.mk H
                          have G := Aside0.mk (And.intro g1 (And.intro g2 (And.intro g3 g4)))
                          clear H ha hfr0 g1 g2 g3 g4 HW
                          replace c3 := eq_true c3
                          replace c4 := eq_true c4
                          have c2b : decide (i < (t0.length : Int)) = true := decide_eq_true c2
                          clear c2
                          go_wp2
                          refine start_ (n := 7) (S := fun w' => w'.cell? ⟨w.heap.size + 1, 0, none⟩ = some (.slice (some ⟨gg, 0, none⟩) tl.length cap)) (ds := [6]) #[false, false, false, false, false, false, false] (by kernel_rfl) rfl rfl t5 (fun hHeld => ?_)
                          refine with_tabW mcls.tab21 mcls.bits21 (fun HT_ HW_ => ?_)
                          refine take_ (i := 0) (N := some 66) (v := ?_) (a' := ?_) #[true, false, false, false, false, false, false] rfl rfl (take_ofW HT_.out HW_.out (by kernel_rfl)) (fun _ _ _ h => h) (Or.inl ⟨by rfl, ?_⟩) hHeld ?_ ?_
                          rotate_left
                          · intro w' s0
                            go_simp
                            with_reducible rfl
                          rotate_left
                          · simp only [Act.put, List.setIfInBounds_toArray, List.set_cons_zero, List.set_cons_succ, i64_w, i32_w]
                            rfl
                          refine pure_ (i := 1) (N := some 67) (v := ?_) (a' := ?_) #[true, true, false, false, false, false, false] rfl rfl (any_of HT_.out (by kernel_rfl)) (fun _ _ _ h => h) (Or.inl ⟨by rfl, ?_⟩) ?_ ?_
                          rotate_left
                          · intro w'
                            go_simp
                            with_reducible rfl
                          rotate_left
                          · simp only [Act.put, List.setIfInBounds_toArray, List.set_cons_zero, List.set_cons_succ, i64_w, i32_w]
                            rfl
                          refine pure_ (i := 2) (N := some 68) (v := ?_) (a' := ?_) #[true, true, true, false, false, false, false] rfl rfl (any_of HT_.out (by kernel_rfl)) (fun _ _ _ h => h) (Or.inl ⟨by rfl, ?_⟩) ?_ ?_
                          rotate_left
                          · intro w'
                            go_simp
                            with_reducible rfl
                          rotate_left
                          · simp only [Act.put, List.setIfInBounds_toArray, List.set_cons_zero, List.set_cons_succ, i64_w, i32_w]
                            rfl
                          refine pure_ (i := 3) (N := some 69) (v := ?_) (a' := ?_) #[true, true, true, true, false, false, false] rfl rfl (any_of HT_.out (by kernel_rfl)) (fun _ _ _ h => h) (Or.inl ⟨by rfl, ?_⟩) ?_ ?_
                          rotate_left
                          · intro w'
                            go_simp
                            with_reducible rfl
                          rotate_left
                          · simp only [Act.put, List.setIfInBounds_toArray, List.set_cons_zero, List.set_cons_succ, i64_w, i32_w]
                            rfl
                          refine one_ (i := 4) (N := some 70) #[true, true, true, true, true, false, false] rfl rfl (one_of HT_.out (by kernel_rfl)) (by decide) (fun K hK => ?_)
                          refine goesK_ Try.func58 (by kernel_rfl) rfl #[.int .i64 i] #[.pointer (some ⟨w.heap.size + 1, 0, none⟩)] #[.int .i64 i, .pointer (some ⟨w.heap.size + 1, 0, none⟩)] rfl (by rfl) rfl rfl rfl (by (try simp only [List.map_toArray, List.map_cons, List.map_nil]); first | done | rfl) ?_
                          refine (HR.out wr.drew G.out.2.1 (Kd.R_reads' (Kd.R_drew G.out.2.2.1)).2.2).mono ?_
                          rintro e w1 ⟨rfl, rfl⟩
                          refine ⟨_, rfl, ?_⟩
                          refine hK.out _ _ hHeld (fun hHeld => ?_)
                          clear hK K
                          refine norm_ (a' := ?_) ?_ ?_
                          rotate_left
                          · show Act.put _ (some 70) _ = _
                            simp only [Act.put, List.setIfInBounds_toArray, List.set_cons_zero, List.set_cons_succ, i64_w, i32_w]
                            rfl
                          refine pure_ (i := 5) (N := some 71) (v := ?_) (a' := ?_) #[true, true, true, true, true, true, false] rfl rfl (any_of HT_.out (by kernel_rfl)) (fun _ _ _ h => h) (Or.inl ⟨by rfl, ?_⟩) ?_ ?_
                          rotate_left
                          · intro w'
                            go_simp
                            with_reducible rfl
                          rotate_left
                          · simp only [Act.put, List.setIfInBounds_toArray, List.set_cons_zero, List.set_cons_succ, i64_w, i32_w]
                            rfl
                          refine last_ (i := 6) (N := none) #[true, true, true, true, true, true, true] rfl rfl (one_of HT_.out (by kernel_rfl)) (by decide) (fun K hK => ?_)
                          refine skip_ (w1 := ?_) (by rfl) rfl ?_ ?_
                          rotate_left
                          · go_simp
                            rfl
                          refine hK.out _ _ ?_
                          clear hK K
                          refine done_ (done_of HT_.out (by kernel_rfl)) ?_
                          clear HT_ HW_
                          go_wp2
                          go_roundg k3
                          case rel => exact ⟨tl.set i.toNat a, wrap64 (i + 1), (by first | rfl | (simp; done) | (simp [*]; done)), ⟨by have := HK2.out; omega⟩, HH, ⟨ClW.store (W := World.drew _) G.out.1 G.out.2.1 (Kd.R_drew G.out.2.2.1) (below_drew G.out.2.2.2) i a⟩⟩
                          case measure => have := HK2.out; omega
                        · rw [if_neg c4] at H
                          cases H
                      · rw [if_neg c3] at H
                        cases H
                    · rw [if_neg c2] at H
                      obtain rfl := Option.some.inj H
                      obtain ⟨A5, c5, rfl⟩ := Kd.R_slice g3
                      have t5 := (blk_cell g2 0).trans rfl
                      have G := Aside0.mk (And.intro g3 g4)
                      have c2b : decide (i < (t0.length : Int)) = false := decide_eq_false c2
                      clear g1 g2 g3 g4 HW c2
                      go_wp2
                      go_ret
                      exact ⟨_, rfl, Kd.R_mono G.out.1 (fun _ _ => trivial), G.out.2⟩
/-! ### slices.Compact at pairs, by hand -/
theorem eqG51 (d : Nat) (w : World) (x0 y0 : Int) (x1 y1 : Int) :
    (Op.equalIn (d + 2) 51 (.agg #[.int .i64 x0, .int .i64 x1]) (.agg #[.int .i64 y0, .int .i64 y1])).run Try.prog w = .ok (x0 == y0 && (x1 == y1)) w := by
  refine eqA_of Try.underlying51 (by kernel_rfl) ?_
  refine eqf_cons (by rfl) (by go_simp; rfl) (by go_simp; rfl) (by go_simp) ?_
  exact eqf_last (by rfl) (by go_simp; rfl) (by go_simp; rfl) (by go_simp)
attribute [local go_sem high] eqG51
instance : Inhabited S51 := ⟨z51⟩
/-- are two pairs one? -/
def sameP (p q : S51) : Bool := p.f0 == q.f0 && (p.f1 == q.f1)
def atP (xs : List S51) (i : Nat) : S51 := xs.getD i z51
/-- the second loop: from the first pair that stood there already -/
def cpt.l1 : Nat → List S51 → Nat → Nat → Nat → Option (List S51)
  | 0, _, _, _, _ => none
  | k + 1, xs, k0, kk, j => if k0 + j + 1 < xs.length then (if sameP (atP xs (k0 + j + 1)) (atP xs (k0 + j)) = true then cpt.l1 k xs k0 kk (j + 1) else
      (if kk < xs.length then cpt.l1 k (xs.set kk (atP xs (k0 + j + 1))) k0 (kk + 1) (j + 1) else none)) else (if kk ≤ xs.length then some (xs.take kk) else none)
def cpt.l0 : Nat → List S51 → Nat → Option (List S51)
  | 0, _, _ => none
  | k + 1, xs, j => if j + 1 < xs.length then (if sameP (atP xs (j + 1)) (atP xs j) = true then cpt.l1 k xs (j + 1) (j + 1) 0 else cpt.l0 k xs (j + 1)) else some xs
def cpt.f (k : Nat) (xs : List S51) : Option (List S51) := if xs.length < 2 then some xs else cpt.l0 k xs 0
/-- a pair of an own row, its cells -/
theorem own_cells {W : World} {base g n cap : Nat} {ok : Nat → Prop} {xs : List S51} (h : Kd.R k51 51 W base ok (.slice (some ⟨g, 0, none⟩) n cap) xs) (i : Nat) (hi : i < n) :
    W.cell? ⟨g, i * 2, none⟩ = some (.int .i64 (atP xs i).f0) ∧ W.cell? ⟨g, i * 2 + 1, none⟩ = some (.int .i64 (atP xs i).f1) ∧ W.frozen? ⟨g, i * 2, none⟩ = false ∧ W.frozen? ⟨g, i * 2 + 1, none⟩ = false := by
  obtain ⟨cA, _, mA, cellA, fA⟩ := Kd.R_elem h z51 (i : Int) (by omega) (by omega)
  obtain rfl := k51_openM mA
  have a0 := cellA 0 _ rfl
  have a1 := cellA 1 _ rfl
  have f0 := fA 0
  have f1 := fA 1
  rw [show k51.sz = 2 from rfl, Int.toNat_natCast] at a0 a1 f0 f1
  exact ⟨a0, a1, f0, f1⟩
theorem own_block {W : World} {base g n cap : Nat} {ok : Nat → Prop} {xs : List S51} (h : Kd.R k51 51 W base ok (.slice (some ⟨g, 0, none⟩) n cap) xs) : ∃ cur, W.heap[g]? = some (.cells cur 51 (0, 0)) ∧ cur.size = cap * 2 ∧ n ≤ cap ∧ cap ≤ maxLen := by
  obtain ⟨_, inner, ⟨_, ho⟩, _⟩ := h
  rcases ho with ⟨hv, _⟩ | ⟨g', cap', cur, hv, _, hh, hnc, hcm, hcs, _⟩
  · cases hv
  · injection hv with ha hn hc
    injection ha with ha
    injection ha with hg
    subst hg; subst hc; subst hn
    exact ⟨cur, hh, hcs, hnc, hcm⟩
theorem own_put {W : World} {base g n cap : Nat} {ok : Nat → Prop} {xs : List S51} (h : Kd.R k51 51 W base ok (.slice (some ⟨g, 0, none⟩) n cap) xs) (i : Nat) (hi : i < n) (x : S51) :
    Kd.R k51 51 ((W.setCell ⟨g, i * 2, none⟩ (.int .i64 x.f0)).setCell ⟨g, i * 2 + 1, none⟩ (.int .i64 x.f1)) base ok (.slice (some ⟨g, 0, none⟩) n cap) (xs.set i x) ∧ W.grownBy ((W.setCell ⟨g, i * 2, none⟩ (.int .i64 x.f0)).setCell ⟨g, i * 2 + 1, none⟩ (.int .i64 x.f1)) (some g) := by
  obtain ⟨c, hc, mA, cellA, _⟩ := Kd.R_elem h z51 (i : Int) (by omega) (by omega)
  have hs := Kd.R_seg (d := k51) (okp := fun _ => False) h (i : Int) (by omega) (by omega) hc cellA (j := 0) (seg := [.int .i64 x.f0, .int .i64 x.f1]) (by show 0 + 2 ≤ 2; omega) (x' := x) (by
    have : c.drop (0 + 2) = [] := List.drop_eq_nil_of_le (by rw [hc]; show 2 ≤ 2; omega)
    show k51.M W base (fun _ => False) x (c.take 0 ++ [.int .i64 x.f0, .int .i64 x.f1] ++ c.drop (0 + 2))
    rw [this]
    exact k51_mkM _ _ _ x) (fun _ h => h.elim)
  rw [Int.toNat_natCast, show k51.sz = 2 from rfl] at hs
  exact hs
/-- what stands ahead of the cells that are written stays -/
theorem own_tail {W : World} {base g n cap m : Nat} {ok : Nat → Prop} {xs : List S51} (h : Kd.R k51 51 W base ok (.slice (some ⟨g, 0, none⟩) n cap) xs) (hm : m ≤ xs.length) (zs : List Value) (hz : m * 2 + zs.length ≤ cap * 2) :
    Kd.R k51 51 (W.setCells g (m * 2) zs) base ok (.slice (some ⟨g, 0, none⟩) m cap) (xs.take m) ∧ W.grownBy (W.setCells g (m * 2) zs) (some g) := by
  have ht := Kd.R_take h hm
  obtain ⟨h0, inner, ⟨hl, ho⟩, hr⟩ := ht
  rcases ho with ⟨hv, _⟩ | ⟨g', cap', cur, hv, hb, hh, hnc, hcm, hcs, htk⟩
  · cases hv
  · injection hv with ha hn hc
    injection ha with ha
    injection ha with hg
    subst hg; subst hc
    have hv : (Value.slice (some ⟨g, 0, none⟩) m cap) = .slice (some ⟨g, 0, none⟩) (xs.take m).length cap := by rw [← hn]
    rw [show k51.sz = 2 from rfl] at hcs htk
    obtain ⟨cur', h3, h4, h5⟩ := setCells_row zs (m * 2) W cur hh (by omega)
    obtain ⟨s1, s2, s3, s4⟩ := setCells_same g zs (m * 2) W
    refine ⟨⟨h0, inner, ⟨hl, .inr ⟨g, cap, cur', hv, hb, h3, hnc, hcm, by rw [h4]; exact hcs, ?_⟩⟩, ?_⟩, ⟨s1, s2, s3, by rw [s4]; exact Nat.le_refl _, fun k _ hk => setCells_far zs _ k (fun he => hk (by rw [he]))⟩⟩
    · rw [← htk, h5, ← hn, show k51.sz = 2 from rfl, List.append_assoc, List.take_append_of_le_length (by rw [List.length_take, Array.length_toList]; omega), List.take_take, Nat.min_self]
    · exact hr.imp_ (fun p c hp => by obtain rfl := k51_openM hp; exact k51_mkM _ _ _ p)
theorem zeroA51 (w : World) : (zeroValue 51).run Try.prog w = .ok (.agg #[.int .i64 0, .int .i64 0]) w := by kernel_rfl
theorem run_clear51 (W : World) (ty : TypeId) (g o n c : Nat) (hn : 0 < n) (hc : ∀ j, j < n * 2 → (W.cell? ⟨g, o + j, none⟩).isSome = true) (hf : ∀ j, j < n * 2 → W.frozen? ⟨g, o + j, none⟩ = false) :
    ∃ zs : List Value, zs.length = n * 2 ∧ (Builtin.clear_ #[41] ty #[.slice (some ⟨g, o, none⟩) n c]).run Try.prog W = .ok (.tuple #[]) (W.setCells g o zs) := by
  refine ⟨(Builtin.zeroCells #[.int .i64 0, .int .i64 0] n).toList, by simp [Builtin.zeroCells], ?_⟩
  have hl : (Builtin.zeroCells #[Value.int .i64 0, .int .i64 0] n).toList.length = n * 2 := by simp [Builtin.zeroCells]
  have hst := run_storeCells_cells (P := Try.prog) g o (Builtin.zeroCells #[.int .i64 0, .int .i64 0] n).toList 0 W (by rw [hl]; simpa using hc) (by rw [hl]; simpa using hf) (by
    intro v hv
    rw [Array.mem_toList_iff] at hv
    unfold Builtin.zeroCells at hv
    rw [Array.mem_map] at hv
    obtain ⟨i, _, rfl⟩ := hv
    have : i % 2 = 0 ∨ i % 2 = 1 := by omega
    rcases this with h | h <;> simp [h] <;> rfl)
  obtain ⟨m, rfl⟩ : ∃ m, n = m + 1 := ⟨n - 1, by omega⟩
  simp only [Nat.add_zero] at hst
  simp [Builtin.clear_, run_underlying Try.underlying41, zeroA51, hst, Value.cells]
theorem vi {a b : Int} (h : a = b) : Value.int .i64 a = .int .i64 b := by rw [h]
theorem grown_grown {w w1 w2 : World} {row : Option Nat} (h : w.grownBy w1 row) (k : w1.grownBy w2 row) : w.grownBy w2 row :=
  ⟨k.os.trans h.os, k.tape.trans h.tape, k.output.trans h.output, Nat.le_trans h.size k.size, fun i hi hn => (k.block i (Nat.lt_of_lt_of_le hi h.size) hn).trans (h.block i hi hn)⟩
theorem grown_drewN {w w' : World} {row : Option Nat} (h : w.grownBy w' row) (n : Nat) : w.grownBy (w'.drewN n) row := ⟨h.os, h.tape, h.output, h.size, h.block⟩
set_option maxHeartbeats 4000000 in
set_option maxRecDepth 100000 in
theorem compact_any (k : Nat) (base : Nat) (ok : Nat → Prop) (g n cap : Nat) (xs r : List S51) (w : World) (hR : Kd.R k51 51 w base ok (.slice (some ⟨g, 0, none⟩) n cap) xs) (hn : n < 1000000) (h : cpt.f k xs = some r) :
    Calls Try.prog 63 #[.slice (some ⟨g, 0, none⟩) n cap] w fun e w' => ∃ v : Value, e = .returned v ∧ Kd.R k51 51 w' base ok v r ∧ w.grownBy w' (some g) := by
  have hnx := (Kd.R_reads' hR).1
  have hnc := (Kd.R_reads' hR).2.1
  have HR := Aside0.mk hR
  have HX := Aside0.mk hnx
  clear hR hnx
  have hu51 := Try.underlying51
  unfold cpt.f at h
  by_cases h2 : xs.length < 2
  · rw [if_pos h2] at h
    obtain rfl := Option.some.inj h
    have h2' : n < 2 := by have := HX.out; omega
    clear h h2
    go_enter Try.func63, Try.ntmps63
    go_wp2
    go_ret
    exact ⟨_, rfl, HR.out, World.grownBy.refl _ _⟩
  · rw [if_neg h2] at h
    have h2' : ¬ n < 2 := by have := HX.out; omega
    have HH := Aside0.mk h
    clear h h2
    go_enter Try.func63, Try.ntmps63
    go_wp2
    go_loopg [3] k (fun kq v3 w' => ∃ j : Nat, v3 = .int .i64 ((j : Int) + 1) ∧ Aside0 (kq ≤ k) ∧ Aside0 (cpt.l0 kq xs j = some r) ∧ Aside0 (Kd.R k51 51 w' base ok (.slice (some ⟨g, 0, none⟩) n cap) xs) ∧ Aside0 (w.grownBy w' (some g)))
    case atStart => exact ⟨0, rfl, ⟨Nat.le_refl _⟩, HH, HR, ⟨World.grownBy.refl _ _⟩⟩
    case round =>
      clear HH HR
      obtain ⟨j, rfl, HK0, HA, HR, HG⟩ := hrel
      cases gk with
      | zero => exact absurd HA.out (by simp [cpt.l0])
      | succ k1 =>
        have H := HA.out
        clear HA
        simp only [cpt.l0] at H
        by_cases c0 : j + 1 < xs.length
        · rw [if_pos c0] at H
          have c0n : (j : Int) + 1 < (n : Int) := by have := HX.out; omega
          have c0i : (j : Int) < (n : Int) := by omega
          have c0m : j < n := by omega
          have c0k : j + 1 < n := by omega
          have hz : 0 ≤ (j : Int) + 1 := by omega
          have ht : ((j : Int) + 1).toNat = j + 1 := by omega
          obtain ⟨a0, a1, _, _⟩ := own_cells HR.out (j + 1) c0k
          obtain ⟨b0, b1, _, _⟩ := own_cells HR.out j c0m
          obtain ⟨x, hx⟩ : ∃ x, x = atP xs (j + 1) := ⟨_, rfl⟩
          obtain ⟨y, hy⟩ : ∃ y, y = atP xs j := ⟨_, rfl⟩
          rw [← hx] at a0 a1 H
          rw [← hy] at b0 b1 H
          have hw1 : IntKind.i64.wrap ((j : Int) + 1 - 1) = (j : Int) := by rw [IntWalk.i64_in _ (by omega)]; omega
          have hw2 : IntKind.i64.wrap (j : Int) = (j : Int) := IntWalk.i64_in _ (by omega)
          clear hx hy c0
          cases hs : sameP x y
          · rw [hs, if_neg (by simp)] at H
            have hs' : (x.f0 == y.f0 && (x.f1 == y.f1)) = false := hs
            have HH := Aside0.mk H
            clear H hs
            go_wp2
            go_quiet (fail)
            go_wp2
            go_roundg k1
            case rel => exact ⟨j + 1, by go_num, ⟨by have := HK0.out; omega⟩, HH, ⟨Kd.R_drewN HR.out _⟩, ⟨grown_drewN HG.out _⟩⟩
            case measure => have := HK0.out; omega
          · rw [hs, if_pos rfl] at H
            have hs' : (x.f0 == y.f0 && (x.f1 == y.f1)) = true := hs
            have HH := Aside0.mk H
            clear H hs
            go_wp2
            go_quiet (fail)
            go_wp2
            have hcut : ∀ W : World, (Instr.slice 41 (.slice (some ⟨g, 0, none⟩) n cap) (some (.int .i64 ((j : Int) + 1))) none none).run Try.prog W = .ok (.slice (some ⟨g, (j + 1) * 2, none⟩) (n - (j + 1)) (cap - (j + 1))) W := by
              intro W
              obtain ⟨i0, hi0, _, hsz, _⟩ := info_parts giP
              have h := cut_from (P := Try.prog) 41 51 .i64 Try.underlying41 hi0 2 hsz (some ⟨g, 0, none⟩) n cap ((j : Int) + 1) (by omega) (by omega) W
              rw [ht, if_neg (by omega)] at h
              rw [h]
              simp only [Option.map_some, add_plain]
            go_wp2
            obtain ⟨k0, hk0⟩ : ∃ k0, j + 1 = k0 := ⟨_, rfl⟩
            obtain ⟨m2, hm2⟩ : ∃ m2, n - k0 = m2 := ⟨_, rfl⟩
            obtain ⟨c2, hc2⟩ : ∃ c2, cap - k0 = c2 := ⟨_, rfl⟩
            have hkc : ((j : Int) + 1) = (k0 : Int) := by omega
            rw [hkc, hk0, hm2, hc2]
            rw [hk0] at HH
            have hkm : k0 + m2 = n ∧ 1 ≤ m2 := by omega
            generalize hW : (World.drewN _ _) = W1
            have hR1 : Kd.R k51 51 W1 base ok (.slice (some ⟨g, 0, none⟩) n cap) xs := by rw [← hW]; exact Kd.R_drewN HR.out _
            have hG1 : w.grownBy W1 (some g) := by rw [← hW]; exact grown_drewN HG.out _
            have HR1 := Aside0.mk hR1
            have HG1 := Aside0.mk hG1
            have HKM := Aside0.mk hkm
            clear hW hR1 hG1 HR HG hkc hk0 hm2 hc2 hcut hw1 hw2 hs' a0 a1 b0 b1 hz ht c0n c0i c0m c0k hkm
            go_loopg [3, 5] k1 (fun kq v3 v5 w' => ∃ (xs : List S51) (kk j : Nat), v3 = .int .i64 (kk : Int) ∧ v5 = .int .i64 ((j : Int) + 1) ∧ Aside0 (kq ≤ k1) ∧ Aside0 (kk ≤ k0 + j) ∧ Aside0 (j + 1 ≤ m2) ∧ Aside0 (cpt.l1 kq xs k0 kk j = some r) ∧ Aside0 (Kd.R k51 51 w' base ok (.slice (some ⟨g, 0, none⟩) n cap) xs) ∧ Aside0 (w.grownBy w' (some g)))
            case atStart => exact ⟨xs, k0, 0, rfl, rfl, ⟨Nat.le_refl _⟩, ⟨Nat.le_refl _⟩, ⟨by have := HKM.out; omega⟩, HH, HR1, HG1⟩
            case round =>
              clear HH HR1 HG1
              obtain ⟨xs, kk, j, rfl, rfl, HK1, HKK, HJ, HA, HR, HG⟩ := hrel
              have hnx := (Kd.R_reads' HR.out).1
              have hnc := (Kd.R_reads' HR.out).2.1
              have HX := Aside0.mk (And.intro hnx hnc)
              clear hnx hnc
              cases gk with
              | zero => exact absurd HA.out (by simp [cpt.l1])
              | succ k2 =>
                have H := HA.out
                clear HA
                simp only [cpt.l1] at H
                by_cases c0 : k0 + j + 1 < xs.length
                · rw [if_pos c0] at H
                  have c0n : (j : Int) + 1 < (m2 : Int) := by have := HX.out; have := HKM.out; omega
                  have c0i : (j : Int) < (m2 : Int) := by omega
                  have c0m : j < m2 := by omega
                  have c0k : j + 1 < m2 := by omega
                  have hz : 0 ≤ (j : Int) + 1 := by omega
                  have ht : ((j : Int) + 1).toNat = j + 1 := by omega
                  obtain ⟨a0, a1, _, _⟩ := own_cells HR.out (k0 + j + 1) (by have := HKM.out; omega)
                  obtain ⟨b0, b1, _, _⟩ := own_cells HR.out (k0 + j) (by have := HKM.out; omega)
                  obtain ⟨x, hx⟩ : ∃ x, x = atP xs (k0 + j + 1) := ⟨_, rfl⟩
                  obtain ⟨y, hy⟩ : ∃ y, y = atP xs (k0 + j) := ⟨_, rfl⟩
                  rw [← hx] at a0 a1 H
                  rw [← hy] at b0 b1 H
                  rw [show (k0 + j + 1) * 2 = k0 * 2 + (j + 1) * 2 by omega] at a0 a1
                  rw [show (k0 + j) * 2 = k0 * 2 + j * 2 by omega] at b0 b1
                  have hjn : j + 1 < n := by have := HKM.out; omega
                  have hw1 : IntKind.i64.wrap ((j : Int) + 1 - 1) = (j : Int) := by rw [IntWalk.i64_in _ (by omega)]; omega
                  have hw2 : IntKind.i64.wrap (j : Int) = (j : Int) := IntWalk.i64_in _ (by omega)
                  clear hx hy c0
                  cases hs : sameP x y
                  · rw [hs, if_neg (by simp)] at H
                    have hs' : (!(x.f0 == y.f0) || !(x.f1 == y.f1)) = true := by
                      have h1 : (x.f0 == y.f0 && (x.f1 == y.f1)) = false := hs
                      rw [← Bool.not_and, h1]; rfl
                    have hs2 : (x.f0 == y.f0 && (x.f1 == y.f1)) = false := hs
                    by_cases c3 : kk < xs.length
                    · rw [if_pos c3] at H
                      have HH := Aside0.mk H
                      have d0 : (kk : Int) < (n : Int) := by have := HX.out; omega
                      have d1 : kk < n := by omega
                      have HC := Aside0.mk c3
                      clear H hs c3
                      go_wp2
                      go_quiet (fail)
                      generalize hW : (World.drewN _ _) = W1
                      have hR1 : Kd.R k51 51 W1 base ok (.slice (some ⟨g, 0, none⟩) n cap) xs := by rw [← hW]; exact Kd.R_drewN HR.out _
                      have hG1 : w.grownBy W1 (some g) := by rw [← hW]; exact grown_drewN HG.out _
                      have a0' : W1.cell? ⟨g, k0 * 2 + (j + 1) * 2, none⟩ = some (.int .i64 x.f0) := by rw [← hW]; exact a0
                      have a1' : W1.cell? ⟨g, k0 * 2 + (j + 1) * 2 + 1, none⟩ = some (.int .i64 x.f1) := by rw [← hW]; exact a1
                      obtain ⟨e0, e1, f0, f1⟩ := own_cells hR1 kk d1
                      have HR1 := Aside0.mk hR1
                      have HG1 := Aside0.mk hG1
                      clear hW hR1 hG1 HR HG a0 a1 b0 b1 hw1 hw2
                      go_wp2
                      go_roundg k2
                      case rel => exact ⟨xs.set kk x, kk + 1, j + 1, vi (by first | done | (unfold wrap64; omega) | omega), vi (by first | done | (unfold wrap64; omega) | omega), ⟨by have := HK1.out; omega⟩, ⟨by have := HKK.out; omega⟩, ⟨by omega⟩, HH, ⟨(own_put HR1.out kk d1 x).1⟩, ⟨grown_grown HG1.out (own_put HR1.out kk d1 x).2⟩⟩
                      case measure => have := HK1.out; omega
                    · rw [if_neg c3] at H
                      cases H
                  · rw [hs, if_pos rfl] at H
                    have hs' : (!(x.f0 == y.f0) || !(x.f1 == y.f1)) = false := by
                      have h1 : (x.f0 == y.f0 && (x.f1 == y.f1)) = true := hs
                      rw [← Bool.not_and, h1]; rfl
                    have hs2 : (x.f0 == y.f0 && (x.f1 == y.f1)) = true := hs
                    have HH := Aside0.mk H
                    clear H hs
                    go_wp2
                    go_quiet (fail)
                    go_wp2
                    go_roundg k2
                    case rel => exact ⟨xs, kk, j + 1, rfl, vi (by first | done | (unfold wrap64; omega) | omega), ⟨by have := HK1.out; omega⟩, ⟨by have := HKK.out; omega⟩, ⟨by omega⟩, HH, ⟨Kd.R_drewN HR.out _⟩, ⟨grown_drewN HG.out _⟩⟩
                    case measure => have := HK1.out; omega
                · rw [if_neg c0] at H
                  by_cases c3 : kk ≤ xs.length
                  · rw [if_pos c3] at H
                    obtain rfl := Option.some.inj H
                    have c0n : ¬ (j : Int) + 1 < (m2 : Int) := by have := HX.out; have := HKM.out; omega
                    have c0k : ¬ j + 1 < m2 := by omega
                    have d1 : kk < n := by have := HX.out; have := HKM.out; have := HJ.out; have := HKK.out; omega
                    have d0 : (kk : Int) < (n : Int) := by omega
                    have d2 : ¬ (n : Int) < (kk : Int) := by omega
                    have d3 : ¬ n < kk := by omega
                    have hcut2 : ∀ W : World, (Instr.slice 41 (.slice (some ⟨g, 0, none⟩) n cap) (some (.int .i64 (kk : Int))) none none).run Try.prog W = .ok (.slice (some ⟨g, kk * 2, none⟩) (n - kk) (cap - kk)) W := by
                      intro W
                      obtain ⟨i0, hi0, _, hsz, _⟩ := info_parts giP
                      have h := cut_from (P := Try.prog) 41 51 .i64 Try.underlying41 hi0 2 hsz (some ⟨g, 0, none⟩) n cap (kk : Int) (by omega) (by omega) W
                      rw [Int.toNat_natCast, if_neg (by have := HX.out; omega)] at h
                      rw [h]
                      simp only [Option.map_some, add_plain]
                    obtain ⟨cur, hcur, hcs, _, hcm⟩ := own_block HR.out
                    obtain ⟨zs, hzl, hcl⟩ := run_clear51 wr 0 g (kk * 2) (n - kk) (cap - kk) (by omega) (fun j hj => by
                      rw [blk_cell hcur]
                      have := HX.out
                      rw [Array.getElem?_eq_getElem (by omega)]
                      rfl) (fun j hj => blk_frozen hcur _)
                    have HT := Aside0.mk (own_tail HR.out c3 zs (by have := HX.out; rw [hzl]; omega))
                    clear hcur hcs hcm hzl H c0
                    go_wp2
                    go_ret
                    exact ⟨_, rfl, HT.out.1, grown_grown HG.out HT.out.2⟩
                  · rw [if_neg c3] at H
                    cases H
        · rw [if_neg c0] at H
          obtain rfl := Option.some.inj H
          have c0n : ¬ j + 1 < n := by have := HX.out; omega
          have c0i : ¬ (j : Int) + 1 < n := by omega
          clear c0 H
          go_wp2
          go_ret
          exact ⟨_, rfl, HR.out, HG.out⟩
/-! ### the order of pairs, and the sort, by hand -/
section
open Go.Sort Go.Shelf Go.Lib
def ltP (x y : S51) : Bool := decide (x.f0 < y.f0) || (x.f0 == y.f0 && decide (x.f1 < y.f1))
def cmpP (x y : S51) : Int := if ltP x y = true then -1 else if ltP y x = true then 1 else 0
def enc51 (x : S51) : List Value := [.int .i64 x.f0, .int .i64 x.f1]
set_option maxHeartbeats 1000000 in
theorem less_grow (x y : S51) (W : World) : Calls Try.prog 32 #[.agg #[.int .i64 x.f0, .int .i64 x.f1], .agg #[.int .i64 y.f0, .int .i64 y.f1]] W fun e w' => e = .returned (.bool (ltP x y)) ∧ ∃ os', w' = Sort.grow W os' := by
  by_cases h0 : x.f0 < y.f0
  · have e : ltP x y = true := by simp [ltP, h0]
    rw [e]
    clear e
    go_enter Try.func32, Try.ntmps32
    go_wp2
    go_ret
    exact ⟨rfl, _, by rw [Sort.alloc_eq_grow, Sort.alloc_eq_grow, Sort.grow_grow]⟩
  · by_cases h1 : x.f0 = y.f0
    · have e : ltP x y = decide (x.f1 < y.f1) := by simp [ltP, h1]
      rw [e]
      have h0' : decide (x.f0 < y.f0) = false := decide_eq_false h0
      have h1' : (x.f0 == y.f0) = true := beq_iff_eq.2 h1
      clear e h0 h1
      go_enter Try.func32, Try.ntmps32
      go_wp2
      go_ret
      exact ⟨rfl, _, by rw [Sort.alloc_eq_grow, Sort.alloc_eq_grow, Sort.grow_grow]⟩
    · have e : ltP x y = false := by simp [ltP, h0, h1]
      rw [e]
      have h0' : decide (x.f0 < y.f0) = false := decide_eq_false h0
      have h1' : (x.f0 == y.f0) = false := beq_eq_false_iff_ne.2 h1
      clear e h0 h1
      go_enter Try.func32, Try.ntmps32
      go_wp2
      go_ret
      exact ⟨rfl, _, by rw [Sort.alloc_eq_grow, Sort.alloc_eq_grow, Sort.grow_grow]⟩
theorem grow_cell {X : World} {a : Addr} {v : Value} (h : X.cell? a = some v) (os : Array Obj) : (Sort.grow X os).cell? a = some v := by rw [Sort.cell?_grow _ _ _ (World.block_lt_of_cell? X a h)]; exact h
set_option maxHeartbeats 1000000 in
theorem compare_grow (x y : S51) (W : World) : Calls Try.prog 60 #[.agg #[], .agg #[.int .i64 x.f0, .int .i64 x.f1], .agg #[.int .i64 y.f0, .int .i64 y.f1]] W fun e w' => e = .returned (.int .i64 (cmpP x y)) ∧ ∃ os', w' = Sort.grow W os' := by
  cases h0 : ltP x y
  · have H0 := Aside0.mk h0
    have HC := Aside0.mk (show cmpP x y = if ltP y x = true then 1 else 0 by simp [cmpP, h0])
    clear h0
    go_enter Try.func60, Try.ntmps60
    have hx0 : (((W.alloc (.cells #[] 92)).alloc (.cells #[.int .i64 x.f0, .int .i64 x.f1] 51)).alloc (.cells #[.int .i64 y.f0, .int .i64 y.f1] 51)).cell? ⟨W.heap.size + 1, 0, none⟩ = some (.int .i64 x.f0) := by go_simp
    have hx1 : (((W.alloc (.cells #[] 92)).alloc (.cells #[.int .i64 x.f0, .int .i64 x.f1] 51)).alloc (.cells #[.int .i64 y.f0, .int .i64 y.f1] 51)).cell? ⟨W.heap.size + 1, 1, none⟩ = some (.int .i64 x.f1) := by go_simp
    have hy0 : (((W.alloc (.cells #[] 92)).alloc (.cells #[.int .i64 x.f0, .int .i64 x.f1] 51)).alloc (.cells #[.int .i64 y.f0, .int .i64 y.f1] 51)).cell? ⟨W.heap.size + 1 + 1, 0, none⟩ = some (.int .i64 y.f0) := by go_simp
    have hy1 : (((W.alloc (.cells #[] 92)).alloc (.cells #[.int .i64 x.f0, .int .i64 x.f1] 51)).alloc (.cells #[.int .i64 y.f0, .int .i64 y.f1] 51)).cell? ⟨W.heap.size + 1 + 1, 1, none⟩ = some (.int .i64 y.f1) := by go_simp
    have HF := Aside0.mk (And.intro hx0 (And.intro hx1 (And.intro hy0 hy1)))
    clear hx0 hx1 hy0 hy1
    cases h1 : ltP y x
    · rw [h1] at HC
      have H1 := Aside0.mk h1
      clear h1
      go_wp2_with fail
      refine (less_grow x y _).mono ?_
      rintro e w1 ⟨rfl, os, hw⟩
      rw [H0.out]
      have x0 : w1.cell? ⟨W.heap.size + 1, 0, none⟩ = some (.int .i64 x.f0) := by rw [hw]; exact grow_cell HF.out.1 os
      have x1 : w1.cell? ⟨W.heap.size + 1, 1, none⟩ = some (.int .i64 x.f1) := by rw [hw]; exact grow_cell HF.out.2.1 os
      have y0 : w1.cell? ⟨W.heap.size + 1 + 1, 0, none⟩ = some (.int .i64 y.f0) := by rw [hw]; exact grow_cell HF.out.2.2.1 os
      have y1 : w1.cell? ⟨W.heap.size + 1 + 1, 1, none⟩ = some (.int .i64 y.f1) := by rw [hw]; exact grow_cell HF.out.2.2.2 os
      have HW := Aside0.mk hw
      clear hw
      go_wp2_with fail
      refine (less_grow y x _).mono ?_
      rintro e w2 ⟨rfl, os2, hw2⟩
      rw [H1.out]
      have HW2 := Aside0.mk hw2
      clear hw2
      go_wp2
      go_ret
      refine ⟨?_, _, by rw [HW2.out, HW.out, Sort.alloc_eq_grow, Sort.alloc_eq_grow, Sort.alloc_eq_grow, Sort.grow_grow, Sort.grow_grow, Sort.grow_grow, Sort.grow_grow]⟩
      rw [HC.out]; rfl
    · rw [h1] at HC
      have H1 := Aside0.mk h1
      clear h1
      go_wp2_with fail
      refine (less_grow x y _).mono ?_
      rintro e w1 ⟨rfl, os, hw⟩
      rw [H0.out]
      have x0 : w1.cell? ⟨W.heap.size + 1, 0, none⟩ = some (.int .i64 x.f0) := by rw [hw]; exact grow_cell HF.out.1 os
      have x1 : w1.cell? ⟨W.heap.size + 1, 1, none⟩ = some (.int .i64 x.f1) := by rw [hw]; exact grow_cell HF.out.2.1 os
      have y0 : w1.cell? ⟨W.heap.size + 1 + 1, 0, none⟩ = some (.int .i64 y.f0) := by rw [hw]; exact grow_cell HF.out.2.2.1 os
      have y1 : w1.cell? ⟨W.heap.size + 1 + 1, 1, none⟩ = some (.int .i64 y.f1) := by rw [hw]; exact grow_cell HF.out.2.2.2 os
      have HW := Aside0.mk hw
      clear hw
      go_wp2_with fail
      refine (less_grow y x _).mono ?_
      rintro e w2 ⟨rfl, os2, hw2⟩
      rw [H1.out]
      have HW2 := Aside0.mk hw2
      clear hw2
      go_wp2
      go_ret
      refine ⟨?_, _, by rw [HW2.out, HW.out, Sort.alloc_eq_grow, Sort.alloc_eq_grow, Sort.alloc_eq_grow, Sort.grow_grow, Sort.grow_grow, Sort.grow_grow, Sort.grow_grow]⟩
      rw [HC.out]; rfl
  · have H0 := Aside0.mk h0
    have HC := Aside0.mk (show cmpP x y = -1 by simp [cmpP, h0])
    clear h0
    go_enter Try.func60, Try.ntmps60
    go_wp2_with fail
    refine (less_grow x y _).mono ?_
    rintro e w' ⟨rfl, os, hw⟩
    rw [H0.out]
    have HW := Aside0.mk hw
    clear hw
    go_wp2
    go_ret
    refine ⟨?_, _, by rw [HW.out, Sort.alloc_eq_grow, Sort.alloc_eq_grow, Sort.alloc_eq_grow, Sort.grow_grow, Sort.grow_grow, Sort.grow_grow]⟩
    rw [HC.out]; rfl
set_option maxHeartbeats 1000000 in
theorem closure62 (x y : S51) (bc : Nat) (W : World) (hc : W.cell? ⟨bc, 0, none⟩ = some (.func (.func 60) #[] #[])) :
    Calls Try.prog 62 #[.agg #[.int .i64 x.f0, .int .i64 x.f1], .agg #[.int .i64 y.f0, .int .i64 y.f1], .pointer (some ⟨bc, 0, none⟩)] W fun e w' => e = .returned (.int .i64 (cmpP x y)) ∧ ∃ os', w' = Sort.grow W os' := by
  have hlt := World.block_lt_of_cell? W _ hc
  have hc2 : ((W.alloc (.cells #[.int .i64 x.f0, .int .i64 x.f1] 51)).alloc (.cells #[.int .i64 y.f0, .int .i64 y.f1] 51)).cell? ⟨bc, 0, none⟩ = some (.func (.func 60) #[] #[]) := pw_cell_below (below_alloc (below_alloc (Below.refl _ _) _) _) hc
  clear hc
  go_enter Try.func62, Try.ntmps62
  go_wp2_with (go_at_call 60; refine (compare_grow x y _).mono ?_; rintro e w' ⟨rfl, os, hw⟩; have HW := Aside0.mk hw; clear hw)
  go_ret
  exact ⟨rfl, _, by rw [HW.out, Sort.alloc_eq_grow, Sort.alloc_eq_grow, Sort.grow_grow, Sort.grow_grow]⟩
theorem ltOf_cmpP (x y : S51) : ltOf cmpP x y = ltP x y := by
  unfold ltOf cmpP
  cases h1 : ltP x y <;> cases h2 : ltP y x <;> simp
theorem ltP_iff (x y : S51) : ltP x y = true ↔ x.f0 < y.f0 ∨ (x.f0 = y.f0 ∧ x.f1 < y.f1) := by simp [ltP]
theorem ltP_no (x y : S51) : ltP x y = false ↔ ¬ (x.f0 < y.f0 ∨ (x.f0 = y.f0 ∧ x.f1 < y.f1)) := by rw [← ltP_iff]; simp
theorem swoP : Sort.SWO (ltOf cmpP) where
  irrefl x := by rw [ltOf_cmpP, ltP_no]; omega
  trans x y z h1 h2 := by rw [ltOf_cmpP, ltP_iff] at h1 h2 ⊢; omega
  ntrans x y z h1 h2 := by rw [ltOf_cmpP, ltP_no] at h1 h2 ⊢; omega
theorem parP (x y : S51) (h1 : ltOf cmpP x y = false) (h2 : ltOf cmpP y x = false) : x = y := by
  rw [ltOf_cmpP, ltP_no] at h1 h2
  have e0 : x.f0 = y.f0 := by omega
  have e1 : x.f1 = y.f1 := by omega
  cases x; cases y; simp_all
theorem cmpLays62 (bc blk off size : Nat) (w : World) (hc : w.cell? ⟨bc, 0, none⟩ = some (.func (.func 60) #[] #[])) (hne : bc ≠ blk) : CmpLays Try.prog 62 #[.pointer (some ⟨bc, 0, none⟩)] enc51 2 cmpP blk off size w := by
  intro m os dk _ x y
  have hlt := World.block_lt_of_cell? w _ hc
  refine (closure62 x y bc _ ?_).mono fun e w' h => ⟨h.1, 0, h.2⟩
  rw [cell?_sortWorldK_other enc51 2 w blk off m dk os ⟨bc, 0, none⟩ hne hlt]
  exact hc
/-- pairs, sorted -/
def insS (p : S51) : List S51 → List S51
  | [] => [p]
  | q :: r => if ltP p q = true then p :: q :: r else q :: insS p r
def isort : List S51 → List S51
  | [] => []
  | p :: l => insS p (isort l)
theorem insS_perm (p : S51) : ∀ l, (insS p l).Perm (p :: l)
  | [] => List.Perm.refl _
  | q :: r => by
    unfold insS
    split
    · exact List.Perm.refl _
    · exact ((insS_perm p r).cons q).trans (List.Perm.swap p q r)
theorem isort_perm : ∀ l, (isort l).Perm l
  | [] => List.Perm.refl _
  | p :: l => (insS_perm p (isort l)).trans ((isort_perm l).cons p)
def leP (x y : S51) : Prop := ltP y x = false
theorem leP_trans {x y z : S51} (h1 : leP x y) (h2 : leP y z) : leP x z := by
  unfold leP at *
  rw [ltP_no] at h1 h2 ⊢; omega
theorem leP_of_lt {x y : S51} (h : ltP x y = true) : leP x y := by
  unfold leP
  rw [ltP_iff] at h
  rw [ltP_no]; omega
theorem insS_sorted (p : S51) : ∀ l : List S51, l.Pairwise leP → (insS p l).Pairwise leP
  | [], _ => by simp [insS]
  | q :: r, h => by
    obtain ⟨h1, h2⟩ := List.pairwise_cons.1 h
    unfold insS
    split
    · rename_i hlt
      refine List.pairwise_cons.2 ⟨fun y hy => ?_, h⟩
      rcases List.mem_cons.1 hy with rfl | hy
      · exact leP_of_lt hlt
      · exact leP_trans (leP_of_lt hlt) (h1 y hy)
    · rename_i hlt
      refine List.pairwise_cons.2 ⟨fun y hy => ?_, insS_sorted p r h2⟩
      rcases List.mem_cons.1 ((insS_perm p r).mem_iff.1 hy) with rfl | hy
      · exact Bool.eq_false_iff.2 hlt
      · exact h1 y hy
theorem isort_sorted : ∀ l, (isort l).Pairwise leP
  | [] => List.Pairwise.nil
  | p :: l => insS_sorted p _ (isort_sorted l)
theorem leP_anti {x y : S51} (h1 : leP x y) (h2 : leP y x) : x = y := parP x y (by rw [ltOf_cmpP]; exact h2) (by rw [ltOf_cmpP]; exact h1)
theorem sorted_one : ∀ a b : List S51, a.Perm b → a.Pairwise leP → b.Pairwise leP → a = b
  | [], b, hp, _, _ => by simpa using hp.symm
  | x :: a, [], hp, _, _ => by simp at hp
  | x :: a, y :: b, hp, ha, hb => by
    obtain ⟨ha1, ha2⟩ := List.pairwise_cons.1 ha
    obtain ⟨hb1, hb2⟩ := List.pairwise_cons.1 hb
    have e : x = y := by
      have hx : x ∈ y :: b := hp.mem_iff.1 (by simp)
      have hy : y ∈ x :: a := hp.mem_iff.2 (by simp)
      rcases List.mem_cons.1 hx with e | hx
      · exact e
      · rcases List.mem_cons.1 hy with e | hy
        · exact e.symm
        · exact leP_anti (ha1 y hy) (hb1 x hx)
    subst e
    rw [sorted_one a b (List.perm_cons x |>.1 hp) ha2 hb2]
theorem merge_isort (l : List S51) : (l.mergeSort fun x y => !(ltOf cmpP) y x) = isort l := by
  refine sorted_one _ _ ((List.mergeSort_perm l _).trans (isort_perm l).symm) ?_ (isort_sorted l)
  have h := List.pairwise_mergeSort (le := fun x y : S51 => !(ltOf cmpP) y x) (by
    intro x y z h1 h2
    simp only [Bool.not_eq_true', ltOf_cmpP] at h1 h2 ⊢
    exact leP_trans h1 h2) (by
    intro x y
    simp only [ltOf_cmpP]
    cases h1 : ltP y x
    · rfl
    · have := leP_of_lt h1
      unfold leP at this
      rw [this]; rfl) l
  refine h.imp (fun {x y} h => ?_)
  simp only [Bool.not_eq_true', ltOf_cmpP] at h
  exact h
theorem isort_length (l : List S51) : (isort l).length = l.length := (isort_perm l).length_eq
theorem getP (ys : List S51) (i : Nat) (h : i < ys.length) : ys.toArray[i]! = atP ys i := by
  unfold atP
  rw [List.getElem!_toArray, List.getElem!_eq_getElem?_getD, List.getD_eq_getElem?_getD, List.getElem?_eq_getElem h]
  rfl
theorem holds51 {W : World} {base g n cap : Nat} {ok : Nat → Prop} {xs : List S51} (h : Kd.R k51 51 W base ok (.slice (some ⟨g, 0, none⟩) n cap) xs) : HoldsK enc51 2 W g 0 xs.toArray := by
  have hn := (Kd.R_reads' h).1
  intro t ht
  rw [size_flatK] at ht
  rw [get_flatK _ _ _ _ ht]
  simp only [List.size_toArray] at ht
  have hi : t / 2 < n := by omega
  obtain ⟨a0, a1, f0, f1⟩ := own_cells h (t / 2) hi
  rw [getP xs (t / 2) (by omega)]
  rcases (show t % 2 = 0 ∨ t % 2 = 1 by omega) with e | e
  · rw [show 0 + t = t / 2 * 2 by omega, e]
    exact ⟨a0, f0⟩
  · rw [show 0 + t = t / 2 * 2 + 1 by omega, e]
    exact ⟨a1, f1⟩
theorem put51 {W : World} {base g n cap : Nat} {ok : Nat → Prop} {xs ys : List S51} (h : Kd.R k51 51 W base ok (.slice (some ⟨g, 0, none⟩) n cap) xs) (hl : ys.length = xs.length) (m : Nat) (os : Array Obj) :
    Kd.R k51 51 (sortWorldK enc51 2 W g 0 m ys.toArray os) base ok (.slice (some ⟨g, 0, none⟩) n cap) ys ∧ W.grownBy (sortWorldK enc51 2 W g 0 m ys.toArray os) (some g) := by
  have hn := (Kd.R_reads' h).1
  have hH := holds51 h
  obtain ⟨h0, inner, ⟨hlen, ho⟩, hr⟩ := h
  rcases ho with ⟨hv, _⟩ | ⟨g', cap', cur, hv, hb, hh, hnc, hcm, hcs, htk⟩
  · cases hv
  injection hv with ha hnn hc
  injection ha with ha
  injection ha with hg
  subst hg; subst hc
  have hblk : g < W.heap.size := (Array.getElem?_eq_some_iff.1 hh).1
  have hsz : ys.toArray.size = xs.toArray.size := by simp [hl]
  have hH2 := holdsK_sortWorldK_c enc51 2 W g 0 xs.toArray ys.toArray m os hH hblk hsz
  have hheap : (sortWorldK enc51 2 W g 0 m ys.toArray os).heap[g]? = some (.cells (putCells id 0 (flatK enc51 2 ys.toArray) cur) 51 (0, 0)) := by
    unfold sortWorldK putRowK putRow
    rw [heap_grow_old _ _ (by simp [mapBlock, Sort.ahead]; exact hblk)]
    simp only [mapBlock, Sort.ahead, Array.getElem?_modify, if_true, hh, Option.map_some, onCells]
  have hother : ∀ k, k < W.heap.size → k ≠ g → (sortWorldK enc51 2 W g 0 m ys.toArray os).heap[k]? = W.heap[k]? := by
    intro k hk hne
    unfold sortWorldK putRowK putRow
    rw [heap_grow_old _ _ (by simp [mapBlock, Sort.ahead]; exact hk)]
    simp only [mapBlock, Sort.ahead, Array.getElem?_modify, if_neg (fun e => hne (Eq.symm e))]
  have hps : (putCells id 0 (flatK enc51 2 ys.toArray) cur).size = cur.size := by simp [putCells]
  rw [show k51.sz = 2 from rfl] at hcs htk hlen
  refine ⟨⟨h0, (putCells id 0 (flatK enc51 2 ys.toArray) cur).toList.take (n * 2), ⟨?_, .inr ⟨g, cap, _, by rw [hl, ← hn], hb, hheap, by rw [hl]; exact hnc, hcm, by rw [hps]; exact hcs, by rw [hl, ← hn]; rfl⟩⟩, ?_⟩, ⟨rfl, rfl, rfl, ?_, fun k hk hne => hother k hk (fun e => hne (by rw [e]))⟩⟩
  · rw [List.length_take, Array.length_toList, hps, hcs, hl, ← hn]
    have : n ≤ cap := by omega
    show min (n * 2) (cap * 2) = n * 2
    omega
  · refine ⟨?_, fun j p hj => ?_⟩
    · rw [List.length_take, Array.length_toList, hps, hcs, hl, ← hn]
      have : n ≤ cap := by omega
      show min (n * 2) (cap * 2) = n * 2
      omega
    · have hjl : j < ys.length := (List.getElem?_eq_some_iff.1 hj).1
      have hjn : j < n := by omega
      have hcell : ∀ t, t < n * 2 → (putCells id 0 (flatK enc51 2 ys.toArray) cur)[t]? = some ((enc51 (atP ys (t / 2)))[t % 2]!) := by
        intro t ht
        have h1 := (hH2 t (by rw [size_flatK]; simp; omega)).1
        rw [get_flatK _ _ _ _ (by simp; omega)] at h1
        rw [cell_of_row _ g (0 + t) _ 51 (0, 0) hheap, Nat.zero_add] at h1
        rw [h1, getP ys (t / 2) (by omega)]
        rfl
      have hp : atP ys j = p := by
        unfold atP
        rw [List.getD_eq_getElem?_getD, hj]
        rfl
      have e : (((putCells id 0 (flatK enc51 2 ys.toArray) cur).toList.take (n * 2)).drop (j * k51.sz)).take k51.sz = [.int .i64 p.f0, .int .i64 p.f1] := by
        rw [show k51.sz = 2 from rfl]
        apply List.ext_getElem?
        intro q
        rw [List.getElem?_take]
        split
        · rename_i hq
          rw [List.getElem?_drop, List.getElem?_take, if_pos (by omega), Array.getElem?_toList, hcell _ (by omega), show (j * 2 + q) / 2 = j by omega, hp, show (j * 2 + q) % 2 = q by omega]
          rcases (show q = 0 ∨ q = 1 by omega) with rfl | rfl <;> rfl
        · rename_i hq
          rw [List.getElem?_eq_none (by simp; omega)]
      rw [e]
      exact k51_mkM _ _ _ p
  · have := size_sortWorldK_c enc51 2 W g 0 m ys.toArray os
    exact this
end
/-! ### match_Links -/
section
open Go.Sort Go.Shelf Go.Lib
theorem sort_any (base g n cap bc : Nat) (ok : Nat → Prop) (xs : List S51) (W : World) (hR : Kd.R k51 51 W base ok (.slice (some ⟨g, 0, none⟩) n cap) xs) (hn : n < 1000000) (hc : W.cell? ⟨bc, 0, none⟩ = some (.func (.func 60) #[] #[])) (hne : bc ≠ g) :
    Calls Try.prog 61 #[.slice (some ⟨g, 0, none⟩) n cap, .func (.func 62) #[] #[.pointer (some ⟨bc, 0, none⟩)]] W fun e w' => e = .returned (.tuple #[]) ∧ Kd.R k51 51 w' base ok (.slice (some ⟨g, 0, none⟩) n cap) (isort xs) ∧ W.grownBy w' (some g) := by
  have hnx := (Kd.R_reads' hR).1
  have eg : ∀ args w, (callFunc 62 args).run Try.prog w = .ok (.enter 62 args) w := enters_of Try.func62 (by kernel_rfl) rfl
  obtain ⟨cur, hcur, _⟩ := own_block hR
  have hcon := AnyQ.slices_SortFunc_total (α := S51) Try.sortPair 2 Try.isAgg51 Try.sizeOf51 enc51 (fun _ => rfl) (fun x v hv => by simp [enc51] at hv; rcases hv with rfl | rfl <;> rfl) cmpP swoP 62 #[.pointer (some ⟨bc, 0, none⟩)] g 0 cap xs.toArray W eg (cmpLays62 bc g 0 _ W hc hne) (holds51 hR) (Array.getElem?_eq_some_iff.1 hcur).1 (by simp; omega) parP
  change Calls Try.prog 61 _ _ _ at hcon
  rw [show xs.toArray.size = n by simp [hnx]] at hcon
  refine hcon.mono ?_
  rintro e w' ⟨rfl, m, os, rfl⟩
  rw [show xs.toArray.toList = xs from rfl, merge_isort]
  exact ⟨rfl, put51 hR (isort_length xs) m os⟩
theorem sort_none (A : Option Addr) (c : Nat) (fv : Value) (W : World) : Calls Try.prog 61 #[.slice A 0 c, fv] W fun e w' => e = .returned (.tuple #[]) ∧ w' = W := by
  have h := AnyF.slices_SortFunc_none Try.sortPair A c fv W
  change Calls Try.prog 61 _ _ _ at h
  exact h
end
set_option maxHeartbeats 1000000 in
theorem compact_none (A : Option Addr) (c : Nat) (W : World) : Calls Try.prog 63 #[.slice A 0 c] W fun e w' => e = .returned (.slice A 0 c) ∧ w' = W := by
  go_enter Try.func63, Try.ntmps63
  go_wp2
  go_ret
  exact ⟨rfl, rfl⟩
def nrm (p : S51) : S51 := ⟨mn p.f0 p.f1, mx p.f0 p.f1⟩
def nrmL : List S51 → List S51
  | [] => []
  | p :: l => if (p.f0 == p.f1) = true then nrmL l else nrm p :: nrmL l
theorem nrmL_append : ∀ a b : List S51, nrmL (a ++ b) = nrmL a ++ nrmL b
  | [], b => rfl
  | p :: a, b => by
    simp only [List.cons_append, nrmL, nrmL_append a b]
    split <;> rfl
theorem nrmL_len : ∀ l : List S51, (nrmL l).length ≤ l.length
  | [] => Nat.le_refl _
  | p :: l => by
    have := nrmL_len l
    simp only [nrmL]
    split <;> simp <;> omega
theorem nrmL_take (l : List S51) (i : Nat) (hi : i < l.length) : nrmL (l.take (i + 1)) = nrmL (l.take i) ++ (if ((rd_T51 l i).f0 == (rd_T51 l i).f1) = true then [] else [nrm (rd_T51 l i)]) := by
  have e : rd_T51 l i = l[i] := by simp [rd_T51, hi]
  rw [List.take_succ_eq_append_getElem hi, nrmL_append, e]
  rfl
def match_Links.f (k : Nat) (l0 : List S51) : Option (List S51) := if l0.length < 1000000 then cpt.f k (isort (nrmL l0)) else none
set_option maxHeartbeats 4000000 in
set_option maxRecDepth 100000 in
theorem match_Links.calls (k : Nat) (A0 : Option Addr) (c0 : Nat) (l0 : List S51) (r : List S51) (w : World) (hr0 : Kd.C k51 w A0 l0.length l0) (hc0 : l0.length ≤ c0) (h : match_Links.f k l0 = some r) :
    Calls Try.prog 26 #[.slice A0 l0.length c0] w fun e w' => ∃ v0_ : Value, e = .returned (v0_) ∧ Kd.R k51 51 w' w.heap.size (fun _ => True) v0_ r ∧ Below w.heap.size w w' := by
  have HR0 := Aside0.mk hr0
  have HC0 := Aside0.mk hc0
  unfold match_Links.f at h
  by_cases hlen : l0.length < 1000000
  · rw [if_pos hlen] at h
    have HH := Aside0.mk h
    clear h hr0 hc0
    have HB := Aside0.mk (Below.refl w.heap.size w)
    go_enter Try.func26, Try.ntmps26
    go_wp2
    go_loopw [3, 9] (fun v3 v9 w' => ∃ i : Nat, i ≤ l0.length ∧ v9 = .int .i64 (i : Int) ∧ Aside0 (Kd.R k51 51 w' w.heap.size (fun _ => True) v3 (nrmL (l0.take i))) ∧ Aside0 (Below w.heap.size w w')) (fun _ v9 _ => l0.length - (intOf v9).toNat)
    case atStart => exact ⟨0, Nat.zero_le _, rfl, ⟨Kd.R_nil _ _ _ _ _⟩, HB⟩
    case round =>
      clear HB
      obtain ⟨i, hi, rfl, HO, HB⟩ := hrel
      by_cases c1 : i < l0.length
      · have c1i : (i : Int) < (l0.length : Int) := by omega
        obtain ⟨ad, e213, hx0, hx1⟩ := at_T51 HR0.out (i : Int) (by omega) c1i
        cases e213
        rw [Int.toNat_natCast] at hx0 hx1
        replace hx0 := (HB.out.cell (World.block_lt_of_cell? w _ hx0)).trans hx0
        replace hx1 := (HB.out.cell (World.block_lt_of_cell? w _ hx1)).trans hx1
        have HT := Aside0.mk (nrmL_take l0 i c1)
        obtain ⟨x, hx⟩ : ∃ x, x = rd_T51 l0 i := ⟨_, rfl⟩
        rw [← hx] at HT hx0 hx1
        clear hx
        have hmB := Aside0.mk (below_alloc (Below.refl _ wr) (.cells #[.int .i64 x.f0, .int .i64 x.f1] 51))
        have hmQ := Aside0.mk (Kd.R_below HO.out hmB.out)
        have hmBB := Aside0.mk (below_then HB.out HB.out.size hmB.out)
        clear HO HB
        cases hs : (x.f0 == x.f1)
        · have hs' : (x.f0 != x.f1) = true := by simp [bne, hs]
          rw [hs, if_neg (by simp)] at HT
          obtain ⟨m, hm⟩ : ∃ m, mn x.f0 x.f1 = m := ⟨_, rfl⟩
          obtain ⟨M, hM⟩ : ∃ M, mx x.f0 x.f1 = M := ⟨_, rfl⟩
          have hm_ : (if x.f1 < x.f0 then x.f1 else x.f0) = m := hm
          have hM_ : (if x.f0 < x.f1 then x.f1 else x.f0) = M := hM
          have HN := Aside0.mk (show nrm x = ⟨m, M⟩ by unfold nrm; rw [hm, hM])
          clear hs hm hM
          obtain ⟨A3, c3, rfl⟩ := Kd.R_slice hmQ.out
          have hbk := blk_new wr (.cells #[.int .i64 x.f0, .int .i64 x.f1] 51)
          have g0 : (wr.alloc (.cells #[.int .i64 x.f0, .int .i64 x.f1] 51)).cell? ⟨wr.heap.size, 0, none⟩ = some (.int .i64 x.f0) := (blk_cell hbk 0).trans rfl
          have g1 : (wr.alloc (.cells #[.int .i64 x.f0, .int .i64 x.f1] 51)).cell? ⟨wr.heap.size, 1, none⟩ = some (.int .i64 x.f1) := (blk_cell hbk 1).trans rfl
          have G0 := Aside0.mk g0
          have G1 := Aside0.mk g1
          clear hbk g0 g1
          go_upto_region 6 with fail
          generalize (wr.alloc (.cells #[.int .i64 x.f0, .int .i64 x.f1] 51)) = w3 at hmQ hmBB hmB G0 G1 ⊢
          have g0 := G0.out
          have g1 := G1.out
          go_wp2_with (at_builtin; go_loud (refine Kd.R_append k51 (w0 := w) w.heap.size rfl (.tmp 18) (.tmp 30) 41 51 (.agg #[.int .i64 0, .int .i64 0]) 16 rfl Try.underlying41 giP rfl (by decide) (by decide) _ (nrmL (l0.take i)) ⟨m, M⟩ [.int .i64 m, .int .i64 M] (fun _ => True) (fun _ => False) rfl rfl (k51_mkM _ _ _ ⟨m, M⟩) (fun _ h => h.elim) (fun _ _ => trivial) hmQ.out hmBB.out hmBB.out.size ?hl ?_))
          case hl => have := nrmL_len (l0.take i); rw [List.length_take] at this; omega
          intro v5 w5 hR5 hB5 hg5 _
          rw [← HN.out, ← HT.out] at hR5
          have HR5 := Aside0.mk hR5
          have HB5 := Aside0.mk hB5
          clear hR5 hB5 hg5 hmQ hmBB hmB hm_ hM_ hs' hx0 hx1 g0 g1 G0 G1
          go_wp2
          go_roundw
          case rel => exact ⟨i + 1, by omega, by go_num, HR5, HB5⟩
          case measure => simp [intOf]; omega
        · have hs' : (x.f0 != x.f1) = false := by simp [bne, hs]
          rw [hs, if_pos rfl, List.append_nil] at HT
          rw [← HT.out] at hmQ
          clear hs
          go_wp2
          go_roundw
          case rel => exact ⟨i + 1, by omega, by go_num, hmQ, hmBB⟩
          case measure => simp [intOf]; omega
      · have e : i = l0.length := by omega
        subst e
        rw [List.take_length] at HO
        obtain ⟨xs, hxs⟩ : ∃ xs, xs = nrmL l0 := ⟨_, rfl⟩
        have HL := Aside0.mk (nrmL_len l0)
        rw [← hxs] at HO HH HL
        clear hxs
        obtain ⟨A3, c3, rfl⟩ := Kd.R_slice HO.out
        have hst : (store ⟨wr.heap.size, 0, none⟩ (.func (.func 60) #[] #[])).run Try.prog (wr.alloc (.cells #[.nilFunc] 89)) = .ok () ((wr.alloc (.cells #[.nilFunc] 89)).setCell ⟨wr.heap.size, 0, none⟩ (.func (.func 60) #[] #[])) := by
          have hbk := blk_new wr (.cells #[.nilFunc] 89)
          have c1 := (blk_cell hbk 0).trans (show _ = some Value.nilFunc from rfl)
          have c2 := blk_frozen hbk 0
          exact (run_store Try.prog _ _ _ _ rfl).trans (by simp [stored, c1, c2])
        have hb := below_alloc (Below.refl _ wr) (.cells #[.func (.func 60) #[] #[]] 89)
        have hbk := blk_new wr (.cells #[.func (.func 60) #[] #[]] 89)
        have hR1 := Kd.R_below HO.out hb
        have hB1 := below_then HB.out HB.out.size hb
        have hc1 := (blk_cell hbk 0).trans (show _ = some (Value.func (.func 60) #[] #[]) from rfl)
        have G := Aside0.mk (And.intro hR1 (And.intro hB1 (And.intro hc1 hbk)))
        clear hb hbk hR1 hB1 hc1 HO HB
        by_cases hz : xs.length = 0
        · have hx0 : xs = [] := List.eq_nil_of_length_eq_zero hz
          subst hx0
          have hr : r = [] := by
            have h2 : cpt.f k (isort ([] : List S51)) = some [] := rfl
            exact Option.some.inj (HH.out.symm.trans h2)
          subst hr
          clear HH hz
          rw [show ([] : List S51).length = 0 from rfl] at G ⊢
          go_wp2_with (first | (go_at_call 61; refine (sort_none _ _ _ _).mono ?_; rintro e w' ⟨rfl, rfl⟩) | (go_at_call 63; refine (compact_none _ _ _).mono ?_; rintro e w' ⟨rfl, rfl⟩))
          go_ret
          exact ⟨_, rfl, G.out.1, G.out.2.1⟩
        · obtain ⟨g, cap, e, hbg, _⟩ := Kd.R_form G.out.1 (by omega)
          injection e with e _ e2
          subst e
          subst e2
          have hne : wr.heap.size ≠ g := fun h => Kd.R_ne G.out.1 G.out.2.2.2 (by decide) (by rw [h]; rfl)
          have HNE := Aside0.mk (And.intro hne hbg)
          clear hne hbg hz
          go_wp2_with fail
          refine (sort_any w.heap.size g xs.length c3 wr.heap.size _ xs _ G.out.1 (by have := HL.out; omega) G.out.2.2.1 HNE.out.1).mono ?_
          rintro e w4 ⟨rfl, hR4, hg4⟩
          have hB4 := pw_below_grown G.out.2.1 (some g) G.out.2.1.size hg4 (fun k hk => by cases hk; exact HNE.out.2)
          have G4 := Aside0.mk (And.intro hR4 hB4)
          clear hR4 hg4 hB4
          go_wp2_with fail
          refine (compact_any k w.heap.size _ g xs.length c3 (isort xs) r w4 G4.out.1 (by have := HL.out; omega) HH.out).mono ?_
          rintro e w5 ⟨v5, rfl, hR5, hg5⟩
          have hB5 := pw_below_grown G4.out.2 (some g) G4.out.2.size hg5 (fun k hk => by cases hk; exact HNE.out.2)
          have G5 := Aside0.mk (And.intro hR5 hB5)
          clear hR5 hg5 hB5
          go_wp2
          go_ret
          exact ⟨_, rfl, G5.out.1, G5.out.2⟩
  · rw [if_neg hlen] at h
    cases h

theorem match_Class.rt_mono : ∀ k tl i, LeO (match_Class.rt k tl i) (match_Class.rt (k + 1) tl i)
  | 0, _, _ => LeO.none _
  | k + 1, tl, i => by
    rw [match_Class.rt, match_Class.rt]
    exact LeO.ite (LeO.ite (LeO.ite (LeO.refl _) (match_Class.rt_mono k tl _)) (LeO.refl _)) (LeO.refl _)
theorem match_Class.mono_l : ∀ k, (∀ a b c d e, LeO (match_Class.l0 k a b c d e) (match_Class.l0 (k + 1) a b c d e)) ∧ (∀ a b c d, LeO (match_Class.l1 k a b c d) (match_Class.l1 (k + 1) a b c d)) ∧ (∀ a b c, LeO (match_Class.l2 k a b c) (match_Class.l2 (k + 1) a b c))
  | 0 => ⟨fun _ _ _ _ _ r h => by simp [match_Class.l0] at h, fun _ _ _ _ r h => by simp [match_Class.l1] at h, fun _ _ _ r h => by simp [match_Class.l2] at h⟩
  | k + 1 => by
    obtain ⟨ih0, ih1, ih2⟩ := match_Class.mono_l k
    refine ⟨fun a b c d e => ?_, fun a b c d => ?_, fun a b c => ?_⟩
    · unfold match_Class.l0
      repeat' first
        | (with_reducible exact ih0 _ _ _ _ _)
        | (with_reducible exact ih1 _ _ _ _)
        | (with_reducible exact LeO.refl _)
        | (with_reducible refine LeO.ite ?_ ?_)
    · unfold match_Class.l1
      repeat' first
        | (with_reducible exact ih1 _ _ _ _)
        | (with_reducible exact ih2 _ _ _)
        | (with_reducible exact match_Class.rt_mono _ _ _)
        | (with_reducible exact LeO.refl _)
        | (with_reducible refine LeO.ite ?_ ?_)
        | (with_reducible refine LeO.bind ?_ (fun _ => ?_))
    · unfold match_Class.l2
      repeat' first
        | (with_reducible exact ih2 _ _ _)
        | (with_reducible exact match_Class.rt_mono _ _ _)
        | (with_reducible exact LeO.refl _)
        | (with_reducible refine LeO.ite ?_ ?_)
        | (with_reducible refine LeO.bind ?_ (fun _ => ?_))
theorem match_Class.mono : ∀ a0 a1 k, LeO (match_Class.f k a0 a1) (match_Class.f (k + 1) a0 a1) := fun _ _ k => by
  unfold match_Class.f
  exact LeO.ite (LeO.refl _) ((match_Class.mono_l k).1 _ _ _ _ _)
theorem match_Linked.mono_l : ∀ k, (∀ a b c d, LeO (match_Linked.l0 k a b c d) (match_Linked.l0 (k + 1) a b c d)) ∧ (∀ a b c d e f, LeO (match_Linked.l1 k a b c d e f) (match_Linked.l1 (k + 1) a b c d e f)) ∧ (∀ a b c d e f g h i, LeO (match_Linked.l2 k a b c d e f g h i) (match_Linked.l2 (k + 1) a b c d e f g h i))
  | 0 => ⟨fun _ _ _ _ r h => by simp [match_Linked.l0] at h, fun _ _ _ _ _ _ r h => by simp [match_Linked.l1] at h, fun _ _ _ _ _ _ _ _ _ r h => by simp [match_Linked.l2] at h⟩
  | k + 1 => by
    obtain ⟨ih0, ih1, ih2⟩ := match_Linked.mono_l k
    refine ⟨fun a b c d => ?_, fun a b c d e f => ?_, fun a b c d e f g h i => ?_⟩
    · unfold match_Linked.l0
      repeat' first
        | (with_reducible exact ih1 _ _ _ _ _ _)
        | (with_reducible exact LeO.refl _)
        | (with_reducible refine LeO.ite ?_ ?_)
    · unfold match_Linked.l1
      repeat' first
        | (with_reducible exact ih0 _ _ _ _)
        | (with_reducible exact ih2 _ _ _ _ _ _ _ _ _)
        | (with_reducible exact LeO.refl _)
        | (with_reducible refine LeO.ite ?_ ?_)
    · unfold match_Linked.l2
      repeat' first
        | (with_reducible exact ih1 _ _ _ _ _ _)
        | (with_reducible exact ih2 _ _ _ _ _ _ _ _ _)
        | (with_reducible exact LeO.refl _)
        | (with_reducible refine LeO.ite ?_ ?_)
theorem match_Linked.mono : ∀ a0 a1 a2 k, LeO (match_Linked.f k a0 a1 a2) (match_Linked.f (k + 1) a0 a1 a2) := fun _ _ _ k => (match_Linked.mono_l k).1 _ _ _ _
theorem cpt.mono_l1 : ∀ k a b c d, LeO (cpt.l1 k a b c d) (cpt.l1 (k + 1) a b c d)
  | 0, _, _, _, _ => LeO.none _
  | k + 1, a, b, c, d => by
    rw [cpt.l1, cpt.l1]
    exact LeO.ite (LeO.ite (cpt.mono_l1 k _ _ _ _) (LeO.ite (cpt.mono_l1 k _ _ _ _) (LeO.refl _))) (LeO.refl _)
theorem cpt.mono_l0 : ∀ k a b, LeO (cpt.l0 k a b) (cpt.l0 (k + 1) a b)
  | 0, _, _ => LeO.none _
  | k + 1, a, b => by
    rw [cpt.l0, cpt.l0]
    exact LeO.ite (LeO.ite (cpt.mono_l1 k _ _ _ _) (cpt.mono_l0 k _ _)) (LeO.refl _)
theorem match_Links.mono : ∀ a0 k, LeO (match_Links.f k a0) (match_Links.f (k + 1) a0) := fun _ k => by
  unfold match_Links.f cpt.f
  exact LeO.ite (LeO.ite (LeO.refl _) (cpt.mono_l0 k _ _)) (LeO.refl _)

end Go.Proofs.Ytjnhdoaceegkoaa.PMc
