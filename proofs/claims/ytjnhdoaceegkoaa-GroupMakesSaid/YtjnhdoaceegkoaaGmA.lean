import Derived.Test.YtjnhdoaceegkoaaPGmx12
namespace Go.Proofs.Ytjnhdoaceegkoaa.PGm
open Go.RowKit Go.Proofs.YtjnhdoaceegkoaaW.PrintWords Go.Proofs.YtjnhdoaceegkoaaW.PrintLast Go.Proofs.YtjnhdoaceegkoaaW.PrintMore
set_option maxRecDepth 100000 in
theorem alive_true : oriellaw31_alive.f 20 = some true := by decide +kernel
theorem alive_ev : Ev (fun k => oriellaw31_alive.f k) true := Ev.of oriellaw31_alive.mono alive_true
theorem wr64 {n : Int} (h0 : 0 ≤ n) (h : n < 9223372036854775808) : wrap64 n = n := by unfold wrap64; omega
theorem rd_mem (l : List ByteArray) (i : Nat) : rdOf ByteArray.empty l (i : Int) = l.getD i ByteArray.empty := by simp [rdOf]
theorem few_l0 (l : List ByteArray) : ∀ (m i : Nat) (x : Int), i + m = 61 → 0 ≤ x → x ≤ 1000 * i → (∀ j, j < i → j < l.length → mn ((l.getD j ByteArray.empty).size : Int) 1000 ≤ x) → i ≤ l.length →
    ∃ b, Ev (fun k => oriellaw31_few.l0 k l x i) b ∧ (b = true → l.length ≤ 60 ∧ ∀ j, j < l.length → (l.getD j ByteArray.empty).size ≤ 500) := by
  intro m
  induction m with
  | zero =>
    intro i x hi h0 h1 hs hil
    by_cases hl : i < l.length
    · refine ⟨false, Ev.step (f := fun _ => some false) (fun k => ?_) (Ev.now _), by simp⟩
      rw [oriellaw31_few.l0, if_pos (by omega), if_neg (by omega), if_neg (by omega)]
    · refine ⟨false, Ev.step (f := fun _ => some false) (fun k => ?_) (Ev.now _), by simp⟩
      rw [oriellaw31_few.l0, if_neg (by omega), if_neg (by omega)]
  | succ m ih =>
    intro i x hi h0 h1 hs hil
    by_cases hl : i < l.length
    · have hm : 0 ≤ mn ((l.getD i ByteArray.empty).size : Int) 1000 ∧ mn ((l.getD i ByteArray.empty).size : Int) 1000 ≤ 1000 := by unfold mn; split <;> omega
      obtain ⟨b, hb, hb2⟩ := ih (i + 1) (x + mn ((l.getD i ByteArray.empty).size : Int) 1000) (by omega) (by omega) (by omega) (fun j hj hjl => by
        by_cases e : j = i
        · subst e; omega
        · have := hs j (by omega) hjl; omega) (by omega)
      refine ⟨b, Ev.step (fun k => ?_) hb, hb2⟩
      rw [oriellaw31_few.l0, if_pos (by omega), if_pos (by omega), if_pos (by omega), rd_mem l i, wr64 (by omega) (by omega), wr64 (by omega) (by omega)]
      rfl
    · refine ⟨decide (x ≤ 500), Ev.step (f := fun _ => some (decide (x ≤ 500))) (fun k => ?_) (Ev.now _), fun hb => ⟨by omega, fun j hj => ?_⟩⟩
      · rw [oriellaw31_few.l0, if_neg (by omega), if_pos (by omega)]
      · have h2 := hs j (by omega) hj
        have h3 : x ≤ 500 := by simpa using hb
        unfold mn at h2
        split at h2 <;> omega
theorem few_ev (l : List ByteArray) : ∃ b, Ev (fun k => oriellaw31_few.f k l) b ∧ (b = true → l.length ≤ 60 ∧ ∀ j, j < l.length → (l.getD j ByteArray.empty).size ≤ 500) :=
  few_l0 l 61 0 0 (by omega) (by omega) (by omega) (fun j h => by omega) (Nat.zero_le _)

/-- is a text in a list, from a place on? -/
theorem In_l0 (l : List ByteArray) (x : ByteArray) (hl : l.length < 1000) : ∀ (m i : Nat), i + m = l.length → Ev (fun k => orielref04_In.l0 k l x i) ((l.drop i).any fun y => y.toList == x.toList) := by
  intro m
  induction m with
  | zero =>
    intro i hi
    refine Ev.step (f := fun _ => some _) (fun k => ?_) (Ev.now _)
    rw [orielref04_In.l0, if_neg (by omega), List.drop_eq_nil_of_le (by omega)]
    rfl
  | succ m ih =>
    intro i hi
    have h1 : i < l.length := by omega
    rw [List.drop_eq_getElem_cons h1, List.any_cons]
    by_cases hx : l[i].toList = x.toList
    · refine Ev.step (f := fun _ => some _) (fun k => ?_) (Ev.now _)
      rw [orielref04_In.l0, if_pos (by omega), if_pos (by omega), rd_mem l i]
      simp [h1, hx]
    · have := ih (i + 1) (by omega)
      have hx' : (l[i].toList == x.toList) = false := beq_eq_false_iff_ne.2 hx
      rw [hx', Bool.false_or]
      refine Ev.step (fun k => ?_) this
      rw [orielref04_In.l0, if_pos (by omega), if_pos (by omega), rd_mem l i, if_neg (by simpa [h1] using hx), wr64 (by omega) (by omega)]
      rfl
theorem In_ev (l : List ByteArray) (x : ByteArray) (hl : l.length < 1000) : Ev (fun k => orielref04_In.f k l x) (l.any fun y => y.toList == x.toList) := by
  have := In_l0 l x hl l.length 0 (by omega)
  rw [List.drop_zero] at this
  exact this
theorem Small_ev (n : Int) : ∃ b, orielref04_Small.f n = some b := by
  unfold orielref04_Small.f; split <;> exact ⟨_, rfl⟩
theorem Great_ev (n : Int) : ∃ b, orielref04_Great.f n = some b := by
  unfold orielref04_Great.f; split <;> exact ⟨_, rfl⟩
theorem Rest_ev (n : Int) : ∃ b, orielref04_Rest.f n = some b := by
  unfold orielref04_Rest.f
  obtain ⟨b, hb⟩ := Small_ev n
  obtain ⟨c, hc⟩ := Great_ev n
  rw [hb, hc]
  simp only [Option.bind_some]
  repeat' split
  all_goals exact ⟨_, rfl⟩
def SG (n : Int) : Bool := (sgL.any fun x => (x.toNat : Int) == n) || n == 92 || n == 96
theorem Signs_eq (n : Int) : orielref04_Signs.f n = some (SG n) := rfl
theorem j1_ev (s : ByteArray) (hs : 0 < s.size) (x : Bool) : ∃ v, Ev (fun k => orielref04_Kind.j1 k s x) v ∧ v ≠ 9 := by
  cases x
  · obtain ⟨b, hb⟩ := Small_ev (bt s 0)
    cases b
    · refine ⟨0, Ev.step (f := fun _ => some 0) (fun k => ?_) (Ev.now _), by decide⟩
      rw [orielref04_Kind.j1, if_neg (by simp), if_pos (by omega), hb]
      rfl
    · have hk : ∃ K, orielref04_Keywords.f = some K ∧ K.length < 1000 := ⟨_, rfl, by decide⟩
      obtain ⟨K, hK, hKl⟩ := hk
      have hin := In_ev K s hKl
      cases hany : K.any fun y => y.toList == s.toList
      · rw [hany] at hin
        refine ⟨6, Ev.step (fun k => ?_) (Ev.bind (f := fun _ b => if b = true then some (10 : Int) else some 6) hin (Ev.now 6)), by decide⟩
        · rw [orielref04_Kind.j1, if_neg (by simp), if_pos (by omega), hb, hK]
          rfl
      · rw [hany] at hin
        refine ⟨10, Ev.step (fun k => ?_) (Ev.bind (f := fun _ b => if b = true then some (10 : Int) else some 6) hin (Ev.now 10)), by decide⟩
        · rw [orielref04_Kind.j1, if_neg (by simp), if_pos (by omega), hb, hK]
          rfl
  · refine ⟨8, Ev.step (f := fun _ => some 8) (fun k => ?_) (Ev.now _), by decide⟩
    rw [orielref04_Kind.j1, if_pos rfl]

theorem Kl0_ev (s : ByteArray) (hs : 0 < s.size) (hs2 : s.size ≤ 1000) : ∀ (m i : Nat) (x3 x4 : Bool), i + m = s.size →
    ∃ v, Ev (fun k => orielref04_Kind.l0 k s x3 x4 i) v ∧ (v = 9 ↔ x4 = true ∧ ∀ j : Nat, i ≤ j → j < s.size → SG (bt s j) = true) := by
  intro m
  induction m with
  | zero =>
    intro i x3 x4 hi
    have hlt : ¬ (i : Int) < (s.size : Int) := by omega
    cases x4
    · cases x3
      · refine ⟨0, Ev.step (f := fun _ => some 0) (fun k => ?_) (Ev.now _), by simp⟩
        rw [orielref04_Kind.l0, if_neg hlt]
        rfl
      · obtain ⟨b, hb⟩ := Great_ev (bt s 0)
        cases b
        · obtain ⟨v1, hv1, h1⟩ := j1_ev s hs true
          obtain ⟨v0, hv0, h0⟩ := j1_ev s hs false
          by_cases h39 : bt s 0 = 39
          · by_cases h2 : s.size > 1
            · obtain ⟨c, hc⟩ := Small_ev (bt s 1)
              cases c
              · refine ⟨v0, Ev.step (fun k => ?_) hv0, by simp [h0]⟩
                rw [orielref04_Kind.l0, if_neg hlt, if_neg (by simp), if_pos rfl, if_pos (by omega), hb, h39, hc]
                simp only [Option.bind_some, if_true]
                rw [if_neg (by simp), if_pos (by omega), if_pos (by omega)]
              · refine ⟨v1, Ev.step (fun k => ?_) hv1, by simp [h1]⟩
                rw [orielref04_Kind.l0, if_neg hlt, if_neg (by simp), if_pos rfl, if_pos (by omega), hb, h39, hc]
                simp only [Option.bind_some, if_true]
                rw [if_neg (by simp), if_pos (by omega), if_pos (by omega)]
            · refine ⟨v0, Ev.step (fun k => ?_) hv0, by simp [h0]⟩
              rw [orielref04_Kind.l0, if_neg hlt, if_neg (by simp), if_pos rfl, if_pos (by omega), hb, h39]
              simp only [Option.bind_some, if_true]
              rw [if_neg (by simp), if_neg (by omega)]
          · refine ⟨v0, Ev.step (fun k => ?_) hv0, by simp [h0]⟩
            rw [orielref04_Kind.l0, if_neg hlt, if_neg (by simp), if_pos rfl, if_pos (by omega), hb]
            simp only [Option.bind_some]
            rw [if_neg (by simp), if_neg h39]
        · refine ⟨7, Ev.step (f := fun _ => some 7) (fun k => ?_) (Ev.now _), by simp⟩
          rw [orielref04_Kind.l0, if_neg hlt, if_neg (by simp), if_pos rfl, if_pos (by omega), hb]
          simp only [Option.bind_some]
          rw [if_pos trivial]
    · refine ⟨9, Ev.step (f := fun _ => some 9) (fun k => ?_) (Ev.now _), by simp; intro j h1 h2; omega⟩
      rw [orielref04_Kind.l0, if_neg hlt, if_pos rfl]
  | succ m ih =>
    intro i x3 x4 hi
    have hlt : (i : Int) < (s.size : Int) := by omega
    have ew : wrap64 ((i : Int) + 1) = ((i + 1 : Nat) : Int) := by rw [wr64 (by omega) (by omega)]; rfl
    have key : ∀ x4' : Bool, (x4' = true ↔ x4 = true ∧ SG (bt s i) = true) → ((x4' = true ∧ ∀ j : Nat, i + 1 ≤ j → j < s.size → SG (bt s j) = true) ↔ (x4 = true ∧ ∀ j : Nat, i ≤ j → j < s.size → SG (bt s j) = true)) := by
      intro x4' h
      rw [h]
      constructor
      · rintro ⟨⟨a, b⟩, c⟩
        refine ⟨a, fun j h1 h2 => ?_⟩
        by_cases e : j = i
        · subst e; exact b
        · exact c j (by omega) h2
      · rintro ⟨a, c⟩
        exact ⟨⟨a, c i (Nat.le_refl _) (by omega)⟩, fun j h1 h2 => c j (by omega) h2⟩
    obtain ⟨b, hb⟩ := Rest_ev (bt s i)
    cases x3
    · cases x4
      · obtain ⟨v, hv, h⟩ := ih (i + 1) false false (by omega)
        refine ⟨v, Ev.step (fun k => ?_) hv, by rw [h]; exact key false (by simp)⟩
        rw [orielref04_Kind.l0, if_pos hlt, if_neg (by simp), if_neg (by simp), ew]
      · obtain ⟨v, hv, h⟩ := ih (i + 1) false (SG (bt s i)) (by omega)
        refine ⟨v, Ev.step (fun k => ?_) hv, by rw [h]; exact key _ (by simp)⟩
        rw [orielref04_Kind.l0, if_pos hlt, if_neg (by simp), if_pos rfl, if_pos (by omega), Signs_eq, ew]
        rfl
    · cases x4
      · obtain ⟨v, hv, h⟩ := ih (i + 1) b false (by omega)
        refine ⟨v, Ev.step (fun k => ?_) hv, by rw [h]; exact key false (by simp)⟩
        rw [orielref04_Kind.l0, if_pos hlt, if_pos rfl, if_pos (by omega), hb, ew]
        rfl
      · obtain ⟨v, hv, h⟩ := ih (i + 1) b (SG (bt s i)) (by omega)
        refine ⟨v, Ev.step (fun k => ?_) hv, by rw [h]; exact key _ (by simp)⟩
        rw [orielref04_Kind.l0, if_pos hlt, if_pos rfl, if_pos (by omega), hb, Signs_eq, ew]
        rfl
theorem SG_signB : ∀ n : Int, 0 ≤ n → n ≤ 255 → SG n = signB n := by
  have h : ∀ n : Fin 256, SG ((n.val : Nat) : Int) = signB ((n.val : Nat) : Int) := by decide +kernel
  intro n h0 h1
  obtain ⟨m, rfl⟩ : ∃ m : Nat, n = m := ⟨n.toNat, by omega⟩
  exact h ⟨m, by omega⟩
def mkL : List ByteArray := [⟨#[40]⟩, ⟨#[41]⟩, ⟨#[44]⟩, ⟨#[46]⟩, ⟨#[59]⟩, ⟨#[95]⟩, ⟨#[61]⟩, ⟨#[61, 62]⟩, ⟨#[124]⟩, ⟨#[58]⟩, ⟨#[58, 62]⟩, ⟨#[45, 62]⟩]
theorem Marks_eq : orielref04_Marks.f = some mkL := rfl
theorem one_mark (c : UInt8) : decide (0 ≤ Lib.indexByte [40, 41, 44, 46, 59, 95] c) = [40, 41, 44, 46, 59, 95].contains c := by
  have h : ∀ n : Fin 256, decide (0 ≤ Lib.indexByte [40, 41, 44, 46, 59, 95] (UInt8.ofNat n.val)) = [40, 41, 44, 46, 59, 95].contains (UInt8.ofNat n.val) := by decide +kernel
  have := h ⟨c.toNat, c.toNat_lt⟩
  simpa using this
theorem markB_eq (s : ByteArray) : markB s = mkL.any fun y => y.toList == s.toList := by
  have hr : reservedB s = (s.toList == [61] || s.toList == [61, 62] || s.toList == [124] || s.toList == [58] || s.toList == [58, 62] || s.toList == [45, 62]) := by
    unfold reservedB name_reserved.f
    repeat' split
    all_goals simp_all
  unfold markB
  rw [hr]
  obtain ⟨⟨l⟩⟩ := s
  have e1 : (⟨⟨l⟩⟩ : ByteArray).toList = l := by simp [Go.ByteArray.toList_eq]
  have e2 : (⟨⟨l⟩⟩ : ByteArray).size = l.length := rfl
  have e3 : oneB ⟨⟨l⟩⟩ = [40, 41, 44, 46, 59, 95].contains (l.headD 0) := one_mark _
  have e4 : mkL.map (fun y => y.toList) = [[40], [41], [44], [46], [59], [95], [61], [61, 62], [124], [58], [58, 62], [45, 62]] := by decide +kernel
  have e5 : (mkL.any fun y => y.toList == (⟨⟨l⟩⟩ : ByteArray).toList) = ((mkL.map (fun y => y.toList)).any fun y => y == l) := by rw [List.any_map, e1]; rfl
  rw [e5, e4, e1, e2, e3]
  match l with
  | [] => rfl
  | [c] =>
    have h : ∀ n : Fin 256, ([UInt8.ofNat n.val] == [61] || [UInt8.ofNat n.val] == [61, 62] || [UInt8.ofNat n.val] == [124] || [UInt8.ofNat n.val] == [58] || [UInt8.ofNat n.val] == [58, 62] || [UInt8.ofNat n.val] == [45, 62] || (decide ([UInt8.ofNat n.val].length = 1) && [40, 41, 44, 46, 59, 95].contains ([UInt8.ofNat n.val].headD 0))) = ([[40], [41], [44], [46], [59], [95], [61], [61, 62], [124], [58], [58, 62], [45, 62]].any fun y => y == [UInt8.ofNat n.val]) := by decide +kernel
    have := h ⟨c.toNat, c.toNat_lt⟩
    simpa using this
  | [c, d] =>
    have hc : ∀ a b : UInt8, (a == b) = (b == a) := fun a b => by
      rw [Bool.eq_iff_iff, beq_iff_eq, beq_iff_eq]
      exact eq_comm
    simp
    rw [hc 61 c, hc 62 d, hc 58 c, hc 45 c, Bool.or_assoc]
  | c :: d :: e :: r => simp

theorem Kind_ev (s : ByteArray) (hs2 : s.size ≤ 1000) : ∃ v, Ev (fun k => orielref04_Kind.f k s) v ∧ (v = 9 ↔ kindB s = 9) := by
  by_cases he : s.toList = []
  · refine ⟨0, Ev.congr (f := fun _ => some 0) (fun k => ?_) (Ev.now _), ?_⟩
    · unfold orielref04_Kind.f
      rw [if_pos he]
    · unfold kindB
      rw [if_pos he]
  · have hp := toList_pos he
    have hin := In_ev mkL s (by decide)
    rw [← markB_eq] at hin
    cases hm : markB s
    · rw [hm] at hin
      obtain ⟨v, hv, h9⟩ := Kl0_ev s hp hs2 s.size 0 true true (by omega)
      refine ⟨v, Ev.congr (fun k => ?_) (Ev.bind (f := fun k b => if b = true then some 11 else orielref04_Kind.l0 k s true true 0) hin (Ev.congr (fun k => ?_) hv)), ?_⟩
      · unfold orielref04_Kind.f
        rw [if_neg he, Marks_eq]
        rfl
      · rw [if_neg (by simp)]; rfl
      · rw [h9]
        have hk : kindB s = 9 ↔ (signB (bt s 0) = true ∧ allB signB s = true) := by
          unfold kindB
          rw [if_neg he, if_neg (by rw [hm]; decide)]
          constructor
          · intro h
            by_cases c : signB (bt s 0) = true ∧ allB signB s = true
            · exact c
            · rw [if_neg c] at h
              repeat' split at h
              all_goals omega
          · intro c; rw [if_pos c]
        rw [hk]
        unfold allB
        simp only [decide_eq_true_eq, true_and]
        constructor
        · intro h
          have hh : ∀ j : Nat, j < s.size → signB (bt s j) = true := fun j hj => by
            rw [← SG_signB _ (bt_range s j).1 (bt_range s j).2]
            exact h j (Nat.zero_le _) hj
          exact ⟨hh 0 hp, hh⟩
        · rintro ⟨_, h⟩ j _ hj
          rw [SG_signB _ (bt_range s j).1 (bt_range s j).2]
          exact h j hj
    · rw [hm] at hin
      refine ⟨11, Ev.congr (fun k => ?_) (Ev.bind (f := fun k b => if b = true then some 11 else orielref04_Kind.l0 k s true true 0) hin (Ev.now 11)), ?_⟩
      · unfold orielref04_Kind.f
        rw [if_neg he, Marks_eq]
        rfl
      · unfold kindB
        rw [if_neg he, if_pos hm]
        first | done | simp
/-- a sign's level, by its first byte -/
def LB (c : Int) : Int × Bool := if c = 42 ∨ c = 47 ∨ c = 37 then (7, false) else if c = 43 ∨ c = 45 then (6, false) else if c = 94 ∨ c = 64 ∨ c = 58 then (5, true) else if c = 61 ∨ c = 60 ∨ c = 62 ∨ c = 33 then (4, false) else if c = 38 ∨ c = 124 then (3, false) else (2, false)
theorem lv_eq (s : ByteArray) (hs : s.size ≤ 1000) : lv s = if kindB s = 9 then LB (bt s 0) else (0, false) := by
  unfold lv name_Level.f name_Kind.f
  rw [if_pos (by omega)]
  simp only [Option.bind_some]
  by_cases hk : kindB s = 9
  · have := kind_9 hk
    rw [if_pos hk, if_pos hk, if_pos (by omega)]
    have h : ∀ n : Fin 256, ((if ((n.val : Nat) : Int) = 42 then (name_Level.j0 10 (n.val : Nat) (((n.val : Nat) : Int) == 42)) else (if ((n.val : Nat) : Int) = 47 then (name_Level.j0 10 (n.val : Nat) (((n.val : Nat) : Int) == 47)) else (name_Level.j0 10 (n.val : Nat) (((n.val : Nat) : Int) == 37)))).getD (0, false)) = LB (n.val : Nat) := by decide +kernel
    obtain ⟨h0, h1⟩ := bt_range s 0
    obtain ⟨m, hm⟩ : ∃ m : Nat, bt s 0 = m := ⟨(bt s 0).toNat, by omega⟩
    rw [hm]
    exact h ⟨m, by omega⟩
  · rw [if_neg hk, if_neg hk]; first | done | rfl
theorem first_byte (s : ByteArray) (hs : 0 < s.size) : ∃ c : UInt8, (s.extract 0 1).toList = [c] ∧ bt s 0 = c.toNat := by
  obtain ⟨⟨l⟩⟩ := s
  match l, hs with
  | c :: r, _ =>
    refine ⟨c, ?_, ?_⟩
    · rw [Go.ByteArray.toList_eq]
      simp [ByteArray.data_extract]
    · rfl
theorem Level_ev (s : ByteArray) (hs2 : s.size ≤ 1000) : Ev (fun k => orielref04_Level.f k s) (lv s) := by
  obtain ⟨v, hv, h9⟩ := Kind_ev s hs2
  rw [lv_eq s hs2]
  unfold orielref04_Level.f
  refine Ev.bind hv ?_
  by_cases hk : kindB s = 9
  · have hp := kind_9 hk
    obtain ⟨c, hc, hb⟩ := first_byte s hp
    rw [if_pos hk]
    have hv9 := h9.2 hk
    refine Ev.congr (fun k => by rw [if_pos hv9, if_pos (by omega), if_pos (by omega)]) ?_
    rw [hb]
    have i1 := In_ev [(⟨#[42]⟩ : ByteArray), (⟨#[47]⟩ : ByteArray), (⟨#[37]⟩ : ByteArray)] (s.extract 0 1) (by decide)
    have i2 := In_ev [(⟨#[43]⟩ : ByteArray), (⟨#[45]⟩ : ByteArray)] (s.extract 0 1) (by decide)
    have i3 := In_ev [(⟨#[94]⟩ : ByteArray), (⟨#[64]⟩ : ByteArray), (⟨#[58]⟩ : ByteArray)] (s.extract 0 1) (by decide)
    have i4 := In_ev [(⟨#[61]⟩ : ByteArray), (⟨#[60]⟩ : ByteArray), (⟨#[62]⟩ : ByteArray), (⟨#[33]⟩ : ByteArray)] (s.extract 0 1) (by decide)
    have i5 := In_ev [(⟨#[38]⟩ : ByteArray), (⟨#[124]⟩ : ByteArray)] (s.extract 0 1) (by decide)
    rw [hc] at i1 i2 i3 i4 i5
    have q1 : ([(⟨#[42]⟩ : ByteArray), (⟨#[47]⟩ : ByteArray), (⟨#[37]⟩ : ByteArray)].any fun y => y.toList == [c]) = decide ((c.toNat : Int) = 42 ∨ (c.toNat : Int) = 47 ∨ (c.toNat : Int) = 37) := by
      have h : ∀ n : Fin 256, ([(⟨#[42]⟩ : ByteArray), (⟨#[47]⟩ : ByteArray), (⟨#[37]⟩ : ByteArray)].any fun y => y.toList == [UInt8.ofNat n.val]) = decide (((UInt8.ofNat n.val).toNat : Int) = 42 ∨ ((UInt8.ofNat n.val).toNat : Int) = 47 ∨ ((UInt8.ofNat n.val).toNat : Int) = 37) := by decide +kernel
      have := h ⟨c.toNat, c.toNat_lt⟩
      simpa using this
    have q2 : ([(⟨#[43]⟩ : ByteArray), (⟨#[45]⟩ : ByteArray)].any fun y => y.toList == [c]) = decide ((c.toNat : Int) = 43 ∨ (c.toNat : Int) = 45) := by
      have h : ∀ n : Fin 256, ([(⟨#[43]⟩ : ByteArray), (⟨#[45]⟩ : ByteArray)].any fun y => y.toList == [UInt8.ofNat n.val]) = decide (((UInt8.ofNat n.val).toNat : Int) = 43 ∨ ((UInt8.ofNat n.val).toNat : Int) = 45) := by decide +kernel
      have := h ⟨c.toNat, c.toNat_lt⟩
      simpa using this
    have q3 : ([(⟨#[94]⟩ : ByteArray), (⟨#[64]⟩ : ByteArray), (⟨#[58]⟩ : ByteArray)].any fun y => y.toList == [c]) = decide ((c.toNat : Int) = 94 ∨ (c.toNat : Int) = 64 ∨ (c.toNat : Int) = 58) := by
      have h : ∀ n : Fin 256, ([(⟨#[94]⟩ : ByteArray), (⟨#[64]⟩ : ByteArray), (⟨#[58]⟩ : ByteArray)].any fun y => y.toList == [UInt8.ofNat n.val]) = decide (((UInt8.ofNat n.val).toNat : Int) = 94 ∨ ((UInt8.ofNat n.val).toNat : Int) = 64 ∨ ((UInt8.ofNat n.val).toNat : Int) = 58) := by decide +kernel
      have := h ⟨c.toNat, c.toNat_lt⟩
      simpa using this
    have q4 : ([(⟨#[61]⟩ : ByteArray), (⟨#[60]⟩ : ByteArray), (⟨#[62]⟩ : ByteArray), (⟨#[33]⟩ : ByteArray)].any fun y => y.toList == [c]) = decide ((c.toNat : Int) = 61 ∨ (c.toNat : Int) = 60 ∨ (c.toNat : Int) = 62 ∨ (c.toNat : Int) = 33) := by
      have h : ∀ n : Fin 256, ([(⟨#[61]⟩ : ByteArray), (⟨#[60]⟩ : ByteArray), (⟨#[62]⟩ : ByteArray), (⟨#[33]⟩ : ByteArray)].any fun y => y.toList == [UInt8.ofNat n.val]) = decide (((UInt8.ofNat n.val).toNat : Int) = 61 ∨ ((UInt8.ofNat n.val).toNat : Int) = 60 ∨ ((UInt8.ofNat n.val).toNat : Int) = 62 ∨ ((UInt8.ofNat n.val).toNat : Int) = 33) := by decide +kernel
      have := h ⟨c.toNat, c.toNat_lt⟩
      simpa using this
    have q5 : ([(⟨#[38]⟩ : ByteArray), (⟨#[124]⟩ : ByteArray)].any fun y => y.toList == [c]) = decide ((c.toNat : Int) = 38 ∨ (c.toNat : Int) = 124) := by
      have h : ∀ n : Fin 256, ([(⟨#[38]⟩ : ByteArray), (⟨#[124]⟩ : ByteArray)].any fun y => y.toList == [UInt8.ofNat n.val]) = decide (((UInt8.ofNat n.val).toNat : Int) = 38 ∨ ((UInt8.ofNat n.val).toNat : Int) = 124) := by decide +kernel
      have := h ⟨c.toNat, c.toNat_lt⟩
      simpa using this
    rw [q1] at i1
    rw [q2] at i2
    rw [q3] at i3
    rw [q4] at i4
    rw [q5] at i5
    unfold LB
    refine Ev.bind i1 ?_
    by_cases p1 : (c.toNat : Int) = 42 ∨ (c.toNat : Int) = 47 ∨ (c.toNat : Int) = 37
    · rw [if_pos p1]
      exact Ev.congr (f := fun _ => some (7, false)) (fun k => if_pos (decide_eq_true p1)) (Ev.now _)
    rw [if_neg p1]
    refine Ev.congr (fun k => if_neg (by rw [decide_eq_false p1]; decide)) ?_
    refine Ev.bind i2 ?_
    by_cases p2 : (c.toNat : Int) = 43 ∨ (c.toNat : Int) = 45
    · rw [if_pos p2]
      exact Ev.congr (f := fun _ => some (6, false)) (fun k => if_pos (decide_eq_true p2)) (Ev.now _)
    rw [if_neg p2]
    refine Ev.congr (fun k => if_neg (by rw [decide_eq_false p2]; decide)) ?_
    refine Ev.bind i3 ?_
    by_cases p3 : (c.toNat : Int) = 94 ∨ (c.toNat : Int) = 64 ∨ (c.toNat : Int) = 58
    · rw [if_pos p3]
      exact Ev.congr (f := fun _ => some (5, true)) (fun k => if_pos (decide_eq_true p3)) (Ev.now _)
    rw [if_neg p3]
    refine Ev.congr (fun k => if_neg (by rw [decide_eq_false p3]; decide)) ?_
    refine Ev.bind i4 ?_
    by_cases p4 : (c.toNat : Int) = 61 ∨ (c.toNat : Int) = 60 ∨ (c.toNat : Int) = 62 ∨ (c.toNat : Int) = 33
    · rw [if_pos p4]
      exact Ev.congr (f := fun _ => some (4, false)) (fun k => if_pos (decide_eq_true p4)) (Ev.now _)
    rw [if_neg p4]
    refine Ev.congr (fun k => if_neg (by rw [decide_eq_false p4]; decide)) ?_
    refine Ev.bind i5 ?_
    by_cases p5 : (c.toNat : Int) = 38 ∨ (c.toNat : Int) = 124
    · rw [if_pos p5]
      exact Ev.congr (f := fun _ => some (3, false)) (fun k => if_pos (decide_eq_true p5)) (Ev.now _)
    rw [if_neg p5]
    refine Ev.congr (fun k => if_neg (by rw [decide_eq_false p5]; decide)) ?_
    exact Ev.now _
  · rw [if_neg hk]
    refine Ev.congr (f := fun _ => some (0, false)) (fun k => ?_) (Ev.now _)
    rw [if_neg (fun h => hk (h9.1 h))]
end Go.Proofs.Ytjnhdoaceegkoaa.PGm
