/-
  Part 1 of the proof: SxJ, SxK, SxL, SxM, SxS, SxT.
-/
import Derived.Test.YtegikhoholfcmaaGreatM00
import Derived.Maps.AppendAt
namespace Go.Sx
set_option linter.unusedVariables false
abbrev PE := Nat × Value × Option (Heap → Prop)
def dstAt (ops : Array Oper) (i : Nat) : Option Tmp := (ops[i]?).bind (·.dst)
def foldP (ops : Array Oper) (l : List PE) (a : Act) : Act := l.foldl (fun a x => a.put (dstAt ops x.1) x.2.1) a
def Yl (P : Program) (ops : Array Oper) (w : World) (x : PE) (a : Act) : Prop := ∃ o, ops[x.1]? = some o ∧
  ((Region.wanted o (yielded ops a.tmps) = true ∧ OkIn x.2.2 w.heap ∧ ∀ w', OkIn x.2.2 w'.heap → (execOp a.eval o).run P w' = .ok (.value x.2.1) w') ∨
   (Region.wanted o (yielded ops a.tmps) = false ∧ x.2.1 = undef ∧ x.2.2 = none))
theorem foldP_put {ops : Array Oper} {d : Option Tmp} {v : Value} : ∀ (l : List PE) (a : Act), (∀ x ∈ l, ∀ t, d = some t → dstAt ops x.1 ≠ some t) → foldP ops l (a.put d v) = (foldP ops l a).put d v
  | [], a, _ => rfl
  | x :: l, a, h => by
    show foldP ops l ((a.put d v).put (dstAt ops x.1) x.2.1) = (foldP ops l (a.put (dstAt ops x.1) x.2.1)).put d v
    rw [Act.put_comm a v x.2.1 (h x (by simp))]
    exact foldP_put l _ fun y hy => h y (by simp [hy])
theorem foldP_append (ops : Array Oper) (l r : List PE) (a : Act) : foldP ops (l ++ r) a = foldP ops r (foldP ops l a) := by simp [foldP]
structure Apt (ops : Array Oper) (x y : Oper) : Prop where
  a : ∀ d, x.dst = some d → d ∉ y.looksAt ops
  b : ∀ d, x.dst = some d → y.dst ≠ some d
  c : ∀ d, y.dst = some d → d ∉ x.looksAt ops
theorem Apt.symm {ops : Array Oper} {x y : Oper} (h : Apt ops x y) : Apt ops y x := ⟨h.c, fun d hd hx => h.b d hx hd, h.a⟩
theorem pairs_apt {ops : Array Oper} (hp : pairsOk ops = true) {i j : Nat} {x y : Oper} (hi : ops[i]? = some x) (hj : ops[j]? = some y) (hne : i ≠ j) (h1 : i ∉ deps y) (h2 : j ∉ deps x) : Apt ops x y := by
  unfold pairsOk at hp
  simp only [Bool.and_eq_true] at hp
  have hall := List.all_eq_true.1 hp.1
  have hlt : ∀ {k : Nat} {o : Oper}, ops[k]? = some o → k < ops.size := fun h => (Array.getElem?_eq_some_iff.1 h).1
  have key : ∀ {i j : Nat} {x y : Oper}, ops[i]? = some x → ops[j]? = some y → i < j → i ∉ deps y → j ∉ deps x → Apt ops x y := by
    intro i j x y hi hj hlt' h1 h2
    have := List.all_eq_true.1 (hall j (List.mem_range.2 (hlt hj))) i (List.mem_range.2 hlt')
    unfold pairOk at this
    simp only [hi, hj, Bool.or_eq_true, memB_iff, h1, h2, false_or] at this
    obtain ⟨p, q, r⟩ := Oper.apart_spec this
    exact ⟨p, q, r⟩
  rcases Nat.lt_or_gt_of_ne hne with h | h
  · exact key hi hj h h1 h2
  · exact (key hj hi h h2 h1).symm
theorem pairs_sel {ops : Array Oper} (hp : pairsOk ops = true) {i : Nat} {x : Oper} (hi : ops[i]? = some x) : ∀ cs b, x.op ≠ .select cs b := by
  unfold pairsOk at hp
  simp only [Bool.and_eq_true] at hp
  have := List.all_eq_true.1 hp.2 x (by rw [Array.mem_toList_iff]; exact Array.mem_of_getElem? hi)
  intro cs b he
  simp only [selB, he] at this
  cases this
theorem Yl_put {P : Program} {ops : Array Oper} {w : World} {x : PE} {a : Act} {o : Oper} (ho : ops[x.1]? = some o) (hs : ∀ cs b, o.op ≠ .select cs b) {d : Option Tmp} {v : Value} (hd : ∀ t, d = some t → t ∉ o.looksAt ops) :
    Yl P ops w x (a.put d v) ↔ Yl P ops w x a := by
  unfold Yl
  constructor
  · rintro ⟨o', ho', h⟩
    rw [ho] at ho'; cases ho'
    rw [execOp_put o hs a d v hd, wanted_put o a d v hd] at h
    exact ⟨o, ho, h⟩
  · rintro ⟨o', ho', h⟩
    rw [ho] at ho'; cases ho'
    rw [← execOp_put o hs a d v hd, ← wanted_put o a d v hd] at h
    exact ⟨o, ho, h⟩
theorem Yl_fold {P : Program} {ops : Array Oper} {w : World} {x : PE} {o : Oper} (ho : ops[x.1]? = some o) (hs : ∀ cs b, o.op ≠ .select cs b) :
    ∀ (l : List PE) (a : Act), (∀ y ∈ l, ∀ t, dstAt ops y.1 = some t → t ∉ o.looksAt ops) → (Yl P ops w x (foldP ops l a) ↔ Yl P ops w x a)
  | [], a, _ => Iff.rfl
  | y :: l, a, h => by
    show Yl P ops w x (foldP ops l (a.put (dstAt ops y.1) y.2.1)) ↔ _
    rw [Yl_fold ho hs l _ fun z hz => h z (by simp [hz])]
    exact Yl_put ho hs (h y (by simp))
structure DInv (ms : List Nat) (T : Tab) (P : Program) (ops : Array Oper) (n : Nat) (K : Env → Heap → Prop) (w0 : World) (ρ0 : Env) (D : Nat → Prop) (R : Array Bool) (a : Act) (w : World) (p : Plan) (L : List Nat) (st : Stl) (ρ : Env) (pend : List PE) : Prop where
  plan : planOk T ops.toList false L p = true
  vc : vcPlan T P ops.toList p st ρ w.heap K
  ag : Ag ms n (foldP ops pend a) ρ
  sz : R.size = ops.size
  same : SameW w0 w
  fr : ∀ t, ¬ D t → ρ t = ρ0 t
  sub : ∀ i, i ∈ L ↔ R.getD i false = true ∨ i ∈ pend.map (·.1)
  disj : ∀ x ∈ pend, R.getD x.1 true = false
  closed : ∀ i o, R.getD i false = true → ops[i]? = some o → ∀ j ∈ deps o, R.getD j false = true
  ord : ∀ p1 x p2, pend = p1 ++ x :: p2 → ∀ o, ops[x.1]? = some o → ∀ j ∈ deps o, R.getD j false = true ∨ j ∈ p1.map (·.1)
  yl : ∀ p1 x p2, pend = p1 ++ x :: p2 → Yl P ops w x (foldP ops p1 a)
  stab : ∀ x ∈ pend, (x.1, x.2.2) ∈ st
  nd : (pend.map (·.1)).Nodup
theorem mem_ready' {ops : Array Oper} {j : Nat} {R : Array Bool} : j ∈ Region.ready .any ops R ↔ R.getD j true = false ∧ ∃ o, ops[j]? = some o ∧ ∀ k ∈ deps o, R.getD k false = true := by
  rw [mem_ready]
  refine and_congr Iff.rfl (exists_congr fun o => and_congr Iff.rfl ?_)
  constructor
  · intro h k hk
    obtain ⟨e, he, rfl⟩ := List.mem_map.1 hk
    obtain ⟨h1, h2⟩ := List.mem_filter.1 he
    exact h e (by simpa using h1) h2
  · intro h e he hb
    exact h e.on (List.mem_map.2 ⟨e, List.mem_filter.2 ⟨by simpa using he, hb⟩, rfl⟩)
theorem readyB_iff {ops : Array Oper} {L : List Nat} {i : Nat} : readyB ops.toList L i = true ↔ i ∉ L ∧ ∃ o, ops[i]? = some o ∧ ∀ k ∈ deps o, k ∈ L := by
  unfold readyB
  simp only [Array.getElem?_toList]
  cases h : ops[i]? with
  | none => simp
  | some o =>
    simp only [Bool.and_eq_true, List.all_eq_true, memB_iff, Option.some.injEq, exists_eq_left']
    constructor
    · rintro ⟨h1, h2⟩
      refine ⟨fun hm => ?_, h2⟩
      rw [memB_iff.2 hm] at h1; cases h1
    · rintro ⟨h1, h2⟩
      refine ⟨?_, h2⟩
      cases hb : memB i L with
      | true => exact absurd (memB_iff.1 hb) h1
      | false => rfl
theorem getD_set {R : Array Bool} {i j : Nat} {b : Bool} (hi : i < R.size) : (R.setIfInBounds i true).getD j b = if j = i then true else R.getD j b := by
  simp only [Array.getD_eq_getD_getElem?, Array.getElem?_setIfInBounds]
  by_cases h : i = j
  · subst h; simp [hi]
  · rw [if_neg h, if_neg (Ne.symm h)]
theorem getD_tf {R : Array Bool} {i : Nat} (h : R.getD i true = false) : i < R.size ∧ R.getD i false = false := by
  simp only [Array.getD_eq_getD_getElem?] at *
  cases hi : R[i]? with
  | none => rw [hi] at h; cases h
  | some b => rw [hi] at h; exact ⟨(Array.getElem?_eq_some_iff.1 hi).1, h⟩
theorem getD_ft {R : Array Bool} {i : Nat} (hi : i < R.size) (h : ¬ R.getD i false = true) : R.getD i true = false := by
  simp only [Array.getD_eq_getD_getElem?, Array.getElem?_eq_getElem hi, Option.getD_some, Bool.not_eq_true] at *
  exact h
section
variable {ms : List Nat} {T : Tab} {P : Program} {ops : Array Oper} {n : Nat} {K : Env → Heap → Prop} {w0 : World} {ρ0 : Env} {D : Nat → Prop}
theorem upd_fr {ρ : Env} {o : Oper} (hd : ∀ t, o.dst = some t → t < n ∧ D t) (hf : ∀ t, ¬ D t → ρ t = ρ0 t) (v : Value) : ∀ t, ¬ D t → updO ρ o.dst v t = ρ0 t := by
  intro t ht
  cases hdst : o.dst with
  | none => exact hf t ht
  | some d =>
    have : Nat.beq t d = false := by
      cases hb : Nat.beq t d with
      | false => rfl
      | true => have := Nat.eq_of_beq_eq_true hb; subst this; exact absurd (hd t hdst).2 ht
    simp only [updO, upd, this]
    exact hf t ht
theorem DInv.eager (hT : TabOk P T) (hp : pairsOk ops = true) (hn : ∀ (i : Nat) (o : Oper), ops[i]? = some o → ∀ t, o.dst = some t → t < n ∧ D t) {R : Array Bool} {a : Act} {w : World} {j : Nat} {p : Plan} {L : List Nat} {st : Stl} {ρ : Env} {pend : List PE}
    (h : DInv ms T P ops n K w0 ρ0 D R a w (.q j p) L st ρ pend) : ∃ x st' ρ', x.1 = j ∧ DInv ms T P ops n K w0 ρ0 D R a w p (j :: L) st' ρ' (pend ++ [x]) := by
  have hpl := h.plan
  simp only [planOk, Bool.not_false, Bool.true_and, Bool.and_eq_true] at hpl
  obtain ⟨⟨hr, hq⟩, hpl⟩ := hpl
  obtain ⟨hjL, o, ho, hdep⟩ := readyB_iff.1 hr
  have hvc := h.vc
  simp only [vcPlan, Array.getElem?_toList, ho] at hvc
  have hdo := hn j o ho
  have hjR : R.getD j true = false := by
    refine getD_ft (by rw [h.sz]; exact (Array.getElem?_eq_some_iff.1 ho).1) fun hc => hjL ((h.sub j).2 (.inl hc))
  have hjp : j ∉ pend.map (·.1) := fun hc => hjL ((h.sub j).2 (.inr hc))
  have hda : dstAt ops j = o.dst := by simp [dstAt, ho]
  have fin : ∀ (v : Value) (c : Option (Heap → Prop)), Yl P ops w (j, v, c) (foldP ops pend a) → vcPlan T P ops.toList p ((j, c) :: st) (updO ρ o.dst v) w.heap K →
      DInv ms T P ops n K w0 ρ0 D R a w p (j :: L) ((j, c) :: st) (updO ρ o.dst v) (pend ++ [(j, v, c)]) := by
    intro v c hy hv
    refine ⟨hpl, hv, ?_, h.sz, h.same, upd_fr hdo h.fr v, ?_, ?_, h.closed, ?_, ?_, ?_, ?_⟩
    · rw [foldP_append]
      show Ag ms n ((foldP ops pend a).put (dstAt ops j) v) _
      rw [hda]
      exact h.ag.put (fun t ht => (hdo t ht).1) v
    · intro i
      rw [List.mem_cons, h.sub i, List.map_append, List.mem_append]
      simp
      constructor
      · rintro (h | h | h) <;> simp [h]
      · rintro (h | h | h) <;> simp [h]
    · intro x hx
      rcases List.mem_append.1 hx with hx | hx
      · exact h.disj x hx
      · simp at hx; subst hx; exact hjR
    · intro p1 x p2 he o' ho' k hk
      rcases List.eq_nil_or_concat p2 with rfl | ⟨p2', z, rfl⟩
      · obtain ⟨rfl, hx⟩ := List.append_inj' he rfl
        cases hx
        rw [ho] at ho'; cases ho'
        exact (h.sub k).1 (hdep k hk)
      · rw [List.concat_eq_append, ← List.cons_append, ← List.append_assoc] at he
        obtain ⟨rfl, _⟩ := List.append_inj' he rfl
        exact h.ord _ _ _ rfl o' ho' k hk
    · intro p1 x p2 he
      rcases List.eq_nil_or_concat p2 with rfl | ⟨p2', z, rfl⟩
      · obtain ⟨rfl, hx⟩ := List.append_inj' he rfl
        cases hx
        exact hy
      · rw [List.concat_eq_append, ← List.cons_append, ← List.append_assoc] at he
        obtain ⟨rfl, _⟩ := List.append_inj' he rfl
        exact h.yl _ _ _ rfl
    · intro x hx
      rcases List.mem_append.1 hx with hx | hx
      · exact List.mem_cons_of_mem _ (h.stab x hx)
      · simp at hx; subst hx; exact List.mem_cons_self
    · rw [List.map_append, List.nodup_append]
      refine ⟨h.nd, by simp, ?_⟩
      intro x hx y hy
      simp at hy; subst hy
      exact fun e => hjp (e ▸ hx)
  rcases guard_cases h.ag hvc with ⟨hw, hA⟩ | ⟨hw, hB⟩
  · obtain ⟨v, c, h1, h2, h3⟩ := vcQ_sound hT hA
    refine ⟨(j, v, c), _, _, rfl, fin v c ⟨o, ho, .inl ⟨hw, h2, ?_⟩⟩ (vcSrc_sound h1)⟩
    rw [h.ag.eval]
    exact h3
  · exact ⟨(j, undef, none), _, _, rfl, fin undef none ⟨o, ho, .inr ⟨hw, rfl, rfl⟩⟩ hB⟩
theorem DInv.advance (hT : TabOk P T) (hp : pairsOk ops = true) (hn : ∀ (i : Nat) (o : Oper), ops[i]? = some o → ∀ t, o.dst = some t → t < n ∧ D t) {R : Array Bool} {a : Act} {w : World} {i : Nat} (hi : i ∈ Region.ready .any ops R) :
    ∀ {p : Plan} {L : List Nat} {st : Stl} {ρ : Env} {pend : List PE}, DInv ms T P ops n K w0 ρ0 D R a w p L st ρ pend →
      ∃ p L st ρ pend, DInv ms T P ops n K w0 ρ0 D R a w p L st ρ pend ∧ (i ∈ pend.map (·.1) ∨ ∃ k q alt, p = .m k q alt ∧ i ∉ L) := by
  obtain ⟨hu, o, ho, hd⟩ := mem_ready'.1 hi
  obtain ⟨hlt, huf⟩ := getD_tf hu
  intro p
  induction p with
  | nil => intro L st ρ pend h; have := h.plan; simp [planOk] at this
  | fin =>
    intro L st ρ pend h
    have hpl := h.plan
    simp only [planOk, Bool.not_false, Bool.true_and, List.all_eq_true, memB_iff, List.mem_range, Array.length_toList] at hpl
    rcases (h.sub i).1 (hpl i (h.sz ▸ hlt)) with hc | hc
    · rw [huf] at hc; cases hc
    · exact ⟨_, _, _, _, _, h, .inl hc⟩
  | q j p ih =>
    intro L st ρ pend h
    obtain ⟨x, st', ρ', _, h'⟩ := h.eager hT hp hn
    exact ih h'
  | m k q alt _ _ =>
    intro L st ρ pend h
    by_cases hL : i ∈ L
    · rcases (h.sub i).1 hL with hc | hc
      · rw [huf] at hc; cases hc
      · exact ⟨_, _, _, _, _, h, .inl hc⟩
    · exact ⟨_, _, _, _, _, h, .inr ⟨k, q, alt, rfl, hL⟩⟩
theorem maskOf_bit {acc : List Nat} : ∀ {l : List Nat} {q : Nat}, Nat.testBit (maskOf acc l) q = true → ∃ j ∈ l, q = j ∨ Nat.testBit ((acc[j]?).getD 0) q = true
  | [], q, h => by simp [maskOf] at h
  | j :: l, q, h => by
    have h' : Nat.testBit ((1 <<< j ||| (acc[j]?).getD 0) ||| maskOf acc l) q = true := h
    simp only [Nat.testBit_or, Bool.or_eq_true] at h'
    rcases h' with (h' | h') | h'
    · refine ⟨j, by simp, .inl ?_⟩
      rw [Nat.testBit_shiftLeft] at h'
      simp only [Bool.and_eq_true, decide_eq_true_eq] at h'
      obtain ⟨h1, h2⟩ := h'
      rcases Nat.eq_zero_or_pos (q - j) with e | e
      · omega
      · rw [Nat.testBit_lt_two_pow (Nat.lt_of_lt_of_le (show 1 < 2 ^ 1 by decide) (Nat.pow_le_pow_right (by decide) e))] at h2
        cases h2
    · exact ⟨j, by simp, .inr h'⟩
    · obtain ⟨k, hk, hh⟩ := maskOf_bit h'
      exact ⟨k, by simp [hk], hh⟩
theorem mask_closed {R : Array Bool} (hc : ∀ i o, R.getD i false = true → ops[i]? = some o → ∀ j ∈ deps o, R.getD j false = true) {i : Nat} {o : Oper} (ho : ops[i]? = some o) (hd : ∀ j ∈ deps o, R.getD j false = true) :
    ∀ q, Nat.testBit (maskAt ops.toList i) q = true → R.getD q false = true := by
  have key : ∀ (l : List Oper) (acc : List Nat), (∀ (k : Nat) (o : Oper), l[k]? = some o → ops[acc.length + k]? = some o) →
      (∀ (k m : Nat), acc[k]? = some m → ∀ o, ops[k]? = some o → (∀ j ∈ deps o, R.getD j false = true) → ∀ q, Nat.testBit m q = true → R.getD q false = true) →
      ∀ (k m : Nat), (masksGo acc l)[k]? = some m → ∀ o, ops[k]? = some o → (∀ j ∈ deps o, R.getD j false = true) → ∀ q, Nat.testBit m q = true → R.getD q false = true := by
    intro l
    induction l with
    | nil => intro acc _ h; exact h
    | cons x l ih =>
      intro acc hl h
      refine ih _ (fun k o hk => ?_) (fun k m hk o' ho' hd' q hq => ?_)
      · have := hl (k + 1) o (by simpa using hk)
        simp only [List.length_append, List.length_cons, List.length_nil]
        rw [show acc.length + (0 + 1) + k = acc.length + (k + 1) from by omega]
        exact this
      · rw [List.getElem?_append] at hk
        split at hk
        · exact h k m hk o' ho' hd' q hq
        · rename_i hlt
          have hk0 : k = acc.length := by
            rcases Nat.lt_or_ge (k - acc.length) 1 with h1 | h1
            · omega
            · rw [List.getElem?_eq_none (by simpa using h1)] at hk; cases hk
          subst hk0
          simp at hk
          subst hk
          have hx := hl 0 x rfl
          rw [Nat.add_zero, ho'] at hx
          cases hx
          obtain ⟨j, hj, hh⟩ := maskOf_bit hq
          have hjR := hd' j hj
          rcases hh with rfl | hh
          · exact hjR
          · cases hm : acc[j]? with
            | none => rw [hm] at hh; simp at hh
            | some m' =>
              rw [hm] at hh
              cases hoj : ops[j]? with
              | none =>
                exfalso
                have : j < acc.length := (List.getElem?_eq_some_iff.1 hm).1
                have h3 : acc.length < ops.size := (Array.getElem?_eq_some_iff.1 ho').1
                rw [Array.getElem?_eq_none_iff] at hoj
                omega
              | some oj => exact h j m' hm oj hoj (hc j oj hjR hoj) q hh
  intro q hq
  unfold maskAt at hq
  cases hm : (masksGo [] ops.toList)[i]? with
  | none => rw [hm] at hq; simp at hq
  | some m =>
    rw [hm] at hq
    exact key ops.toList [] (fun k o hk => by simpa using hk) (fun k m hk => by simp at hk) i m hm o ho hd q hq
end
end Go.Sx
namespace Go.Sx
set_option linter.unusedVariables false
section
variable {ms : List Nat} {T : Tab} {P : Program} {ops : Array Oper} {n : Nat} {K : Env → Heap → Prop} {w0 : World} {ρ0 : Env} {D : Nat → Prop}
theorem DInv.take (hp : pairsOk ops = true) {R : Array Bool} {a : Act} {w : World} {i : Nat} (hi : i ∈ Region.ready .any ops R)
    {p : Plan} {L : List Nat} {st : Stl} {ρ : Env} {pend : List PE} (h : DInv ms T P ops n K w0 ρ0 D R a w p L st ρ pend) (him : i ∈ pend.map (·.1)) :
    ∃ x o, x.1 = i ∧ ops[i]? = some o ∧ Yl P ops w x a ∧ ∃ pend', DInv ms T P ops n K w0 ρ0 D (R.setIfInBounds i true) (a.put o.dst x.2.1) w p L st ρ pend' := by
  obtain ⟨hu, o, ho, hd⟩ := mem_ready'.1 hi
  obtain ⟨hlt, huf⟩ := getD_tf hu
  obtain ⟨x, hx, hxi⟩ := List.mem_map.1 him
  obtain ⟨p1, p2, rfl⟩ := List.append_of_mem hx
  subst hxi
  have hda : dstAt ops x.1 = o.dst := by simp [dstAt, ho]
  have hnd := h.nd
  rw [List.map_append, List.map_cons] at hnd
  have hndp : x.1 ∉ p1.map (·.1) ∧ x.1 ∉ p2.map (·.1) := by
    rw [List.nodup_append] at hnd
    obtain ⟨_, h2, h3⟩ := hnd
    exact ⟨fun hc => h3 _ hc _ (by simp) rfl, (List.nodup_cons.1 h2).1⟩
  have hap : ∀ y ∈ p1, ∀ oy, ops[y.1]? = some oy → Apt ops oy o := by
    intro y hy oy hoy
    obtain ⟨q1, q2, rfl⟩ := List.append_of_mem hy
    have hyu := h.disj y (by simp)
    refine pairs_apt hp hoy ho (fun e => hndp.1 (e ▸ List.mem_map.2 ⟨y, by simp, rfl⟩)) (fun hc => ?_) (fun hc => ?_)
    · have := hd _ hc; rw [(getD_tf hyu).2] at this; cases this
    · rcases h.ord q1 y (q2 ++ x :: p2) (by simp) oy hoy _ hc with h' | h'
      · rw [huf] at h'; cases h'
      · exact hndp.1 (by simp only [List.map_append, List.mem_append]; exact .inl h')
  have hdst : ∀ y ∈ p1, ∀ t, dstAt ops y.1 = some t → t ∉ o.looksAt ops := by
    intro y hy t ht
    unfold dstAt at ht
    cases hoy : ops[y.1]? with
    | none => rw [hoy] at ht; cases ht
    | some oy => rw [hoy] at ht; exact (hap y hy oy hoy).a t ht
  have hcomm : ∀ q, (∀ y ∈ q, y ∈ p1) → foldP ops q (a.put o.dst x.2.1) = (foldP ops q a).put o.dst x.2.1 := by
    intro q hq
    refine foldP_put q a fun y hy t ht he => ?_
    unfold dstAt at he
    cases hoy : ops[y.1]? with
    | none => rw [hoy] at he; cases he
    | some oy => rw [hoy] at he; exact (hap y (hq y hy) oy hoy).b t he ht
  refine ⟨x, o, rfl, ho, (Yl_fold ho (pairs_sel hp ho) p1 a hdst).1 (h.yl p1 x p2 rfl), p1 ++ p2, ?_⟩
  have hsz : x.1 < R.size := hlt
  have hmem : ∀ y ∈ p1 ++ p2, y ∈ p1 ++ x :: p2 ∧ y.1 ≠ x.1 := by
    intro y hy
    rcases List.mem_append.1 hy with hy | hy
    · exact ⟨by simp [hy], fun e => hndp.1 (e ▸ List.mem_map.2 ⟨y, hy, rfl⟩)⟩
    · exact ⟨by simp [hy], fun e => hndp.2 (e ▸ List.mem_map.2 ⟨y, hy, rfl⟩)⟩
  have hfold : foldP ops p1 (a.put o.dst x.2.1) = foldP ops (p1 ++ [x]) a := by
    rw [hcomm p1 (fun _ h => h), foldP_append]
    show _ = (foldP ops p1 a).put (dstAt ops x.1) x.2.1
    rw [hda]
  refine ⟨h.plan, h.vc, ?_, by simp [h.sz], h.same, h.fr, ?_, ?_, ?_, ?_, ?_, ?_, ?_⟩
  · rw [foldP_append, hfold, ← foldP_append]
    have := h.ag
    rwa [List.append_assoc]
  · intro i
    rw [h.sub i, getD_set hsz]
    simp only [List.map_append, List.map_cons, List.mem_append, List.mem_cons]
    by_cases hi : i = x.1
    · subst hi; simp
    · simp [hi]
  · intro y hy
    obtain ⟨h1, h2⟩ := hmem y hy
    rw [getD_set hsz, if_neg h2]
    exact h.disj y h1
  · intro k ok hk hok j hj
    rw [getD_set hsz] at hk ⊢
    by_cases hj' : j = x.1
    · rw [if_pos hj']
    · rw [if_neg hj']
      by_cases hk' : k = x.1
      · subst hk'; rw [ho] at hok; cases hok; exact hd j hj
      · rw [if_neg hk'] at hk; exact h.closed k ok hk hok j hj
  · intro q1 y q2 he oy hoy k hk
    rw [getD_set hsz]
    by_cases hkx : k = x.1
    · rw [if_pos hkx]; exact .inl rfl
    · rw [if_neg hkx]
      rcases List.append_eq_append_iff.1 he with ⟨r, rfl, hr⟩ | ⟨r, rfl, hr⟩
      ·
        rcases h.ord (p1 ++ x :: r) y q2 (by rw [hr]; simp) oy hoy k hk with h' | h'
        · exact .inl h'
        · refine .inr ?_
          simp only [List.map_append, List.map_cons, List.mem_append, List.mem_cons] at h' ⊢
          rcases h' with h' | h' | h'
          · exact .inl h'
          · exact absurd h' hkx
          · exact .inr h'
      ·
        cases r with
        | nil =>
          simp only [List.nil_append] at hr
          rcases h.ord (q1 ++ [x]) y q2 (by rw [← hr]; simp) oy hoy k hk with h' | h'
          · exact .inl h'
          · refine .inr ?_
            simp only [List.map_append, List.map_cons, List.map_nil, List.mem_append, List.mem_singleton] at h'
            rcases h' with h' | h'
            · exact h'
            · exact absurd h' hkx
        | cons z r =>
          obtain ⟨rfl, rfl⟩ : y = z ∧ q2 = r ++ p2 := by simpa using hr
          exact h.ord q1 y (r ++ x :: p2) (by simp) oy hoy k hk
  · intro q1 y q2 he
    rcases List.append_eq_append_iff.1 he with ⟨r, rfl, hr⟩ | ⟨r, rfl, hr⟩
    · have := h.yl (p1 ++ x :: r) y q2 (by rw [hr]; simp)
      rw [foldP_append, hfold, ← foldP_append]
      rwa [List.append_assoc]
    · cases r with
      | nil =>
        simp only [List.nil_append] at hr
        have := h.yl (q1 ++ [x]) y q2 (by rw [← hr]; simp)
        simp only [List.append_nil] at hfold
        rwa [← hfold] at this
      | cons z r =>
        obtain ⟨rfl, rfl⟩ : y = z ∧ q2 = r ++ p2 := by simpa using hr
        have hy := h.yl q1 y (r ++ x :: p2) (by simp)
        rw [hcomm q1 (fun z hz => by simp [hz])]
        obtain ⟨oy, hoy, _⟩ := id hy
        exact (Yl_put hoy (pairs_sel hp hoy) (fun t ht => (hap y (by simp) oy hoy).c t ht)).2 hy
  · intro y hy
    exact h.stab y (hmem y hy).1
  · have := h.nd
    simp only [List.map_append, List.map_cons] at this ⊢
    rw [List.nodup_append] at this ⊢
    obtain ⟨g1, g2, g3⟩ := this
    exact ⟨g1, (List.nodup_cons.1 g2).2, fun u hu v hv => g3 u hu v (List.mem_cons_of_mem _ hv)⟩
theorem AndAlt.fst {alt : Plan} {A B : Prop} (h : AndAlt alt A B) : A := by unfold AndAlt at h; split at h; exact h; exact h.1
theorem AndAlt.snd {alt : Plan} {A B : Prop} (h : AndAlt alt A B) (hn : alt ≠ .nil) : B := by unfold AndAlt at h; split at h; exact absurd rfl hn; exact h.2
theorem alt_find {h : Heap} {st : Stl} {ρ : Env} {L : List Nat} {i : Nat} : ∀ {p : Plan}, planOk T ops.toList true L p = true → vcPlan T P ops.toList p st ρ h K → i ∈ altIdx p →
    ∃ q o, ops[i]? = some o ∧ quietB T o.op = false ∧ planOk T ops.toList false (i :: L) q = true ∧ vcGuard ops.toList o ρ
        (vcM T P o ρ h (fun v h' => Stab (stFilter (maskAt ops.toList i) st) h' (vcSrc (isSrc ops.toList i) v (fun v => vcPlan T P ops.toList q (stFilter (maskAt ops.toList i) st) (updO ρ o.dst v) h' K))))
        (vcPlan T P ops.toList q st (updO ρ o.dst undef) h K)
  | .nil, _, _, hi => by cases hi
  | .fin, _, _, hi => by cases hi
  | .q _ _, _, _, hi => by cases hi
  | .m j q alt, hpl, hvc, hi => by
    simp only [planOk, Bool.true_or, Bool.true_and, Bool.and_eq_true] at hpl
    obtain ⟨⟨⟨_, hq⟩, hpl⟩, hpa⟩ := hpl
    simp only [vcPlan, Array.getElem?_toList] at hvc hq
    cases ho : ops[j]? with
    | none => rw [ho] at hq; cases hq
    | some o =>
      simp only [ho, Bool.not_eq_true'] at hvc hq
      by_cases hij : i = j
      · subst hij
        exact ⟨q, o, ho, hq, hpl, hvc.fst⟩
      · have hi' : i ∈ altIdx alt := by
          simp only [altIdx, List.mem_cons] at hi
          exact hi.resolve_left hij
        refine alt_find hpa (hvc.snd ?_) hi'
        rintro rfl
        cases hi'
theorem DInv.main {r : Option Nat} (hT : TabOk P T) (hp : pairsOk ops = true) (hn : ∀ (i : Nat) (o : Oper), ops[i]? = some o → ∀ t, o.dst = some t → t < n ∧ D t) {R : Array Bool} {a : Act} {w : World} {i : Nat} (hi : i ∈ Region.ready .any ops R)
    {k : Nat} {q alt : Plan} {L : List Nat} {st : Stl} {ρ : Env} {pend : List PE} (h : DInv ms T P ops n K w0 ρ0 D R a w (.m k q alt) L st ρ pend) (hL : i ∉ L) {Q : Exit → Act → World → Prop} {next : Act → World → Prop}
    (hk : ∀ (o : Oper) (v : Value) w', ops[i]? = some o → (∃ p L st ρ pend, DInv ms T P ops n K w0 ρ0 D (R.setIfInBounds i true) (a.put o.dst v) w' p L st ρ pend) → next (a.put o.dst v) w') : wpOpIn (Fr r) 0 P ops Q i next a w := by
  obtain ⟨hu, o, ho, hd⟩ := mem_ready'.1 hi
  obtain ⟨hlt, huf⟩ := getD_tf hu
  have hpl := h.plan
  have hri : readyB ops.toList L i = true := readyB_iff.2 ⟨hL, o, ho, fun j hj => (h.sub j).2 (.inl (hd j hj))⟩
  have hmem : i ∈ altIdx (.m k q alt) := by
    simp only [planOk, Bool.false_or, Bool.and_eq_true, List.all_eq_true, List.mem_range, Array.length_toList] at hpl
    have := hpl.1.1.1.1 i (h.sz ▸ hlt)
    simp only [hri, Bool.not_true, Bool.false_or, memB_iff] at this
    exact this
  have hplt : planOk T ops.toList true L (.m k q alt) = true := by
    simp only [planOk, Bool.and_eq_true, Bool.true_or, true_and] at hpl ⊢
    exact ⟨⟨⟨hpl.1.1.1.2, hpl.1.1.2⟩, hpl.1.2⟩, hpl.2⟩
  obtain ⟨q', o', ho', hqt, hpl', hvc⟩ := alt_find hplt h.vc hmem
  rw [ho] at ho'; cases ho'
  have hdo := hn i o ho
  have hip : i ∉ pend.map (·.1) := fun hc => hL ((h.sub i).2 (.inr hc))
  have hap : ∀ y ∈ pend, ∀ oy, ops[y.1]? = some oy → Apt ops oy o := by
    intro y hy oy hoy
    obtain ⟨q1, q2, rfl⟩ := List.append_of_mem hy
    have hyu := h.disj y (by simp)
    refine pairs_apt hp hoy ho (fun e => hip (e ▸ List.mem_map.2 ⟨y, by simp, rfl⟩)) (fun hc => ?_) (fun hc => ?_)
    · have := hd _ hc; rw [(getD_tf hyu).2] at this; cases this
    · rcases h.ord q1 y q2 rfl oy hoy _ hc with h' | h'
      · rw [huf] at h'; cases h'
      · exact hip (by simp only [List.map_append, List.mem_append]; exact .inl h')
  have hdst : ∀ y ∈ pend, ∀ t, dstAt ops y.1 = some t → t ∉ o.looksAt ops := by
    intro y hy t ht
    unfold dstAt at ht
    cases hoy : ops[y.1]? with
    | none => rw [hoy] at ht; cases ht
    | some oy => rw [hoy] at ht; exact (hap y hy oy hoy).a t ht
  have hcomm : ∀ v q, (∀ y ∈ q, y ∈ pend) → foldP ops q (a.put o.dst v) = (foldP ops q a).put o.dst v := by
    intro v q hq
    refine foldP_put q a fun y hy t ht he => ?_
    unfold dstAt at he
    cases hoy : ops[y.1]? with
    | none => rw [hoy] at he; cases he
    | some oy => rw [hoy] at he; exact (hap y (hq y hy) oy hoy).b t he ht
  have hsel := pairs_sel hp ho
  have hexec : ∀ (l : List PE) (a : Act), (∀ y ∈ l, ∀ t, dstAt ops y.1 = some t → t ∉ o.looksAt ops) → execOp (foldP ops l a).eval o = execOp a.eval o ∧ Region.wanted o (yielded ops (foldP ops l a).tmps) = Region.wanted o (yielded ops a.tmps) := by
    intro l
    induction l with
    | nil => intro a _; exact ⟨rfl, rfl⟩
    | cons y l ih =>
      intro a hl
      obtain ⟨e1, e2⟩ := ih (a.put (dstAt ops y.1) y.2.1) fun z hz => hl z (by simp [hz])
      have g := hl y (by simp)
      exact ⟨e1.trans (execOp_put o hsel a _ _ g), e2.trans (wanted_put o a _ _ g)⟩
  obtain ⟨hex, hwa⟩ := hexec pend a hdst
  have hsz : i < R.size := hlt
  have fin : ∀ (v : Value) (w' : World) (st' : Stl), SameW w w' → (∀ x ∈ pend, (x.1, x.2.2) ∈ st') → (∀ x ∈ pend, OkIn x.2.2 w'.heap) → vcPlan T P ops.toList q' st' (updO ρ o.dst v) w'.heap K →
      DInv ms T P ops n K w0 ρ0 D (R.setIfInBounds i true) (a.put o.dst v) w' q' (i :: L) st' (updO ρ o.dst v) pend := by
    intro v w' st' hs hst hok hv
    refine ⟨hpl', hv, ?_, by simp [h.sz], h.same.trans hs, upd_fr hdo h.fr v, ?_, ?_, ?_, ?_, ?_, hst, h.nd⟩
    · rw [hcomm v pend fun _ h => h]
      exact h.ag.put (fun t ht => (hdo t ht).1) v
    · intro j
      rw [List.mem_cons, h.sub j, getD_set hsz]
      by_cases hj : j = i
      · simp [hj]
      · simp [hj]
    · intro y hy
      have hne : y.1 ≠ i := fun e => hip (e ▸ List.mem_map.2 ⟨y, hy, rfl⟩)
      rw [getD_set hsz, if_neg hne]
      exact h.disj y hy
    · intro k ok hk hok j hj
      rw [getD_set hsz] at hk ⊢
      by_cases hj' : j = i
      · rw [if_pos hj']
      · rw [if_neg hj']
        by_cases hk' : k = i
        · subst hk'; rw [ho] at hok; cases hok; exact hd j hj
        · rw [if_neg hk'] at hk; exact h.closed k ok hk hok j hj
    · intro q1 y q2 he oy hoy k hk
      rw [getD_set hsz]
      by_cases hkx : k = i
      · rw [if_pos hkx]; exact .inl rfl
      · rw [if_neg hkx]; exact h.ord q1 y q2 he oy hoy k hk
    · intro q1 y q2 he
      have hy := h.yl q1 y q2 he
      have hyp : y ∈ pend := by rw [he]; simp
      rw [hcomm v q1 fun z hz => by rw [he]; simp [hz]]
      obtain ⟨oy, hoy, hc⟩ := hy
      refine (Yl_put hoy (pairs_sel hp hoy) (fun t ht => (hap y hyp oy hoy).c t ht)).2 ⟨oy, hoy, ?_⟩
      rcases hc with ⟨c1, _, c3⟩ | hc
      · exact .inl ⟨c1, hok y hyp, c3⟩
      · exact .inr hc
  have hok0 : ∀ x ∈ pend, OkIn x.2.2 w.heap := by
    intro x hx
    obtain ⟨q1, q2, he⟩ := List.append_of_mem hx
    obtain ⟨_, _, ⟨_, c2, _⟩ | ⟨_, _, c3⟩⟩ := h.yl q1 x q2 he
    · exact c2
    · rw [c3]; trivial
  unfold wpOpIn
  simp only [ho]
  rcases guard_cases h.ag hvc with ⟨hw, hA⟩ | ⟨hw, hB⟩
  · rw [if_pos (hwa ▸ hw)]
    have hg := vcM_sound hT hA
    rw [← h.ag.eval, hex] at hg
    refine hg.wp fun v w' hs hv => hk o v w' ho ⟨_, _, _, _, _, fin v w' _ hs ?_ ?_ (vcSrc_sound hv.spec.1)⟩
    · intro x hx
      refine mem_stFilter (h.stab x hx) fun hc => ?_
      have := mask_closed h.closed ho hd _ hc
      rw [(getD_tf (h.disj x hx)).2] at this
      cases this
    · intro x hx
      refine hv.spec.2 (x.1, x.2.2) (mem_stFilter (h.stab x hx) fun hc => ?_)
      have := mask_closed h.closed ho hd _ hc
      rw [(getD_tf (h.disj x hx)).2] at this
      cases this
  · rw [if_neg (by rw [← hwa, hw]; simp)]
    refine ⟨fun _ _ => trivial, ?_⟩
    exact hk o undef w ho ⟨_, _, _, _, _, fin undef w st (SameW.refl _) h.stab hok0 hB⟩
theorem DInv.finish {R : Array Bool} {a : Act} {w : World} {p : Plan} {L : List Nat} {st : Stl} {ρ : Env} {pend : List PE} (h : DInv ms T P ops n K w0 ρ0 D R a w p L st ρ pend) (hr : Region.ready .any ops R = []) : Ag ms n a ρ ∧ K ρ w.heap := by
  have nor : ∀ i, i ∉ Region.ready .any ops R := by rw [hr]; simp
  cases pend with
  | cons x p2 =>
    exfalso
    have hx := h.disj x (by simp)
    obtain ⟨hlt, _⟩ := getD_tf hx
    have hlt' : x.1 < ops.size := h.sz ▸ hlt
    have ho : ops[x.1]? = some ops[x.1] := Array.getElem?_eq_getElem hlt'
    exact nor x.1 (mem_ready'.2 ⟨hx, _, ho, fun k hk => (h.ord [] x p2 rfl _ ho k hk).resolve_right (by simp)⟩)
  | nil =>
    have hsub : ∀ i, i ∈ L ↔ R.getD i false = true := fun i => by rw [h.sub i]; simp
    have hready : ∀ j, readyB ops.toList L j = true → False := by
      intro j hj
      obtain ⟨h1, o, ho, h2⟩ := readyB_iff.1 hj
      have hlt : j < R.size := by rw [h.sz]; exact (Array.getElem?_eq_some_iff.1 ho).1
      exact nor j (mem_ready'.2 ⟨getD_ft hlt fun hc => h1 ((hsub j).2 hc), o, ho, fun k hk => (hsub k).1 (h2 k hk)⟩)
    have hpl := h.plan
    cases p with
    | nil => simp [planOk] at hpl
    | fin => exact ⟨h.ag, h.vc⟩
    | q j p => simp only [planOk, Bool.and_eq_true] at hpl; exact (hready j hpl.1.1.2).elim
    | m j p a => simp only [planOk, Bool.and_eq_true] at hpl; exact (hready j hpl.1.1.1.2).elim
theorem any_sound {r : Option Nat} (hT : TabOk P T) (hp : pairsOk ops = true) (hn : ∀ (i : Nat) (o : Oper), ops[i]? = some o → ∀ t, o.dst = some t → t < n ∧ D t) {Q : Exit → Act → World → Prop}
    (hK : ∀ ρ' a' w', Ag ms n a' ρ' → SameW w0 w' → (∀ t, ¬ D t → ρ' t = ρ0 t) → K ρ' w'.heap → Q .normal a' w') :
    ∀ (fuel : Nat) (R : Array Bool) (a : Act) (w : World), R.toList.count false ≤ fuel → (∃ p L st ρ pend, DInv ms T P ops n K w0 ρ0 D R a w p L st ρ pend) → wpAnyIn (Fr r) 0 P .any ops Q fuel R a w := by
  have fin : ∀ (R : Array Bool) (a : Act) (w : World), (∃ p L st ρ pend, DInv ms T P ops n K w0 ρ0 D R a w p L st ρ pend) → Region.ready .any ops R = [] → Q .normal a w := by
    intro R a w ⟨p, L, st, ρ, pend, h⟩ hr
    obtain ⟨h1, h2⟩ := h.finish hr
    exact hK ρ a w h1 h.same h.fr h2
  intro fuel
  induction fuel with
  | zero =>
    intro R a w hc h
    have hr : Region.ready .any ops R = [] := by
      rw [List.eq_nil_iff_forall_not_mem]
      intro i hi
      obtain ⟨hlt, huf⟩ := getD_tf (mem_ready'.1 hi).1
      have : false ∈ R.toList := by
        rw [Array.mem_toList_iff]
        refine Array.mem_of_getElem? (i := i) ?_
        rw [Array.getElem?_eq_getElem hlt]
        simp only [Array.getD_eq_getD_getElem?, Array.getElem?_eq_getElem hlt, Option.getD_some] at huf
        rw [huf]
      have := List.count_pos_iff.2 this
      omega
    exact ⟨hr, fin R a w h hr⟩
  | succ fuel ih =>
    intro R a w hc h
    refine ⟨fin R a w h, fun i hi => ?_⟩
    obtain ⟨hu, o, ho, hd⟩ := mem_ready'.1 hi
    obtain ⟨hlt, huf⟩ := getD_tf hu
    have hcount : (R.setIfInBounds i true).toList.count false ≤ fuel := by
      have hlt' : i < R.toList.length := by simpa using hlt
      have hv : R.toList[i] = false := by
        simp only [Array.getD_eq_getD_getElem?, Array.getElem?_eq_getElem hlt, Option.getD_some] at huf
        simpa using huf
      rw [Array.toList_setIfInBounds, List.count_set hlt']
      have : 0 < R.toList.count false := List.count_pos_iff.2 (hv ▸ List.getElem_mem hlt')
      simp only [hv, beq_self_eq_true, if_true, show ((true == false) = true) = False from by simp, if_false]
      omega
    obtain ⟨p, L, st, ρ, pend, h⟩ := h
    obtain ⟨p, L, st, ρ, pend, h, hor⟩ := h.advance hT hp hn hi
    rcases hor with him | ⟨k, q, alt, rfl, hL⟩
    · obtain ⟨x, o', hx, ho', hy, pend', h'⟩ := h.take hp hi him
      rw [ho] at ho'; cases ho'
      have hnext := ih _ _ w hcount ⟨_, _, _, _, _, h'⟩
      obtain ⟨o', ho', hc⟩ := hy
      rw [hx, ho] at ho'; cases ho'
      unfold wpOpIn
      simp only [ho]
      rcases hc with ⟨c1, c2, c3⟩ | ⟨c1, c2, _⟩
      · rw [if_pos c1]
        refine ⟨fun _ _ => trivial, ?_⟩
        rw [Oper.semAt_eq _ _ _ (not_defer (c3 w c2) (by simp)), c3 w c2]
        exact hnext
      · rw [if_neg (by simp [c1])]
        refine ⟨fun _ _ => trivial, ?_⟩
        rw [← c2]
        exact hnext
    · exact h.main hT hp hn hi hL fun o v w' ho' hex => ih _ _ w' hcount hex
theorem region_any {r : Option Nat} (hT : TabOk P T) (hm : P.follows .mixedOrders = true) (hp : pairsOk ops = true) (hn : ∀ (i : Nat) (o : Oper), ops[i]? = some o → ∀ t, o.dst = some t → t < n ∧ D t) {Q : Exit → Act → World → Prop}
    (hK : ∀ ρ' a' w', Ag ms n a' ρ' → SameW w0 w' → (∀ t, ¬ D t → ρ' t = ρ0 t) → K ρ' w'.heap → Q .normal a' w') {p : Plan} (hpl : planOk T ops.toList false [] p = true) {ρ : Env} {a : Act} {w : World} {id : Nat} (ha : Ag ms n a ρ) (hs : SameW w0 w) (hf : ∀ t, ¬ D t → ρ t = ρ0 t)
    (h : vcPlan T P ops.toList p [] ρ w.heap K) : (Code.region id ops true).wpIn (Fr r) 0 P Q a w := by
  refine wpIn_region_any hm (any_sound hT hp hn hK _ _ a { w with drawn := w.drawn + 1 } ?_ ⟨p, [], [], ρ, [], hpl, h, ha, by simp, hs.trans ⟨rfl, rfl, rfl⟩, hf, ?_, nofun, ?_, ?_, ?_, nofun, by simp⟩)
  · simp
  · intro i
    simp only [Array.getD_eq_getD_getElem?, Array.getElem?_replicate]
    by_cases h : i < ops.size <;> simp [h]
  · intro i o hi
    simp only [Array.getD_eq_getD_getElem?, Array.getElem?_replicate] at hi
    by_cases h : i < ops.size <;> simp [h] at hi
  · intro p1 x p2 he; simp at he
  · intro p1 x p2 he; simp at he
end
end Go.Sx
namespace Go.Sx
set_option linter.unusedVariables false
abbrev Js := List (Nat × Kd)
inductive Ann where
  | leaf
  | reg (p : Plan)
  | seq (a b : Ann)
  | join (js : Js) (a b : Ann)
  | br (a b : Ann)
  | inn (a : Ann)
  | loop (js : Js) (a : Ann)
  | range (ks : List Kd) (rt : Bool) (xs : List Nat) (a b : Ann)
def dsts : Code → List Nat
  | .region _ ops _ => ops.toList.filterMap (·.dst)
  | .seq a b => dsts a ++ dsts b
  | .cond _ a b => dsts a ++ dsts b
  | .block _ a => dsts a
  | .loop a => dsts a
  | .rangeFunc _ _ a b => dsts a ++ dsts b
  | .scope a => dsts a
  | _ => []
def havoc (ds : List Nat) (hv ρ : Env) : Env := fun t => match memB t ds with | true => hv t | false => ρ t
def updL (ρ : Env) : List Nat → List Value → Env
  | t :: ts, v :: vs => upd (updL ρ ts vs) t v
  | _, _ => ρ
def slots : Js → List Nat
  | [] => []
  | x :: l => x.1 :: slots l
def kds : Js → List Kd
  | [] => []
  | x :: l => x.2 :: kds l
def vals (ρ : Env) : Js → List Value
  | [] => []
  | x :: l => ρ x.1 :: vals ρ l
abbrev KK := Exit → List Nat → Env → Heap → Prop
def setB (h : Heap) (b : Nat) (o : Obj) : Heap := h.setIfInBounds b o
def updPs : Env → List Nat → List Value → Env
  | ρ, t :: ts, v :: vs => updPs (upd ρ t v) ts vs
  | ρ, _, _ => ρ
def LoopStart (h : Heap) (D l : Nat) (rc : LoopState → Option Code → Obj) (h0 : Heap) : Prop := D = h.size ∧ l = h.size + 1 ∧ h0 = (h.push (.deferred (some []))).push (rc .ready none)
def RangeX (A : Prop) : List Nat → (Nat → Prop) → Prop
  | [], _ => A
  | x :: r, X => A ∨ RangeX (X x) r X
def RangeOut (rt : Bool) (xs : List Nat) (N R : Prop) (X : Nat → Prop) : Prop := match rt with
  | true => N ∨ RangeX R xs X
  | false => RangeX N xs X
theorem RangeX.spec {A : Prop} : ∀ {xs : List Nat} {X : Nat → Prop}, RangeX A xs X → A ∨ ∃ x, X x
  | [], _, h => .inl h
  | x :: r, X, h => by
    rcases h with h | h
    · exact .inl h
    · rcases RangeX.spec h with h | h
      · exact .inr ⟨x, h⟩
      · exact .inr h
theorem RangeOut.spec {rt : Bool} {xs : List Nat} {N R : Prop} {X : Nat → Prop} (h : RangeOut rt xs N R X) : N ∨ R ∨ ∃ x, X x := by
  cases rt with
  | true =>
    rcases h with h | h
    · exact .inl h
    · exact .inr (RangeX.spec h)
  | false =>
    rcases RangeX.spec h with h | h
    · exact .inl h
    · exact .inr (.inr h)
def vc (T : Tab) (P : Program) : Code → Ann → List Nat → Env → Heap → KK → Prop
  | .skip, _, ms, ρ, h, K => K .normal ms ρ h
  | .label _, _, ms, ρ, h, K => K .normal ms ρ h
  | .exit id, _, ms, ρ, h, K => K (.exit id) ms ρ h
  | .ret, _, ms, ρ, h, K => K .ret ms ρ h
  | .region id ops draw, an, ms, ρ, h, K => (match draw with
    | false => vcOps T P ops.toList 0 ops.toList ρ h (K .normal ms)
    | true => (match an with | .reg p => vcPlan T P ops.toList p [] ρ h (K .normal ms) | _ => False))
  | .seq x y, an, ms, ρ, h, K => (match an with
    | .seq a b => vc T P x a ms ρ h (fun e ms' ρ' h' => match e with | .normal => vc T P y b ms' ρ' h' K | e => K e ms' ρ' h')
    | .join js a b => ∃ J : TG Prop (kds js), (allT (kds js) fun vs => ∀ h', app False (kds js) J vs h' → ∀ hv : Env, vc T P y b [] (updL (havoc (dsts x) hv ρ) (slots js) vs) h' K) ∧
        vc T P x a ms ρ h (fun e ms' ρ' h' => match e with | .normal => (match ms' with | [] => app False (kds js) J (vals ρ' js) h' | _ => False) | e => K e ms' ρ' h')
    | _ => vc T P x .leaf ms ρ h (fun e ms' ρ' h' => match e with | .normal => vc T P y .leaf ms' ρ' h' K | e => K e ms' ρ' h'))
  | .cond c x y, an, ms, ρ, h, K => (match ev ρ c with
    | .bool t => (match an with
      | .br a b => CondP t (vc T P x a ms ρ h K) (vc T P y b ms ρ h K)
      | _ => CondP t (vc T P x .leaf ms ρ h K) (vc T P y .leaf ms ρ h K))
    | _ => False)
  | .block id x, an, ms, ρ, h, K => vc T P x (match an with | .inn a => a | _ => .leaf) ms ρ h (fun e ms' ρ' h' => match e with
    | .exit j => (match Nat.beq j id with | true => K .normal ms' ρ' h' | false => K (.exit j) ms' ρ' h')
    | e => K e ms' ρ' h')
  | .loop x, an, ms, ρ, h, K => (match an with
    | .loop js a => (match ms with
      | [] => ∃ (I : TG Prop (kds js)) (m : TG Nat (kds js)), app False (kds js) I (vals ρ js) h ∧
        allT (kds js) fun vs => ∀ h', app False (kds js) I vs h' → ∀ hv : Env, vc T P x a [] (updL (havoc (dsts x) hv ρ) (slots js) vs) h' (fun e ms' ρ' h'' => match e with
          | .normal => (match ms' with | [] => app False (kds js) I (vals ρ' js) h'' ∧ app 0 (kds js) m (vals ρ' js) h'' < app 0 (kds js) m vs h' | _ => False)
          | e => K e ms' ρ' h'')
      | _ => False)
    | _ => False)
  | .rangeFunc g ps x y, an, ms, ρ, h, K => (match an with
    | .range ks rt xs a b => ∃ gf cap, ev ρ g = .func (.func gf) #[] cap ∧ Callable P gf ∧ ∀ D l rc h0, LoopStart h D l rc h0 →
        (allT ks fun vs => ∀ (h1 : Heap) (R : Value → Heap → Prop), h1[l]? = some (rc .ready none) →
          vc T P x a [] (updPs ρ ps.toList vs) h1 (fun e ms' ρ1 h2 => match e with
            | .normal => (match ms' with
              | [] => h2[l]? = some (rc .ready none) ∧ vc T P y b [] ρ1 (setB h2 l (rc .busy none)) (fun e ms' _ h3 => (match ms' with
                | [] => h3[l]? = some (rc .busy none) ∧ (match e with
                  | .normal => R (.bool true) (setB h3 l (rc .ready none))
                  | .ret => R (.bool false) (setB h3 l (rc .done (some .ret)))
                  | .exit id => R (.bool false) (setB h3 l (rc .done (some (.exit id))))
                  | _ => False)
                | _ => False))
              | _ => False)
            | _ => False) → CallV P (.func (.yield l) #[] #[]) vs h1 R) →
        CallsH P gf (.func (.yield l) #[] #[] :: cap.toList).toArray h0 (fun _ h4 =>
          RangeOut rt xs (h4[l]? = some (rc .ready none) ∧ K .normal (D :: ms) ρ (setB h4 l (rc .exhausted none)))
            (h4[l]? = some (rc .done (some .ret)) ∧ K .ret (D :: ms) ρ (setB h4 l (rc .exhausted (some .ret))))
            (fun id => h4[l]? = some (rc .done (some (.exit id))) ∧ K (.exit id) (D :: ms) ρ (setB h4 l (rc .exhausted (some (.exit id))))))
    | _ => False)
  | .scope _, _, _, _, _, _ => False
  | .goto _, _, _, _, _, _ => False
  | .refuse _, _, _, _, _, _ => False
def okC (T : Tab) (n : Nat) (top : Bool) : Code → Ann → Bool
  | .region _ ops draw, an => ops.toList.all (fun o => match o.dst with | some d => Nat.blt d n | none => true) && (match draw with
    | false => true
    | true => (match an with | .reg p => pairsOk ops && planOk T ops.toList false [] p | _ => false))
  | .seq x y, an => (match an with | .seq a b => okC T n top x a && okC T n top y b | .join _ a b => okC T n top x a && okC T n top y b | _ => okC T n top x .leaf && okC T n top y .leaf)
  | .cond _ x y, an => (match an with | .br a b => okC T n top x a && okC T n top y b | _ => okC T n top x .leaf && okC T n top y .leaf)
  | .block _ x, an => okC T n top x (match an with | .inn a => a | _ => .leaf)
  | .loop x, an => (match an with | .loop _ a => okC T n top x a | _ => false)
  | .rangeFunc _ ps x y, an => (match an with | .range ks _ _ a b => top && (Nat.beq ps.toList.length ks.length && (ps.toList.all (fun t => Nat.blt t n) && (okC T n false x a && okC T n false y b))) | _ => false)
  | _, _ => true
theorem vals_length (ρ : Env) : ∀ js : Js, (vals ρ js).length = (slots js).length
  | [] => rfl
  | x :: l => by simp [vals, slots, vals_length ρ l]
theorem upd_self {ρ ρ' : Env} {t : Nat} (h : ∀ u, u ≠ t → ρ u = ρ' u) : upd ρ t (ρ' t) = ρ' := by
  funext u
  unfold upd
  cases hb : Nat.beq u t with
  | true => rw [Nat.eq_of_beq_eq_true hb]; rfl
  | false => exact h u fun e => by subst e; rw [Nat.beq_refl] at hb; cases hb
theorem updL_vals {ρ ρ' : Env} : ∀ js : Js, (∀ u, u ∉ slots js → ρ u = ρ' u) → updL ρ (slots js) (vals ρ' js) = ρ'
  | [], h => by funext u; exact h u (by simp [slots])
  | x :: l, h => by
    show upd (updL ρ (slots l) (vals ρ' l)) x.1 (ρ' x.1) = ρ'
    have : ∀ (js : Js) (u : Nat), (u ∈ slots js ∨ ρ u = ρ' u) → updL ρ (slots js) (vals ρ' js) u = ρ' u := by
      intro js
      induction js with
      | nil => intro u hu; exact hu.resolve_left (by simp [slots])
      | cons y l ih =>
        intro u hu
        show upd (updL ρ (slots l) (vals ρ' l)) y.1 (ρ' y.1) u = ρ' u
        unfold upd
        cases hb : Nat.beq u y.1 with
        | true => rw [Nat.eq_of_beq_eq_true hb]; rfl
        | false =>
          refine ih u ?_
          rcases hu with hu | hu
          · rcases List.mem_cons.1 hu with e | hu
            · rw [e, Nat.beq_refl] at hb; cases hb
            · exact .inl hu
          · exact .inr hu
    refine upd_self fun u hu => this l u ?_
    by_cases hm : u ∈ slots l
    · exact .inl hm
    · exact .inr (h u (by simp [slots, hu, hm]))
theorem havoc_self {ds : List Nat} {ρ ρ' : Env} (h : ∀ t, t ∉ ds → ρ' t = ρ t) : havoc ds ρ' ρ = ρ' := by
  funext t
  unfold havoc
  cases hb : memB t ds with
  | true => rfl
  | false => exact (h t fun hm => by rw [memB_iff.2 hm] at hb; cases hb).symm
def Post (n : Nat) (ds : List Nat) (w : World) (ρ : Env) (K : KK) : Exit → Act → World → Prop := fun e a' w' =>
  ∃ ρ' ms', Ag ms' n a' ρ' ∧ SameW w w' ∧ (∀ t, t ∉ ds → ρ' t = ρ t) ∧ K e ms' ρ' w'.heap
theorem allA_intro : ∀ {l : List K1} {P : List Value → Prop}, (∀ vs, vs.length = l.length → P vs) → allA l P
  | [], P, h => h [] rfl
  | k :: l, P, h => fun x => allA_intro fun vs hl => h _ (by simp [hl])
theorem allT_intro : ∀ {ks : List Kd} {P : List Value → Prop}, (∀ vs, vs.length = ks.length → P vs) → allT ks P
  | [], P, h => h [] rfl
  | .one k :: r, P, h => fun x => allT_intro fun vs hl => h _ (by simp [hl])
  | .ag l :: r, P, h => allA_intro fun cs _ => allT_intro fun vs hl => h _ (by simp [hl])
theorem Ag.ps {ms : List Nat} {n : Nat} : ∀ {ps : List Nat} {vs : List Value} {a : Act} {ρ : Env}, Ag ms n a ρ → (∀ t ∈ ps, t < n) → ps.length = vs.length →
    Ag [] n { tmps := (ps.zip vs).foldl (fun tmps (x : Nat × Value) => tmps.setIfInBounds x.1 x.2) a.tmps, defers := [] } (updPs ρ ps vs)
  | [], [], a, ρ, h, _, _ => ⟨h.size, rfl, h.get⟩
  | t :: ps, v :: vs, a, ρ, h, hp, hl => Ag.ps (a := a.put (some t) v) (ρ := upd ρ t v) (h.put (d := some t) (fun u hu => by cases hu; exact hp t (by simp)) v) (fun u hu => hp u (by simp [hu])) (by simpa using hl)
  | [], _ :: _, _, _, _, _, hl => by simp at hl
  | _ :: _, [], _, _, _, _, hl => by simp at hl
theorem setB_put (w : World) (b : Nat) (o : Obj) : (w.putObj b o).heap = setB w.heap b o := rfl
theorem SameW.put (w : World) (b : Nat) (o : Obj) : SameW w (w.putObj b o) := ⟨rfl, rfl, rfl⟩
theorem vc_sound {P : Program} {T : Tab} (hT : TabOk P T) (hm : P.follows .mixedOrders = true) {n : Nat} : ∀ (c : Code) (an : Ann) (r : Option Nat) (top : Bool) (ms : List Nat) (ρ : Env) (a : Act) (w : World) (K : KK), okC T n top c an = true → (top = true → r = none) → Ag ms n a ρ → vc T P c an ms ρ w.heap K → c.wpIn (Fr r) 0 P (Post n (dsts c) w ρ K) a w := by
  intro c
  induction c with
  | skip => intro an r top ms ρ a w K _ _ ha h; exact wpIn_skip ⟨ρ, ms, ha, SameW.refl _, fun _ _ => rfl, h⟩
  | label l => intro an r top ms ρ a w K _ _ ha h; exact wpIn_label ⟨ρ, ms, ha, SameW.refl _, fun _ _ => rfl, h⟩
  | exit id => intro an r top ms ρ a w K _ _ ha h; exact wpIn_exit ⟨ρ, ms, ha, SameW.refl _, fun _ _ => rfl, h⟩
  | ret => intro an r top ms ρ a w K _ _ ha h; exact wpIn_ret ⟨ρ, ms, ha, SameW.refl _, fun _ _ => rfl, h⟩
  | goto l => intro an r top ms ρ a w K _ _ ha h; exact h.elim
  | refuse l => intro an r top ms ρ a w K _ _ ha h; exact h.elim
  | scope l => intro an r top ms ρ a w K _ _ ha h; exact h.elim
  | rangeFunc g ps x y ihx ihy =>
    intro an r top ms ρ a w K hok htop ha h
    simp only [vc] at h
    cases an <;> try exact h.elim
    rename_i ks rt xs a1 b1
    simp only [okC, Bool.and_eq_true] at hok
    obtain ⟨ht, hlen, hps, hokx, hoky⟩ := hok
    have hr := htop ht
    subst hr
    have hlen := Nat.eq_of_beq_eq_true hlen
    have hps : ∀ t ∈ ps.toList, t < n := fun t ht => Nat.lt_of_lt_of_le (Nat.lt_succ_self t) (Nat.le_of_ble_eq_true (List.all_eq_true.1 hps t ht))
    obtain ⟨gf, cap, hg, hc, h⟩ := h
    refine wpIn_rangeFunc fun fn _ => ?_
    obtain ⟨rc, hrc⟩ : ∃ rc : LoopState → Option Code → Loop, rc = fun st pe => { state := st, pending := pe, fn, tmps := a.tmps, params := ps, assign := x, body := y, defers := w.heap.size } := ⟨_, rfl⟩
    obtain ⟨W1, hW1⟩ : ∃ W1, (w.alloc (.deferred (some []))).alloc (.loop (rc .ready none)) = W1 := ⟨_, rfl⟩
    have hs1 : SameW w W1 := by rw [← hW1]; exact ⟨rfl, rfl, rfl⟩
    have hh1 : W1.heap = (w.heap.push (.deferred (some []))).push (.loop (rc .ready none)) := by rw [← hW1]; rfl
    have hcall := h w.heap.size (w.heap.size + 1) (fun st pe => .loop (rc st pe)) _ ⟨rfl, rfl, rfl⟩ (allT_intro fun vs hvs h1 R hl hv => ?_)
    · refine ⟨w.heap.size + 1, [{ target := .collected w.heap.size, args := #[] }], W1, { target := .fn (.func gf) cap, args := #[.func (.yield (w.heap.size + 1)) #[] #[]] }, W1, gf,
        (.func (.yield (w.heap.size + 1)) #[] #[] :: cap.toList).toArray, W1, ?_, ?_, fun _ _ => trivial, ?_, (fun hd => by cases hd), ?_⟩
      · rw [← hW1, hrc]; exact run_enterLoop_outer _ _ _ _ _
      · have hg' : a.eval g = .func (.func gf) #[] cap := by rw [ha.eval]; exact hg
        simp only [resolve, hg']
        simp [go_sem, Deferred.ofValue, Act.eval]
      · simp only [invoke]
        have e : #[Value.func (.yield (w.heap.size + 1)) #[] #[]] ++ cap = (Value.func (.yield (w.heap.size + 1)) #[] #[] :: cap.toList).toArray := by
          apply Array.ext'; simp
        rw [e]
        exact enter_run hc
      · refine (hcall.fenced hh1 none).mono fun e W3 ⟨hs3, v, he, hv⟩ => ?_
        subst he
        have hag : Ag (w.heap.size :: ms) n { a with defers := [{ target := .collected w.heap.size, args := #[] }] ++ a.defers } ρ := ⟨ha.size, by simp [marks, ha.defers], ha.get⟩
        have endp : ∀ (st : LoopState) (pe : Option Code), st ≠ .busy → W3.heap[w.heap.size + 1]? = some (.loop (rc st pe)) → (Instr.endLoop (w.heap.size + 1)).run P W3 = .ok pe (W3.putObj (w.heap.size + 1) (.loop (rc .exhausted pe))) := by
          intro st pe hst hl
          have := run_endLoop (P := P) hl (by rw [hrc]; exact hst)
          rw [hrc] at this ⊢
          exact this
        have hs4 : ∀ o, SameW w (W3.putObj (w.heap.size + 1) o) := fun o => (hs1.trans hs3).trans (SameW.put _ _ _)
        rcases hv.spec with ⟨hl, hk⟩ | ⟨hl, hk⟩ | ⟨id, hl, hk⟩
        · exact ⟨none, _, endp _ _ (by decide) hl, ρ, _, hag, hs4 _, fun _ _ => rfl, hk⟩
        · exact ⟨some .ret, _, endp _ _ (by decide) hl, wpIn_ret ⟨ρ, _, hag, hs4 _, fun _ _ => rfl, hk⟩⟩
        · exact ⟨some (.exit id), _, endp _ _ (by decide) hl, wpIn_exit ⟨ρ, _, hag, hs4 _, fun _ _ => rfl, hk⟩⟩
    ·
      right
      refine ⟨_, rfl, fun w1 hw1 => ?_⟩
      subst hw1
      have hsz : vs.toArray.size = (rc .ready none).params.size := by rw [hrc]; simp only [List.size_toArray, hvs, ← hlen, Array.length_toList]
      refine ⟨_, _, _, _, run_yield hl hsz, ?_⟩
      have hzip : (((rc .ready none).params.zip vs.toArray).foldl (fun tmps (x : Nat × Value) => tmps.setIfInBounds x.1 x.2) (rc .ready none).tmps) = (ps.toList.zip vs).foldl (fun tmps (x : Nat × Value) => tmps.setIfInBounds x.1 x.2) a.tmps := by
        rw [hrc, ← Array.foldl_toList]
        simp
      have hag1 := Ag.ps ha hps (by rw [hlen, hvs])
      rw [← hzip] at hag1
      have hx : (rc .ready none).assign = x := by rw [hrc]
      have hy : (rc .ready none).body = y := by rw [hrc]
      rw [hx, hy]
      refine roundIn_of_wpIn (F := Fr none) trivial (Go.wpIn_mono (ihx a1 (some (w.heap.size + 1)) false [] _ _ w1 _ hokx (by simp) hag1 hv) ?_)
      rintro e a2 w2 ⟨ρ2, ms2, g1, g2, g3, g4⟩
      cases e <;> simp only [Exit.then] <;> try exact g4.elim
      cases ms2 with
      | cons => exact g4.elim
      | nil =>
        obtain ⟨hl2, hv2⟩ := g4
        have hb := run_beginRound (P := P) hl2 (by rw [hrc])
        refine ⟨_, hb, ?_⟩
        have hb2 : ({ rc .ready none with state := .busy } : Loop) = rc .busy none := by rw [hrc]
        rw [hb2]
        refine Go.wpIn_mono (ihy b1 (some (w.heap.size + 1)) false [] ρ2 a2 _ _ hoky (by simp) g1 (by rw [setB_put]; exact hv2)) ?_
        rintro e a3 w3 ⟨ρ3, ms3, k1, k2, k3, k4⟩
        cases ms3 with
        | cons => exact k4.elim
        | nil =>
          obtain ⟨hl3, k4⟩ := k4
          have fin : ∀ (jump : Option Code), (Instr.endRound (w.heap.size + 1) jump).run P w3 = .ok (.bool jump.isNone) (w3.putObj (w.heap.size + 1) (.loop (rc (if jump.isNone then .ready else .done) jump))) := by
            intro jump
            have := run_endRound (P := P) jump hl3
            rw [hrc] at this ⊢
            exact this
          have hs3 : ∀ o, SameW w1 (w3.putObj (w.heap.size + 1) o) := fun o => ((g2.trans (SameW.put _ _ _)).trans k2).trans (SameW.put _ _ _)
          cases e with
          | normal => exact ⟨_, _, fin none, hs3 _, _, rfl, k4⟩
          | ret => exact ⟨_, _, fin (some .ret), hs3 _, _, rfl, k4⟩
          | exit id => exact ⟨_, _, fin (some (.exit id)), hs3 _, _, rfl, k4⟩
          | goto t => exact k4.elim
          | panic t => exact k4.elim
          | outgrown => exact k4.elim
  | region id ops draw =>
    intro an r top ms ρ a w K hok htop ha h
    simp only [okC, Bool.and_eq_true] at hok
    have hd : ∀ o ∈ ops.toList, ∀ d, o.dst = some d → d < n ∧ d ∈ dsts (.region id ops draw) := by
      intro o ho d hd
      have := List.all_eq_true.1 hok.1 o ho
      rw [hd] at this
      exact ⟨Nat.lt_of_lt_of_le (Nat.lt_succ_self d) (Nat.le_of_ble_eq_true this), List.mem_filterMap.2 ⟨o, ho, hd⟩⟩
    cases draw with
    | false =>
      refine wpIn_region_list (vcOps_sound hT (n := n) (w0 := w) (ρ0 := ρ) (D := fun t => t ∈ dsts (.region id ops false)) (K := K .normal ms) ?_ ops.toList 0 ρ a w hd ha (SameW.refl _) (fun _ _ => rfl) h)
      exact fun ρ' a' w' h1 h2 h3 h4 => ⟨ρ', ms, h1, h2, h3, h4⟩
    | true =>
      simp only [vc] at h
      cases an <;> try exact h.elim
      rename_i p
      simp only [Bool.and_eq_true] at hok
      refine region_any hT hm hok.2.1 (n := n) (w0 := w) (ρ0 := ρ) (D := fun t => t ∈ dsts (.region id ops true)) (K := K .normal ms) ?_ ?_ hok.2.2 ha (SameW.refl _) (fun _ _ => rfl) h
      · intro i o ho
        exact hd o (by rw [Array.mem_toList_iff]; exact Array.mem_of_getElem? ho)
      · exact fun ρ' a' w' h1 h2 h3 h4 => ⟨ρ', ms, h1, h2, h3, h4⟩
  | seq x y ihx ihy =>
    intro an r top ms ρ a w K hok htop ha h
    have plain : ∀ (a1 b1 : Ann), okC T n top x a1 = true → okC T n top y b1 = true → vc T P x a1 ms ρ w.heap (fun e ms' ρ' h' => match e with | .normal => vc T P y b1 ms' ρ' h' K | e => K e ms' ρ' h') → (Code.seq x y).wpIn (Fr r) 0 P (Post n (dsts (.seq x y)) w ρ K) a w := by
      intro a1 b1 h1 h2 h
      refine wpIn_seq (Go.wpIn_mono (ihx a1 r top ms ρ a w _ h1 htop ha h) ?_)
      rintro e a' w' ⟨ρ', ms', g1, g2, g3, g4⟩
      cases e <;> simp only [Exit.then] <;> first
        | exact ⟨ρ', ms', g1, g2, fun t ht => g3 t (fun hm => ht (List.mem_append_left _ hm)), g4⟩
        | (refine Go.wpIn_mono (ihy b1 r top ms' ρ' a' w' K h2 htop g1 g4) ?_
           rintro e a'' w'' ⟨ρ'', ms'', k1, k2, k3, k4⟩
           exact ⟨ρ'', ms'', k1, g2.trans k2, fun t ht => (k3 t (fun hm => ht (List.mem_append_right _ hm))).trans (g3 t (fun hm => ht (List.mem_append_left _ hm))), k4⟩)
    cases an with
    | seq a1 b1 => simp only [okC, Bool.and_eq_true] at hok; exact plain a1 b1 hok.1 hok.2 h
    | join js a1 b1 =>
      simp only [okC, Bool.and_eq_true] at hok
      obtain ⟨J, hJ, h⟩ := h
      refine wpIn_seq (Go.wpIn_mono (ihx a1 r top ms ρ a w _ hok.1 htop ha h) ?_)
      rintro e a' w' ⟨ρ', ms', g1, g2, g3, g4⟩
      cases e <;> simp only [Exit.then] <;> first
        | exact ⟨ρ', ms', g1, g2, fun t ht => g3 t (fun hm => ht (List.mem_append_left _ hm)), g4⟩
        | (cases ms' with
           | cons => exact g4.elim
           | nil =>
             have h5 := allT_app (P := fun vs h' => ∀ hv : Env, vc T P y b1 [] (updL (havoc (dsts x) hv ρ) (slots js) vs) h' K) hJ g4 ρ'
             rw [havoc_self g3, updL_vals js (fun u _ => rfl)] at h5
             refine Go.wpIn_mono (ihy b1 r top [] ρ' a' w' K hok.2 htop g1 h5) ?_
             rintro e a'' w'' ⟨ρ'', ms'', k1, k2, k3, k4⟩
             exact ⟨ρ'', ms'', k1, g2.trans k2, fun t ht => (k3 t (fun hm => ht (List.mem_append_right _ hm))).trans (g3 t (fun hm => ht (List.mem_append_left _ hm))), k4⟩)
    | _ => simp only [okC, Bool.and_eq_true] at hok; exact plain .leaf .leaf hok.1 hok.2 h
  | cond c x y ihx ihy =>
    intro an r top ms ρ a w K hok htop ha h
    simp only [vc] at h
    split at h
    · rename_i t ht
      have plain : ∀ (a1 b1 : Ann), okC T n top x a1 = true → okC T n top y b1 = true → CondP t (vc T P x a1 ms ρ w.heap K) (vc T P y b1 ms ρ w.heap K) → (Code.cond c x y).wpIn (Fr r) 0 P (Post n (dsts (.cond c x y)) w ρ K) a w := by
        intro a1 b1 h1 h2 h
        refine wpIn_cond (t := t) (by rw [ha.eval]; exact ht) ?_
        cases t
        · refine Go.wpIn_mono (ihy b1 r top ms ρ a w K h2 htop ha h) ?_
          rintro e a' w' ⟨ρ', ms', g1, g2, g3, g4⟩
          exact ⟨ρ', ms', g1, g2, fun t ht => g3 t (fun hm => ht (List.mem_append_right _ hm)), g4⟩
        · refine Go.wpIn_mono (ihx a1 r top ms ρ a w K h1 htop ha h) ?_
          rintro e a' w' ⟨ρ', ms', g1, g2, g3, g4⟩
          exact ⟨ρ', ms', g1, g2, fun t ht => g3 t (fun hm => ht (List.mem_append_left _ hm)), g4⟩
      cases an with
      | br a1 b1 => simp only [okC, Bool.and_eq_true] at hok; exact plain a1 b1 hok.1 hok.2 h
      | _ => simp only [okC, Bool.and_eq_true] at hok; exact plain .leaf .leaf hok.1 hok.2 h
    · exact h.elim
  | block id x ih =>
    intro an r top ms ρ a w K hok htop ha h
    refine wpIn_block (Go.wpIn_mono (ih _ r top ms ρ a w _ hok htop ha h) ?_)
    rintro e a' w' ⟨ρ', ms', g1, g2, g3, g4⟩
    cases e <;> simp only [Exit.inBlock] <;> try exact ⟨ρ', ms', g1, g2, g3, g4⟩
    rename_i j
    by_cases hj : j = id
    · subst hj
      simp only [Nat.beq_refl] at g4
      rw [if_pos rfl]
      exact ⟨ρ', ms', g1, g2, g3, g4⟩
    · have : Nat.beq j id = false := by
        cases hb : Nat.beq j id with
        | false => rfl
        | true => exact absurd (Nat.eq_of_beq_eq_true hb) hj
      simp only [this] at g4
      rw [if_neg hj]
      exact ⟨ρ', ms', g1, g2, g3, g4⟩
  | loop x ih =>
    intro an r top ms ρ a w K hok htop ha h
    simp only [vc] at h
    cases an <;> try exact h.elim
    rename_i js a1
    cases ms with
    | cons => exact h.elim
    | nil =>
    obtain ⟨I, m, h0, hI⟩ := h
    refine wpIn_loop (fun a' w' => ∃ ρ', Ag [] n a' ρ' ∧ SameW w w' ∧ (∀ t, t ∉ dsts x → ρ' t = ρ t) ∧ app False (kds js) I (vals ρ' js) w'.heap)
      (fun a' w' => app 0 (kds js) m (vals (fun t => a'.tmps.getD t undef) js) w'.heap) ⟨ρ, ha, SameW.refl _, fun _ _ => rfl, h0⟩ ?_
    rintro a' w' ⟨ρ', g1, g2, g3, g4⟩
    have hρ' : (fun t => a'.tmps.getD t undef) = ρ' := funext g1.get
    have h5 := allT_app (P := fun vs h' => ∀ hv : Env, vc T P x a1 [] (updL (havoc (dsts x) hv ρ) (slots js) vs) h' (fun e ms' ρ' h'' => match e with
          | .normal => (match ms' with | [] => app False (kds js) I (vals ρ' js) h'' ∧ app 0 (kds js) m (vals ρ' js) h'' < app 0 (kds js) m vs h' | _ => False)
          | e => K e ms' ρ' h'')) hI g4 ρ'
    rw [havoc_self g3, updL_vals js (fun u _ => rfl)] at h5
    refine Go.wpIn_mono (ih a1 r top [] ρ' a' w' _ hok htop g1 h5) ?_
    rintro e a'' w'' ⟨ρ'', ms'', k1, k2, k3, k4⟩
    cases e <;> simp only [Exit.then] <;> first
      | exact ⟨ρ'', ms'', k1, g2.trans k2, fun t ht => (k3 t ht).trans (g3 t ht), k4⟩
      | (cases ms'' with
         | cons => exact k4.elim
         | nil =>
           refine ⟨⟨ρ'', k1, g2.trans k2, fun t ht => (k3 t ht).trans (g3 t ht), k4.1⟩, ?_⟩
           have hρ'' : (fun t => a''.tmps.getD t undef) = ρ'' := funext k1.get
           rw [hρ', hρ'']
           exact k4.2)
end Go.Sx
namespace Go.Sx
set_option linter.unusedVariables false
def vcRes (T : Tab) (ρ : Env) (h : Heap) : List ResultVar → List Value → (List Value → Prop) → Prop
  | [], acc, R => R acc
  | .tmp t :: r, acc, R => vcRes T ρ h r (acc ++ [ρ t]) R
  | .cell a ty :: r, acc, R => vcLoad T ty (ρ a) h (fun v _ => vcRes T ρ h r (acc ++ [v]) R)
def retV : List Value → Value
  | [v] => v
  | vs => .tuple vs.toArray
def vcLeave : List Nat → Heap → (Heap → Prop) → Prop
  | [], h, k => k h
  | D :: ms, h, k => h[D]? = some (.deferred (some [])) ∧ vcLeave ms (setB h D (.deferred none)) k
def vcFn (T : Tab) (P : Program) (c : Code) (rs : List ResultVar) (an : Ann) (args : List Value) (h : Heap) (R : Value → Heap → Prop) : Prop :=
  vc T P c an [] (fun t => match args[t]? with | some v => v | none => undef) h (fun e ms ρ h' => match e with
    | .normal => vcLeave ms h' (fun h' => vcRes T ρ h' rs [] (fun vs => R (retV vs) h'))
    | .ret => vcLeave ms h' (fun h' => vcRes T ρ h' rs [] (fun vs => R (retV vs) h'))
    | _ => False)
def resOne (tmps : Array Value) (x : ResultVar) : Sem Value := match x with
  | .tmp t => pure (tmps.getD t undef)
  | .cell a t => do loadVar t (← asAddr (tmps.getD a undef))
theorem vcRes_sound {P : Program} {T : Tab} (hT : TabOk P T) {ρ : Env} {tmps : Array Value} (hρ : ∀ t, tmps.getD t undef = ρ t) {w : World} {R : List Value → Prop} : ∀ (rs : List ResultVar) (acc : List Value), vcRes T ρ w.heap rs acc R →
    ∃ vs, (rs.mapM (resOne tmps)).run P w = .ok vs w ∧ R (acc ++ vs)
  | [], acc, h => ⟨[], by simp, by rw [List.append_nil]; exact h⟩
  | .tmp t :: r, acc, h => by
    obtain ⟨vs, h1, h2⟩ := vcRes_sound hT hρ r _ h
    refine ⟨ρ t :: vs, ?_, by simpa using h2⟩
    simp only [List.mapM_cons, resOne, Sem.run_bind, Sem.run_pure, Result.andThen_ok, h1, hρ]
  | .cell a ty :: r, acc, h => by
    obtain ⟨v, c, h1, h2, h3⟩ := vcLoad_sound hT h
    obtain ⟨vs, g1, g2⟩ := vcRes_sound hT hρ r _ h1
    have hl := h3 w h2
    refine ⟨v :: vs, ?_, by simpa using g2⟩
    have hp : ∃ p, ρ a = .pointer (some p) := by
      have h' : vcLoad T ty (ρ a) w.heap (fun v _ => vcRes T ρ w.heap r (acc ++ [v]) R) := h
      unfold vcLoad at h'
      split at h'
      · rename_i p hp
        obtain ⟨b, o, rfl, _⟩ := h'.spec
        exact ⟨_, hp⟩
      · exact h'.elim
    obtain ⟨p, hp⟩ := hp
    have hload : (loadVar ty p).run P w = .ok v w := by
      rw [hp] at hl
      simpa [Instr.loadAt, Instr.sureAddr] using hl
    simp only [List.mapM_cons, resOne, Sem.run_bind, hρ, hp, asAddr, Sem.run_pure, Result.andThen_ok, hload, g1]
theorem calls_of_vc {P : Program} {T : Tab} (hT : TabOk P T) (hm : P.follows .mixedOrders = true) {f : FuncId} {fn : Func} {c : Code} (hf : P.funcs[f]? = some fn) (hb : fn.body = some c) {n : Nat} (hn : fn.ntmps = n) {rs : List ResultVar} (hrs : fn.results.toList = rs)
    {an : Ann} (hok : okC T n true c an = true) {args : List Value} (hl : args.length ≤ n) {h : Heap} {R : Value → Heap → Prop} (hv : vcFn T P c rs an args h R) : CallsH P f args.toArray h R := by
  intro w hw
  subst hw
  subst hn
  subst hrs
  refine (callsIn_wide (n := 0)).1 (callsIn_of_wp_marks hf hb trivial (Go.wpIn_mono (vc_sound hT hm c an none true [] _ _ w _ hok (fun _ => rfl) ⟨?_, rfl, ?_⟩ hv) ?_))
  · simp; omega
  · intro t
    simp only [Array.getD_eq_getD_getElem?, Array.getElem?_append, List.size_toArray, List.getElem?_toArray, Array.getElem?_replicate]
    by_cases h1 : t < args.length
    · rw [if_pos h1, List.getElem?_eq_getElem h1]; rfl
    · rw [if_neg h1, List.getElem?_eq_none (by omega)]
      split <;> rfl
  · rintro e a' w' ⟨ρ', ms', g1, g2, g3, g4⟩
    have leave : ∀ (ms : List Nat) (w1 : World), SameW w w1 → vcLeave ms w1.heap (fun h' => vcRes T ρ' h' fn.results.toList [] (fun vs => R (retV vs) h')) →
        LeavesInM (Fr none) 0 P fn a'.tmps (fun e w'' => SameW w w'' ∧ ∃ v, e = .returned v ∧ R v w''.heap) (marks ms) .returning w1 := by
      intro ms
      induction ms with
      | nil =>
        intro w1 hs hr
        obtain ⟨vs, h1, h2⟩ := vcRes_sound hT g1.get _ _ hr
        simp only [List.nil_append] at h2
        refine ⟨retV vs, ?_, hs, _, rfl, h2⟩
        have e0 : results fn a'.tmps = (do let vs ← fn.results.mapM (resOne a'.tmps); pure (if h : vs.size = 1 then vs[0] else .tuple vs)) := rfl
        rw [e0, Array.mapM_eq_mapM_toList]
        simp only [Sem.run_bind, Sem.run_map, h1]
        cases vs with
        | nil => rfl
        | cons x l => cases l <;> rfl
      | cons D ms ih =>
        intro w1 hs hr
        exact ⟨by simp, .inl ⟨D, _, rfl, run_takeDeferred hr.1, ih _ (hs.trans (SameW.put _ _ _)) hr.2⟩⟩
    cases e with
    | normal =>
      show LeavesInM (Fr none) 0 P fn a'.tmps _ a'.defers .returning w'
      rw [g1.defers]; exact leave ms' w' g2 g4
    | ret =>
      show LeavesInM (Fr none) 0 P fn a'.tmps _ a'.defers .returning w'
      rw [g1.defers]; exact leave ms' w' g2 g4
    | exit id => exact g4.elim
    | goto id => exact g4.elim
    | panic id => exact g4.elim
    | outgrown => exact g4.elim
theorem Ti.mk_ok {P : Program} {t : TypeId} {ti : Ti} {d : TypeDesc} (h1 : (P.info? t).map (fun i => (i.zero.map (fun z => z.cells.toList), i.size)) = some (some ti.zero, ti.size)) (h2 : P.underlying t = some d) (h3 : ti.shape.ok d) : ti.ok P t := by
  obtain ⟨i, hi, he⟩ := Option.map_eq_some_iff.1 h1
  simp only [Prod.mk.injEq, Option.map_eq_some_iff] at he
  exact ⟨⟨i, hi, he.1, he.2⟩, d, h2, h3⟩
theorem TabOk.mk' {P : Program} {ty : List (TypeId × Ti)} {res : List (FuncId × List Kd)} (h1 : ∀ x ∈ ty, x.2.ok P x.1) (h2 : ∀ x ∈ res, Callable P x.1) {rt : TypeId → Option (List Kd)} :
    TabOk P { ty := fun t => ty.lookup t, res := fun g => res.lookup g, rt } := by
  have key : ∀ {β : Type} (l : List (Nat × β)) (k : Nat) (v : β), l.lookup k = some v → (k, v) ∈ l := by
    intro β l
    induction l with
    | nil => intro k v h; cases h
    | cons x l ih =>
      intro k v h
      obtain ⟨a, b⟩ := x
      rw [List.lookup_cons] at h
      split at h
      · rename_i hk
        cases h
        have : k = a := by simpa using hk
        subst this
        exact List.mem_cons_self
      · exact List.mem_cons_of_mem _ (ih k v h)
  exact ⟨fun t ti h => h1 _ (key _ _ _ h), fun g r h => h2 _ (key _ _ _ h)⟩
end Go.Sx
namespace Go.Sx
set_option linter.unusedVariables false
abbrev PH := Nat → Option Obj
abbrev Asn := PH → Prop
def PH.le (k k' : PH) : Prop := ∀ b o, k b = some o → k' b = some o
theorem PH.le.refl (k : PH) : PH.le k k := fun _ _ h => h
theorem PH.le.trans {a b c : PH} (h : PH.le a b) (h' : PH.le b c) : PH.le a c := fun _ _ x => h' _ _ (h _ _ x)
structure Split (k k1 k2 : PH) : Prop where
  l : PH.le k1 k
  r : PH.le k2 k
  d : ∀ b, k1 b = none ∨ k2 b = none
theorem Split.symm {k k1 k2 : PH} (h : Split k k1 k2) : Split k k2 k1 := ⟨h.r, h.l, fun b => (h.d b).symm⟩
def Stars : List Asn → PH → Prop
  | [], _ => True
  | A :: L, k => ∃ k1 k2, A k1 ∧ Stars L k2 ∧ Split k k1 k2
theorem Stars.mono : ∀ {L : List Asn} {k k' : PH}, Stars L k → PH.le k k' → Stars L k'
  | [], _, _, _, _ => trivial
  | _ :: _, _, _, ⟨k1, k2, h1, h2, hs⟩, hl => ⟨k1, k2, h1, h2, hs.l.trans hl, hs.r.trans hl, hs.d⟩
def or2 (k1 k2 : PH) : PH := fun b => (k1 b).or (k2 b)
theorem Stars.swap {A B : Asn} {L : List Asn} {k : PH} : Stars (A :: B :: L) k → Stars (B :: A :: L) k
  | ⟨k1, k2, h1, ⟨k3, k4, h3, h4, hs'⟩, hs⟩ => by
    refine ⟨k3, or2 k1 k4, h3, ⟨k1, k4, h1, h4, ?_⟩, ?_⟩
    · refine ⟨fun b o h => by simp [or2, h], fun b o h => ?_, fun b => ?_⟩
      · rcases hs.d b with h' | h'
        · simp [or2, h', h]
        · have := hs'.r b o h; rw [h'] at this; cases this
      · rcases hs.d b with h' | h'
        · exact .inl h'
        · right
          cases h4 : k4 b with
          | none => rfl
          | some o => have := hs'.r b o h4; rw [h'] at this; cases this
    · refine ⟨fun b o h => hs.r b o (hs'.l b o h), fun b o h => ?_, fun b => ?_⟩
      · simp only [or2, Option.or_eq_some_iff] at h
        rcases h with h | ⟨_, h⟩
        · exact hs.l b o h
        · exact hs.r b o (hs'.r b o h)
      · rcases hs'.d b with h' | h'
        · exact .inl h'
        · cases h3 : k3 b with
          | none => exact .inl rfl
          | some o =>
            right
            have := hs'.l b o h3
            rcases hs.d b with h'' | h''
            · simp [or2, h', h'']
            · rw [h''] at this; cases this
theorem Stars.perm {L L' : List Asn} (hp : L.Perm L') : ∀ {k : PH}, Stars L k → Stars L' k := by
  induction hp with
  | nil => exact fun h => h
  | cons A _ ih => rintro k ⟨k1, k2, h1, h2, hs⟩; exact ⟨k1, k2, h1, ih h2, hs⟩
  | swap A B L => exact Stars.swap
  | trans _ _ ih1 ih2 => exact fun h => ih2 (ih1 h)
structure Sat (H : Heap) (S : PH) (L : List Asn) : Prop where
  ex : ∃ k, Stars L k ∧ (∀ b, k b = none ∨ S b = none) ∧ ∀ b o, k b = some o → H[b]? = some o
  sealed : ∀ b o, S b = some o → H[b]? = some o
def blk (b : Nat) (o : Obj) : Asn := fun k => k b = some o
def lst (b : Nat) (T : TypeId) (l : List Value) : Asn := blk b (.cells l.toArray T (0, 0))
def exs {α : Type} (A : α → Asn) : Asn := fun k => ∃ x, A x k
def fact (p : Prop) : Asn := fun _ => p
def st (A B : Asn) : Asn := fun k => ∃ k1 k2, A k1 ∧ B k2 ∧ Split k k1 k2
section
variable {H H' : Heap} {S S' : PH} {L : List Asn} {A B : Asn}
theorem erase_perm : ∀ (l : List Asn) (i : Nat) (A : Asn), l[i]? = some A → l.Perm (A :: l.eraseIdx i)
  | x :: l, 0, A, h => by simp at h; subst h; exact .refl _
  | x :: l, i + 1, A, h => ((erase_perm l i A (by simpa using h)).cons x).trans (.swap _ _ _)
theorem Sat.perm {L' : List Asn} (h : Sat H S L) (hp : L.Perm L') : Sat H S L' :=
  let ⟨⟨k, h1, h2, h3⟩, h4⟩ := h
  ⟨⟨k, h1.perm hp, h2, h3⟩, h4⟩
theorem Sat.pick (h : Sat H S L) (i : Nat) {A : Asn} (hi : L[i]? = some A) : Sat H S (A :: L.eraseIdx i) := by
  exact h.perm (erase_perm L i A hi)
theorem Sat.swap (h : Sat H S (A :: B :: L)) : Sat H S (B :: A :: L) := h.perm (.swap _ _ _)
theorem Sat.drop (h : Sat H S (A :: L)) : Sat H S L := by
  obtain ⟨⟨k, ⟨k1, k2, h1, h2, hs⟩, h3, h4⟩, h5⟩ := h
  exact ⟨⟨k, h2.mono hs.r, h3, h4⟩, h5⟩
theorem Sat.del (h : Sat H S L) (i : Nat) : Sat H S (L.eraseIdx i) := by
  cases hi : L[i]? with
  | none => rw [List.eraseIdx_of_length_le (List.getElem?_eq_none_iff.1 hi)]; exact h
  | some A => exact (h.pick i hi).drop
theorem Sat.weak (h : Sat H S (A :: L)) (hab : ∀ k, A k → B k) : Sat H S (B :: L) := by
  obtain ⟨⟨k, ⟨k1, k2, h1, h2, hs⟩, h3, h4⟩, h5⟩ := h
  exact ⟨⟨k, ⟨k1, k2, hab _ h1, h2, hs⟩, h3, h4⟩, h5⟩
theorem Sat.open {α : Type} {A : α → Asn} (h : Sat H S (exs A :: L)) : ∃ x, Sat H S (A x :: L) := by
  obtain ⟨⟨k, ⟨k1, k2, ⟨x, h1⟩, h2, hs⟩, h3, h4⟩, h5⟩ := h
  exact ⟨x, ⟨k, ⟨k1, k2, h1, h2, hs⟩, h3, h4⟩, h5⟩
theorem Sat.shut {α : Type} {A : α → Asn} (x : α) (h : Sat H S (A x :: L)) : Sat H S (exs A :: L) := h.weak fun _ hx => ⟨x, hx⟩
theorem Sat.fact {p : Prop} (h : Sat H S (fact p :: L)) : p ∧ Sat H S L := by
  refine ⟨?_, h.drop⟩
  obtain ⟨⟨k, ⟨k1, k2, h1, h2, hs⟩, h3, h4⟩, h5⟩ := h
  exact h1
theorem Sat.addFact {p : Prop} (hp : p) (h : Sat H S L) : Sat H S (Sx.fact p :: L) := by
  obtain ⟨⟨k, h2, h3, h4⟩, h5⟩ := h
  exact ⟨⟨k, ⟨fun _ => none, k, hp, h2, ⟨(fun _ _ h => by cases h), (fun _ _ h => h), (fun _ => .inl rfl)⟩⟩, h3, h4⟩, h5⟩
theorem Sat.unst (h : Sat H S (st A B :: L)) : Sat H S (A :: B :: L) := by
  obtain ⟨⟨k, ⟨k1, k2, ⟨k3, k4, h3, h4, hs'⟩, h2, hs⟩, h5, h6⟩, h7⟩ := h
  refine ⟨⟨k, ⟨k3, or2 k4 k2, h3, ⟨k4, k2, h4, h2, ?_⟩, ?_⟩, h5, h6⟩, h7⟩
  · refine ⟨fun b o h => by simp [or2, h], fun b o h => ?_, fun b => ?_⟩
    · rcases hs.d b with h' | h'
      · cases hk : k4 b with
        | none => simp [or2, hk, h]
        | some o' => have := hs'.r b o' hk; rw [h'] at this; cases this
      · rw [h'] at h; cases h
    · rcases hs.d b with h' | h'
      · left
        cases hk : k4 b with
        | none => rfl
        | some o' => have := hs'.r b o' hk; rw [h'] at this; cases this
      · exact .inr h'
  · refine ⟨fun b o h => hs.l b o (hs'.l b o h), fun b o h => ?_, fun b => ?_⟩
    · simp only [or2, Option.or_eq_some_iff] at h
      rcases h with h | ⟨_, h⟩
      · exact hs.l b o (hs'.r b o h)
      · exact hs.r b o h
    · cases h3 : k3 b with
      | none => exact .inl rfl
      | some o =>
        right
        have h1 := hs'.l b o h3
        have h4n : k4 b = none := (hs'.d b).resolve_left (by rw [h3]; simp)
        have h2n : k2 b = none := (hs.d b).resolve_left (by rw [h1]; simp)
        simp [or2, h4n, h2n]
theorem Sat.mkst (h : Sat H S (A :: B :: L)) : Sat H S (st A B :: L) := by
  obtain ⟨⟨k, ⟨k1, k2, h1, ⟨k3, k4, h3, h4, hs'⟩, hs⟩, h5, h6⟩, h7⟩ := h
  have hd : ∀ b, k1 b = none ∨ k3 b = none := fun b => by
    rcases hs.d b with h | h
    · exact .inl h
    · right
      cases hk : k3 b with
      | none => rfl
      | some o => have := hs'.l b o hk; rw [h] at this; cases this
  refine ⟨⟨k, ⟨or2 k1 k3, k4, ⟨k1, k3, h1, h3, ?_⟩, h4, ?_⟩, h5, h6⟩, h7⟩
  · refine ⟨fun b o h => by simp [or2, h], fun b o h => ?_, hd⟩
    rcases hd b with h' | h'
    · simp [or2, h', h]
    · rw [h'] at h; cases h
  · refine ⟨fun b o h => ?_, fun b o h => hs.r b o (hs'.r b o h), fun b => ?_⟩
    · simp only [or2, Option.or_eq_some_iff] at h
      rcases h with h | ⟨_, h⟩
      · exact hs.l b o h
      · exact hs.r b o (hs'.l b o h)
    · cases hk : k4 b with
      | none => exact .inr rfl
      | some o =>
        left
        have h2 := hs'.r b o hk
        have h1n : k1 b = none := (hs.d b).resolve_right (by rw [h2]; simp)
        have h3n : k3 b = none := (hs'.d b).resolve_right (by rw [hk]; simp)
        simp [or2, h1n, h3n]
theorem Sat.blk {b : Nat} {o : Obj} (h : Sat H S (blk b o :: L)) : H[b]? = some o := by
  obtain ⟨⟨k, ⟨k1, k2, h1, h2, hs⟩, h3, h4⟩, h5⟩ := h
  exact h4 b o (hs.l b o h1)
theorem Sat.ne {b b' : Nat} {o o' : Obj} (h : Sat H S (Sx.blk b o :: Sx.blk b' o' :: L)) : b ≠ b' := by
  obtain ⟨⟨k, ⟨k1, k2, h1, ⟨k3, k4, h3, h4, hs'⟩, hs⟩, h5, h6⟩, h7⟩ := h
  rintro rfl
  have h2 := hs'.l b o' h3
  have h1' : k1 b = some o := h1
  rcases hs.d b with h | h
  · rw [h1'] at h; cases h
  · rw [h2] at h; cases h
theorem lt_of_some {b : Nat} {o : Obj} (h : H[b]? = some o) : b < H.size := (Array.getElem?_eq_some_iff.1 h).1
theorem Sat.fresh {b : Nat} {o : Obj} (h : Sat H S L) (hf : Fresh H o b H') : Sat H' S (Sx.blk b o :: L) := by
  obtain ⟨rfl, rfl⟩ := hf
  obtain ⟨⟨k, h2, h3, h4⟩, h5⟩ := h
  have old : ∀ c x, H[c]? = some x → (H.push o)[c]? = some x := fun c x hx => by
    rw [Array.getElem?_push, if_neg (by have := lt_of_some hx; omega)]; exact hx
  have hk : k H.size = none := by
    cases hk : k H.size with
    | none => rfl
    | some x => have := lt_of_some (h4 _ _ hk); omega
  refine ⟨⟨fun c => if c = H.size then some o else k c, ⟨fun c => if c = H.size then some o else none, k, by simp [Sx.blk], h2, ?_⟩, fun c => ?_, fun c x hx => ?_⟩, fun c x hx => old c x (h5 c x hx)⟩
  · refine ⟨fun c x hx => ?_, fun c x hx => ?_, fun c => ?_⟩
    · by_cases e : c = H.size
      · simpa [e] using hx
      · simp [e] at hx
    · by_cases e : c = H.size
      · subst e; rw [hk] at hx; cases hx
      · simpa [e] using hx
    · by_cases e : c = H.size
      · subst e; exact .inr hk
      · simp [e]
  · by_cases e : c = H.size
    · right
      cases hs : S c with
      | none => rfl
      | some x => have := lt_of_some (h5 _ _ hs); omega
    · simpa [e] using h3 c
  · by_cases e : c = H.size
    · simp only [e, if_true] at hx
      cases hx
      rw [e]; simp
    · simp only [e, if_false] at hx
      exact old c x (h4 c x hx)
theorem Sat.freshL {b : Nat} {T : TypeId} {l : List Value} (h : Sat H S L) (hf : Fresh H (.cells l.toArray T) b H') : Sat H' S (lst b T l :: L) := h.fresh hf
theorem Sat.turn {b : Nat} {o o' : Obj} (h : Sat H S (Sx.blk b o :: L)) (h1 : H'[b]? = some o') (h2 : ∀ c, c ≠ b → H'[c]? = H[c]?) : Sat H' S (Sx.blk b o' :: L) := by
  obtain ⟨⟨k, ⟨k1, k2, g1, g2, hs⟩, g3, g4⟩, g5⟩ := h
  have hkb : k b = some o := hs.l b o g1
  have hk2 : k2 b = none := (hs.d b).resolve_left (by rw [show k1 b = some o from g1]; simp)
  have hSb : S b = none := (g3 b).resolve_left (by rw [hkb]; simp)
  refine ⟨⟨fun c => if c = b then some o' else k c, ⟨fun c => if c = b then some o' else none, k2, by simp [Sx.blk], g2, ?_⟩, fun c => ?_, fun c x hx => ?_⟩, fun c x hx => ?_⟩
  · refine ⟨fun c x hx => ?_, fun c x hx => ?_, fun c => ?_⟩
    · by_cases e : c = b
      · simpa [e] using hx
      · simp [e] at hx
    · by_cases e : c = b
      · subst e; rw [hk2] at hx; cases hx
      · simpa [e] using hs.r c x hx
    · by_cases e : c = b
      · subst e; exact .inr hk2
      · simp [e]
  · by_cases e : c = b
    · subst e; exact .inr hSb
    · simpa [e] using g3 c
  · by_cases e : c = b
    · subst e; simp only [if_true] at hx; cases hx; exact h1
    · simp only [e, if_false] at hx; rw [h2 c e]; exact g4 c x hx
  · by_cases e : c = b
    · subst e; rw [hSb] at hx; cases hx
    · rw [h2 c e]; exact g5 c x hx
theorem Stored.at {b off : Nat} {vs : List Value} {c : Array Value} {T : TypeId} {fz : Nat × Nat} (hb : H[b]? = some (.cells c T fz)) (hs : Stored H b off vs H') :
    H'[b]? = some (.cells (splice c off vs) T fz) ∧ ∀ d, d ≠ b → H'[d]? = H[d]? := by
  subst hs
  refine ⟨?_, fun d hd => ?_⟩
  · simp only [Array.getElem?_modify, if_true, hb]; rfl
  · simp only [Array.getElem?_modify, if_neg (Ne.symm hd)]
def putL (l : List Value) (off : Nat) (vs : List Value) : List Value := l.take off ++ vs ++ l.drop (off + vs.length)
theorem Sat.cell {b : Nat} {T : TypeId} {l : List Value} (h : Sat H S (lst b T l :: L)) (off : Nat) {v : Value} (hv : l[off]? = some v) : cellH H b off = some v := by
  have := Sat.blk h
  simp only [cellH, this, List.getElem?_toArray, hv]
theorem Sat.canSt {b : Nat} {T : TypeId} {l : List Value} (h : Sat H S (lst b T l :: L)) {off : Nat} {vs : List Value} (hl : off + vs.length ≤ l.length) : CanSt H b off vs :=
  ⟨l.toArray, T, (0, 0), Sat.blk h, by simpa using hl, .inl (Nat.zero_le _)⟩
theorem Sat.stored {b : Nat} {T : TypeId} {l : List Value} (h : Sat H S (lst b T l :: L)) {off : Nat} {vs : List Value} (hl : off + vs.length ≤ l.length) (hs : Stored H b off vs H') : Sat H' S (lst b T (putL l off vs) :: L) := by
  obtain ⟨h1, h2⟩ := hs.at (Sat.blk h)
  have e : splice l.toArray off vs = (putL l off vs).toArray := by
    apply Array.ext'
    rw [splice_list _ _ _ (by simpa using hl)]
    simp [putL]
  rw [e] at h1
  exact Sat.turn h h1 h2
theorem Sat.store {b : Nat} {T : TypeId} {l : List Value} (h : Sat H S (lst b T l :: L)) {off : Nat} {vs : List Value} {K : Heap → Prop} (hl : off + vs.length ≤ l.length) (hk : ∀ H', Sat H' S (lst b T (putL l off vs) :: L) → K H') :
    CanSt H b off vs ∧ ∀ H', Stored H b off vs H' → K H' := ⟨h.canSt hl, fun H' hs => hk H' (h.stored hl hs)⟩
theorem CellsAt.ofBlk {b : Nat} {c : Array Value} {T : TypeId} {fz : Nat × Nat} (hb : H[b]? = some (.cells c T fz)) {o : Nat} {vs : List Value} (hv : ∀ j x, vs[j]? = some x → c[o + j]? = some x) : CellsAt H b o vs :=
  CellsAt.of fun j v h => by simp only [cellH, hb]; exact hv j v h
theorem Sat.cells {b : Nat} {T : TypeId} {l : List Value} (h : Sat H S (lst b T l :: L)) (off : Nat) {vs : List Value} (hv : (l.drop off).take vs.length = vs) : CellsAt H b off vs := by
  refine CellsAt.ofBlk (Sat.blk h) fun j x hx => ?_
  have hj : j < vs.length := (List.getElem?_eq_some_iff.1 hx).1
  have : ((l.drop off).take vs.length)[j]? = some x := by rw [hv]; exact hx
  rw [List.getElem?_take, if_pos hj, List.getElem?_drop] at this
  simpa using this
def PH.add (S : PH) (b : Nat) (o : Obj) : PH := fun c => if c = b then some o else S c
theorem Sat.fixd {b : Nat} {o : Obj} (h : Sat H S (Sx.blk b o :: L)) : ∃ S', PH.le S S' ∧ S' b = some o ∧ Sat H S' L := by
  have hb := Sat.blk h
  obtain ⟨⟨k, ⟨k1, k2, g1, g2, hs⟩, g3, g4⟩, g5⟩ := h
  have hkb : k b = some o := hs.l b o g1
  have hk2 : k2 b = none := (hs.d b).resolve_left (by rw [show k1 b = some o from g1]; simp)
  have hSb : S b = none := (g3 b).resolve_left (by rw [hkb]; simp)
  refine ⟨S.add b o, fun c x hx => ?_, by simp [PH.add], ⟨k2, g2, fun c => ?_, fun c x hx => g4 c x (hs.r c x hx)⟩, fun c x hx => ?_⟩
  · by_cases e : c = b
    · subst e; rw [hSb] at hx; cases hx
    · simp [PH.add, e, hx]
  · by_cases e : c = b
    · subst e; exact .inl hk2
    · rcases g3 c with h | h
      · left
        cases hk : k2 c with
        | none => rfl
        | some x => have := hs.r c x hk; rw [h] at this; cases this
      · right; simp [PH.add, e, h]
  · by_cases e : c = b
    · subst e; simp [PH.add] at hx; subst hx; exact hb
    · simp [PH.add, e] at hx; exact g5 c x hx
end
def Rd (S : PH) (v : Sl) (sz : Nat) (xs : List Value) : Prop :=
  xs.length = v.l * sz ∧ v.l ≤ v.c ∧ (v.l = 0 ∨ ∃ b o c T fz, v.a = some ⟨b, o, none⟩ ∧ S b = some (.cells c T fz) ∧ ∀ j x, xs[j]? = some x → c[o + j]? = some x)
theorem Rd.mono {S S' : PH} {v : Sl} {sz : Nat} {xs : List Value} (h : Rd S v sz xs) (hs : PH.le S S') : Rd S' v sz xs := by
  obtain ⟨h1, h2, h3⟩ := h
  refine ⟨h1, h2, ?_⟩
  rcases h3 with h3 | ⟨b, o, c, T, fz, g1, g2, g3⟩
  · exact .inl h3
  · exact .inr ⟨b, o, c, T, fz, g1, hs _ _ g2, g3⟩
theorem Rd.nil (S : PH) (sz : Nat) : Rd S ⟨none, 0, 0⟩ sz [] := ⟨by simp, Nat.le_refl _, .inl rfl⟩
theorem Rd.at {S : PH} {v : Sl} {sz : Nat} {xs : List Value} (h : Rd S v sz xs) {H : Heap} {L : List Asn} (hs : Sat H S L) (hl : 0 < v.l) : ∃ b o, v.a = some ⟨b, o, none⟩ ∧ CellsAt H b o xs := by
  obtain ⟨h1, h2, h3⟩ := h
  rcases h3 with h3 | ⟨b, o, c, T, fz, g1, g2, g3⟩
  · omega
  · exact ⟨b, o, g1, CellsAt.ofBlk (hs.sealed _ _ g2) g3⟩
def own (T : TypeId) (sz : Nat) (v : Sl) (xs : List Value) : Asn := fun k =>
  xs.length = v.l * sz ∧ ((v = ⟨none, 0, 0⟩ ∧ xs = []) ∨ ∃ g cur, v.a = some ⟨g, 0, none⟩ ∧ k g = some (.cells cur T (0, 0)) ∧ v.l ≤ v.c ∧ v.c ≤ maxLen ∧ v.c * sz ≤ cur.size ∧ cur.toList.take (v.l * sz) = xs)
theorem own.len {T : TypeId} {sz : Nat} {v : Sl} {xs : List Value} {H : Heap} {S : PH} {L : List Asn} (h : Sat H S (own T sz v xs :: L)) : xs.length = v.l * sz ∧ v.l ≤ v.c := by
  obtain ⟨⟨k, ⟨k1, k2, ⟨h1, h2⟩, _⟩, _⟩, _⟩ := h
  refine ⟨h1, ?_⟩
  rcases h2 with ⟨rfl, _⟩ | ⟨g, cur, _, _, h, _⟩
  · exact Nat.le_refl _
  · exact h
theorem own.new {H : Heap} {S : PH} {L : List Asn} (T : TypeId) (sz : Nat) (h : Sat H S L) : Sat H S (own T sz ⟨none, 0, 0⟩ [] :: L) := by
  obtain ⟨⟨k, h2, h3, h4⟩, h5⟩ := h
  exact ⟨⟨k, ⟨fun _ => none, k, ⟨by simp, .inl ⟨rfl, rfl⟩⟩, h2, ⟨(fun _ _ h => by cases h), (fun _ _ h => h), (fun _ => .inl rfl)⟩⟩, h3, h4⟩, h5⟩
theorem own.ofLst {H : Heap} {S : PH} {L : List Asn} {T : TypeId} {sz b n c : Nat} {l xs : List Value} (h : Sat H S (lst b T l :: L)) (hl : l.length = c * sz) (hn : n ≤ c) (hc : c ≤ maxLen) (hx : l.take (n * sz) = xs) : Sat H S (own T sz ⟨some ⟨b, 0, none⟩, n, c⟩ xs :: L) :=
  h.weak fun k hk => ⟨by rw [← hx, List.length_take, Nat.min_eq_left]; rw [hl]; exact Nat.mul_le_mul_right _ hn, .inr ⟨b, l.toArray, rfl, hk, hn, hc, by rw [List.size_toArray, hl]; exact Nat.le_refl _, by simpa using hx⟩⟩
theorem own.cells {T : TypeId} {sz : Nat} {v : Sl} {xs : List Value} {H : Heap} {S : PH} {L : List Asn} (h : Sat H S (own T sz v xs :: L)) (hl : 0 < xs.length) : ∃ g, v.a = some ⟨g, 0, none⟩ ∧ CellsAt H g 0 xs := by
  obtain ⟨⟨k, ⟨k1, k2, ⟨h1, h2⟩, _, hs⟩, _, h6⟩, _⟩ := h
  rcases h2 with ⟨_, rfl⟩ | ⟨g, cur, h3, h4, _, _, _, h5⟩
  · simp at hl
  · refine ⟨g, h3, CellsAt.ofBlk (h6 _ _ (hs.l _ _ h4)) fun j x hx => ?_⟩
    rw [← h5, List.getElem?_take] at hx
    split at hx
    · simpa using hx
    · cases hx
theorem own.fixd {T : TypeId} {sz : Nat} {v : Sl} {xs : List Value} {H : Heap} {S : PH} {L : List Asn} (h : Sat H S (own T sz v xs :: L)) : ∃ S', PH.le S S' ∧ Rd S' v sz xs ∧ Sat H S' L := by
  have hl := own.len h
  obtain ⟨⟨k, ⟨k1, k2, ⟨h1, h2⟩, h3, hs⟩, h4, h5⟩, h6⟩ := h
  rcases h2 with ⟨rfl, rfl⟩ | ⟨g, cur, g1, g2, g3, g4, g5, g6⟩
  · exact ⟨S, PH.le.refl _, Rd.nil _ _, ⟨k, h3.mono hs.r, h4, h5⟩, h6⟩
  · have hsat : Sat H S (blk g (.cells cur T (0, 0)) :: L) := ⟨⟨k, ⟨k1, k2, g2, h3, hs⟩, h4, h5⟩, h6⟩
    obtain ⟨S', s1, s2, s3⟩ := hsat.fixd
    refine ⟨S', s1, ⟨h1, g3, .inr ⟨g, 0, cur, T, (0, 0), g1, s2, fun j x hx => ?_⟩⟩, s3⟩
    rw [← g6, List.getElem?_take] at hx
    split at hx
    · simpa using hx
    · cases hx
end Go.Sx
namespace Go.Sx
set_option linter.unusedVariables false
structure ElemOk (P : Program) (t e : TypeId) (sz bytes : Nat) : Prop where
  und : P.underlying t = some (.slice e)
  info : ∃ i z, P.info? e = some i ∧ i.zero = some z ∧ i.size = sz ∧ i.bytes = bytes ∧ z.cells.size = sz
  pos : 0 < sz
theorem ElemOk.mk' {P : Program} {t e : TypeId} {sz bytes : Nat} {z : Value} (h1 : P.underlying t = some (.slice e)) (h2 : (P.info? e).map (fun i => (i.zero, i.size, i.bytes)) = some (some z, sz, bytes)) (h3 : z.cells.size = sz) (h4 : 0 < sz) : ElemOk P t e sz bytes := by
  obtain ⟨i, hi, e1, e2, e3⟩ := info_parts h2
  exact ⟨h1, ⟨i, z, hi, e1, e2, e3, h3⟩, h4⟩
section
variable {H H' : Heap} {S : PH} {L : List Asn}
theorem Sat.regrow {T : TypeId} {sz : Nat} {v v' : Sl} {xs xs' : List Value} (h : Sat H S (own T sz v xs :: L))
    (hb : ∀ c, c < H.size → (∀ g, v.a = some ⟨g, 0, none⟩ → c ≠ g) → H'[c]? = H[c]?)
    (hl : xs'.length = v'.l * sz)
    (hn : (v' = ⟨none, 0, 0⟩ ∧ xs' = []) ∨ ∃ g cur, v'.a = some ⟨g, 0, none⟩ ∧ (v.a = some ⟨g, 0, none⟩ ∨ g = H.size) ∧ H'[g]? = some (.cells cur T (0, 0)) ∧ v'.l ≤ v'.c ∧ v'.c ≤ maxLen ∧ v'.c * sz ≤ cur.size ∧ cur.toList.take (v'.l * sz) = xs') :
    Sat H' S (own T sz v' xs' :: L) := by
  obtain ⟨⟨k, ⟨k1, k2, ⟨h1, h2⟩, h3, hs⟩, h4, h5⟩, h6⟩ := h
  have hg : ∀ g, v.a = some ⟨g, 0, none⟩ → k2 g = none ∧ S g = none := by
    intro g hv
    rcases h2 with ⟨e, _⟩ | ⟨g', cur, g1, g2, _⟩
    · rw [e] at hv; cases hv
    · rw [hv] at g1; cases g1
      refine ⟨(hs.d g).resolve_left (by rw [g2]; simp), (h4 g).resolve_left (by rw [hs.l _ _ g2]; simp)⟩
  have old2 : ∀ b o, k2 b = some o → H'[b]? = some o := fun b o hb2 => by
    have := h5 b o (hs.r b o hb2)
    rw [hb b (lt_of_some this) fun g hv e => by subst e; rw [(hg _ hv).1] at hb2; cases hb2]
    exact this
  have oldS : ∀ b o, S b = some o → H'[b]? = some o := fun b o hbS => by
    have := h6 b o hbS
    rw [hb b (lt_of_some this) fun g hv e => by subst e; rw [(hg _ hv).2] at hbS; cases hbS]
    exact this
  have hd2 : ∀ b, k2 b = none ∨ S b = none := fun b => by
    rcases h4 b with h | h
    · left
      cases hk : k2 b with
      | none => rfl
      | some o => have := hs.r b o hk; rw [h] at this; cases this
    · exact .inr h
  rcases hn with ⟨rfl, rfl⟩ | ⟨g, cur, g1, g2, g3, g4, g5, g6, g7⟩
  · exact ⟨⟨k2, ⟨fun _ => none, k2, ⟨by simp, .inl ⟨rfl, rfl⟩⟩, h3, ⟨(fun _ _ h => by cases h), (fun _ _ h => h), (fun _ => .inl rfl)⟩⟩, hd2, old2⟩, oldS⟩
  · have hnew : k2 g = none ∧ S g = none := by
      rcases g2 with g2 | rfl
      · exact hg g g2
      · constructor
        · cases hk : k2 H.size with
          | none => rfl
          | some o => have := lt_of_some (h5 _ _ (hs.r _ _ hk)); omega
        · cases hk : S H.size with
          | none => rfl
          | some o => have := lt_of_some (h6 _ _ hk); omega
    refine ⟨⟨fun c => if c = g then some (.cells cur T (0, 0)) else k2 c, ⟨fun c => if c = g then some (.cells cur T (0, 0)) else none, k2, ⟨hl, .inr ⟨g, cur, g1, by simp, g4, g5, g6, g7⟩⟩, h3, ⟨fun c x hx => ?_, fun c x hx => ?_, fun c => ?_⟩⟩, fun c => ?_, fun c x hx => ?_⟩, oldS⟩
    · by_cases e : c = g
      · simpa [e] using hx
      · simp [e] at hx
    · by_cases e : c = g
      · subst e; rw [hnew.1] at hx; cases hx
      · simpa [e] using hx
    · by_cases e : c = g
      · subst e; exact .inr hnew.1
      · simp [e]
    · by_cases e : c = g
      · subst e; exact .inr hnew.2
      · simpa [e] using hd2 c
    · by_cases e : c = g
      · simp only [e, if_true] at hx; cases hx; rw [e]; exact g3
      · simp only [e, if_false] at hx; exact old2 c x hx
theorem own.row {T : TypeId} {sz : Nat} {v : Sl} {xs : List Value} (h : Sat H S (own T sz v xs :: L)) {w : World} (hw : w.heap = H) : (v = ⟨none, 0, 0⟩ ∧ xs = []) ∨
    ∃ g cur, v.a = some ⟨g, 0, none⟩ ∧ w.heap[g]? = some (.cells cur T (0, 0)) ∧ v.l ≤ v.c ∧ v.c ≤ maxLen ∧ v.c * sz ≤ cur.size ∧ cur.toList.take (v.l * sz) = xs := by
  obtain ⟨⟨k, ⟨k1, k2, ⟨h1, h2⟩, h3, hs⟩, h4, h5⟩, h6⟩ := h
  rcases h2 with h2 | ⟨g, cur, g1, g2, g3, g4, g5, g6⟩
  · exact .inl h2
  · exact .inr ⟨g, cur, g1, by rw [hw]; exact h5 _ _ (hs.l _ _ g2), g3, g4, g5, g6⟩
theorem append_own {P : Program} {t ty e : TypeId} {sz bytes : Nat} (he : ElemOk P t e sz bytes) {v : Sl} {xs : List Value} (h : Sat H S (own e sz v xs :: L)) {xa : Option Addr} {m c : Nat} {news : List Value}
    (hl : news.length = m * sz) (hx : m = 0 ∨ ∃ g o, xa = some ⟨g, o, none⟩ ∧ CellsAt H g o news) (h1 : ∀ u ∈ news, u.oneCell' = true) (hb : (v.l + m) * bytes ≤ 140737488355328) (hm : v.l + m ≤ maxLen)
    {K : Sl → Heap → Prop} (hk : ∀ v' H', v'.l = v.l + m → Sat H' S (own e sz v' (xs ++ news) :: L) → K v' H') :
    RunK P .sl (Builtin.append_ #[t, t] ty #[.slice v.a v.l v.c, .slice xa m c]) H K := by
  intro w hw
  obtain ⟨i, z, hi, hz, hs, hby, hzs⟩ := he.info
  have hlen := own.len h
  have hll : (xs ++ news).length = (v.l + m) * sz := by rw [List.length_append, hlen.1, hl, Nat.add_mul]
  rcases own.row h hw with ⟨rfl, rfl⟩ | ⟨g, cur, ga, gb, gc, gm, gz, gt⟩
  rotate_left
  · have hold : ∀ j u, xs[j]? = some u → w.cell? ((⟨g, 0, none⟩ : Addr).add j) = some u := by
      intro j u hu
      rw [addr_add, cell?_eq]
      simp only [cellH, gb]
      rw [← gt, List.getElem?_take] at hu
      split at hu
      · simpa using hu
      · cases hu
    rcases Nat.eq_zero_or_pos m with hm0 | hmp
    · subst hm0
      have hnews : news = [] := List.eq_nil_of_length_eq_zero (by simpa using hl)
      subst hnews
      refine ⟨v, w, ?_, SameW.refl _, hk v w.heap rfl (by rw [hw, List.append_nil]; exact h)⟩
      rw [ga]
      cases xa with
      | none => simp [Builtin.append_, run_underlying he.und, sizeOf, typeInfo, hi, Builtin.lenOf, Builtin.firstCells, gc, storeCells, K1.mk, ga]
      | some a => simp [Builtin.append_, run_underlying he.und, sizeOf, typeInfo, hi, Builtin.lenOf, Builtin.firstCells, gc, storeCells, K1.mk, ga, loadCells, loadCellsFrom]
    · obtain ⟨gx, ox, rfl, hc⟩ := hx.resolve_left (by omega)
      have hnw : ∀ j u, news[j]? = some u → w.cell? ((⟨gx, ox, none⟩ : Addr).add j) = some u := fun j u hu => by rw [addr_add, cell?_eq, hw]; exact hc.get j u hu
      by_cases hroom : v.l + m ≤ v.c
      · have hfit : v.l * sz + news.length ≤ cur.size := by
          have := Nat.mul_le_mul_right sz hroom
          rw [Nat.add_mul] at this
          omega
        have hr := run_append_room (P := P) w t ty e i he.und hi g v.l v.c cur gb ⟨gx, ox, none⟩ m c news (by rw [hs]; exact hl) hnw h1 hroom (by rw [hs]; exact hfit)
        rw [hs] at hr
        rw [ga]
        refine ⟨⟨some ⟨g, 0, none⟩, v.l + m, v.c⟩, _, hr, ⟨rfl, rfl, rfl⟩, hk _ _ rfl (h.regrow (v' := ⟨some ⟨g, 0, none⟩, v.l + m, v.c⟩) (fun d hd hne => ?_) hll (.inr ⟨g, _, rfl, .inl ga, setRow_heap w g cur _ e _ gb, hroom, gm, ?_, ?_⟩))⟩
        · rw [setRow_other w g d _ (hne g ga), hw]
        · simp only [List.size_toArray, List.length_append, List.length_take, List.length_drop, Array.length_toList]
          omega
        · rw [gt, ← hll]
          exact List.take_left
      · have hr := run_append_grow (P := P) w t ty e i z he.und hi hz ⟨g, 0, none⟩ v.l v.c xs (by rw [hs]; exact hlen.1) hold ⟨gx, ox, none⟩ m c news (by rw [hs]; exact hl) hnw (by omega) (by simp only [maxLen] at hm; omega) (growslice_fits (by omega) (by rw [hby]; exact hb))
        rw [ga]
        have hge := grownCap_ge w (v.l + m) v.c e
        have hcm : grownCap w (v.l + m) v.c e ≤ maxLen := grownCap_le_maxLen w (v.l + m) v.c e hm
        refine ⟨⟨some ⟨w.heap.size, 0, none⟩, v.l + m, grownCap w (v.l + m) v.c e⟩, _, hr, ⟨rfl, rfl, rfl⟩, hk _ _ rfl (h.regrow (v' := ⟨some ⟨w.heap.size, 0, none⟩, v.l + m, grownCap w (v.l + m) v.c e⟩) (fun d hd _ => ?_) hll (.inr ⟨w.heap.size, _, rfl, .inr (by rw [hw]), heap_alloc_new w.drew _, hge, hcm, ?_, ?_⟩))⟩
        · rw [← hw] at hd ⊢
          exact heap_alloc_old w.drew _ hd
        · simp only [Array.size_append, List.size_toArray, size_zeroCells, hzs, hlen.1, hl, ← Nat.add_mul]
          refine Nat.le_of_eq ?_
          congr 1
          omega
        · simp only [Array.toList_append, List.append_assoc]
          rw [← List.append_assoc, ← hll]
          exact List.take_left
  ·
    have hrow : w.ownsRow 0 e sz (.slice none 0 0) 0 [] := ⟨by simp, .inl ⟨rfl, rfl⟩⟩
    have fin : ∀ (v'' : Value) (w' : World), (Builtin.append_ #[t, t] ty #[.slice none 0 0, .slice xa m c]).run P w = .ok v'' w' → w'.ownsRow 0 e sz v'' (0 + m) ([] ++ news) → w.grownBy w' (Value.ownBlock (.slice none 0 0)) → (v''.ownBlock = Value.ownBlock (.slice none 0 0) ∨ v''.ownBlock = some w.heap.size) →
        ∃ x w', (Builtin.append_ #[t, t] ty #[.slice none 0 0, .slice xa m c]).run P w = .ok (K1.sl.mk x) w' ∧ SameW w w' ∧ K x w'.heap := by
      intro v'' w' hr ho hg hat
      have hsame : SameW w w' := ⟨hg.os, hg.tape, hg.output⟩
      have hblock : ∀ c, c < H.size → (∀ g, (none : Option Addr) = some ⟨g, 0, none⟩ → c ≠ g) → w'.heap[c]? = H[c]? := by
        intro c hc hne
        rw [← hw] at hc ⊢
        exact hg.block c hc fun e => by cases e
      rcases ho.2 with ⟨rfl, h0⟩ | ⟨g, cap, cur, rfl, _, g2, g3, g4, g5, g6⟩
      · have hnil : [] ++ news = [] := List.eq_nil_of_length_eq_zero (by rw [ho.1, h0]; simp)
        exact ⟨⟨none, 0, 0⟩, w', hr, hsame, hk _ _ h0.symm (h.regrow hblock (by rw [hnil]; simp) (.inl ⟨rfl, hnil⟩))⟩
      · refine ⟨⟨some ⟨g, 0, none⟩, 0 + m, cap⟩, w', hr, hsame, hk _ _ rfl (h.regrow hblock ho.1 (.inr ⟨g, cur, rfl, ?_, g2, g3, g4, Nat.le_of_eq g5.symm, g6⟩))⟩
        rcases hat with hat | hat
        · cases hat
        · right
          simp only [Value.ownBlock, Option.some.injEq] at hat
          rw [← hw]; exact hat
    rcases hx with rfl | ⟨gx, ox, rfl, hc⟩
    · have hnews : news = [] := List.eq_nil_of_length_eq_zero (by simpa using hl)
      subst hnews
      cases xa with
      | none =>
        have hr : (Builtin.append_ #[t, t] ty #[.slice none 0 0, .slice none 0 c]).run P w = .ok (.slice none 0 0) w := by
          simp [Builtin.append_, run_underlying he.und, sizeOf, typeInfo, hi, Builtin.lenOf, Builtin.firstCells]
        refine ⟨⟨none, 0, 0⟩, w, hr, SameW.refl _, hk ⟨none, 0, 0⟩ w.heap rfl ?_⟩
        rw [hw, List.append_nil]
        exact h
      | some a =>
        obtain ⟨v'', w', hr, h2, h3, h4, h5⟩ := run_append_own_at (P := P) w 0 t ty e i z sz bytes he.und hi hz hs hby hzs he.pos _ 0 [] hrow a 0 c [] (by simp) (by simp) (by simp) hm hb (Nat.zero_le _)
        exact fin v'' w' hr h2 h3 h5
    · subst hw
      obtain ⟨v'', w', hr, h2, h3, h4, h5⟩ := run_append_own_at (P := P) w 0 t ty e i z sz bytes he.und hi hz hs hby hzs he.pos _ 0 [] hrow ⟨gx, ox, none⟩ m c news hl (fun j u hu => by rw [addr_add, cell?_eq]; exact hc.get j u hu) h1 hm hb (Nat.zero_le _)
      exact fin v'' w' hr h2 h3 h5
theorem append_one {P : Program} {t ty e : TypeId} {sz bytes : Nat} (he : ElemOk P t e sz bytes) {v : Sl} {xs : List Value} {gx : Nat} {news : List Value} (h : Sat H S (lst gx e news :: own e sz v xs :: L))
    (hl : news.length = sz) (h1 : ∀ u ∈ news, u.oneCell' = true) (hb : (v.l + 1) * bytes ≤ 140737488355328) (hm : v.l + 1 ≤ maxLen)
    {K : Sl → Heap → Prop} (hk : ∀ v' H', v'.l = v.l + 1 → Sat H' S (own e sz v' (xs ++ news) :: L) → K v' H') :
    RunK P .sl (Builtin.append_ #[t, t] ty #[.slice v.a v.l v.c, .slice (some ⟨gx, 0, none⟩) 1 1]) H K :=
  append_own he h.swap (m := 1) (by simpa using hl) (.inr ⟨gx, 0, rfl, Sat.cells h 0 (by simp)⟩) h1 hb hm fun v' H' hv hs => hk v' H' hv hs.swap.drop
end
end Go.Sx
