/-
  Part 6 of the proof: K10, V98, V92, V77, V91, V85, V86, V125, V163, V126, V87, V49, V50, V53, K18, K19, V42, V90, K20, K21, SxV, V106, K22, V105, K23, V43, K24.
-/
import Derived.Test.YtegikhoholfcmaaGreatM05
namespace Go.Sx.Tryz
open Go Go.Sx Go.Proofs
set_option linter.unusedVariables false
section
variable {H H' : Heap} {S : PH} {R : List Asn} {d i : Nat} {D : Dk}
theorem tick_f (D : Dk) : D.tick.f = D.f := by unfold Dk.tick; split <;> rfl
theorem syn_spec (hi : i < 32) (hs : Sat H S (dsk d D :: R))
    {K : Value → Heap → Prop} (hk : ∀ H', Sat H' S (dsk d (D.syn i).2 :: R) → K (.int .i64 ((D.syn i).1 : Int)) H') :
    CallsH Tryz.prog 102 #[.pointer (some ⟨d, 0, none⟩), .int .i64 (i : Int)] H K := by
  apply vc102
  have fin : ∀ {D' : Dk} {n : Nat}, D.syn i = (n, D') → ∀ H', Sat H' S (dsk d D' :: R) → K (.int .i64 (n : Int)) H' := by
    intro D' n e H' hs'
    have := hk H' (by rw [e]; exact hs')
    rw [e] at this; exact this
  by_cases hdown : D.down = true
  · exact turn_down hi hs hdown ⟨_, rfl, fin (by rw [Dk.syn, if_pos hdown]) _ hs⟩
  refine turn_spec (e := 0) (D1 := D) (R' := []) hi hs (by simpa using hdown) (fun K' hK => always_spec (hK _ hs)) (fun h => absurd rfl h) (fun _ hb H' hs' => ⟨_, rfl, fin (by rw [Dk.syn, if_neg hdown, if_pos hb]) _ hs'⟩) (fun _ hb H' hs' => ?_)
  refine .inl ⟨148, #[], #[], rfl, call148, vc148 d (2 * i) _ _ ?_⟩
  obtain ⟨cs, vs, hd, hs1⟩ := dsk_file hi hs'
  refine ⟨vs i, hs1.cell _ (hd.file i hi), ?_⟩
  have hl := fileLen hi hs1
  rw [hl]
  refine hs1.store (by simp [hd.len]; omega) fun h2 hs2 => ⟨rfl, _, rfl, fin (by rw [Dk.syn, if_neg hdown, if_neg (by simp [hb])]) _ ?_⟩
  have := dsk_back (vs := vs) (v := vs i) (x := ⟨(D.tick.f i).b, (D.tick.f i).b.length⟩) hi (by rw [updF_self]; exact hd.putSyn hi _) hs2
  rw [Dk.tick_set, tick_f] at this
  exact this
theorem drp_spec (hi : i < 32) (hs : Sat H S (dsk d D :: R))
    {K : Value → Heap → Prop} (hk : ∀ H', Sat H' S (dsk d (D.drp i).2 :: R) → K (.int .i64 ((D.drp i).1 : Int)) H') :
    CallsH Tryz.prog 99 #[.pointer (some ⟨d, 0, none⟩), .int .i64 (i : Int)] H K := by
  apply vc99
  have fin : ∀ {D' : Dk} {n : Nat}, D.drp i = (n, D') → ∀ H', Sat H' S (dsk d D' :: R) → K (.int .i64 (n : Int)) H' := by
    intro D' n e H' hs'
    have := hk H' (by rw [e]; exact hs')
    rw [e] at this; exact this
  by_cases hdown : D.down = true
  · exact turn_down hi hs hdown ⟨_, rfl, fin (by rw [Dk.drp, if_pos hdown]) _ hs⟩
  refine turn_spec (e := 0) (D1 := D) (R' := []) hi hs (by simpa using hdown) (fun K' hK => always_spec (hK _ hs)) (fun h => absurd rfl h) (fun _ hb H' hs' => ⟨_, rfl, fin (by rw [Dk.drp, if_neg hdown, if_pos hb]) _ hs'⟩) (fun _ hb H' hs' => ?_)
  refine .inl ⟨144, #[], #[], rfl, call144, vc144 d (2 * i) _ _ ?_⟩
  obtain ⟨cs, vs, hd, hs1⟩ := dsk_file hi hs'
  refine hs1.store (by simp [hd.len]; omega) fun h2 hs2 => ⟨rfl, _, rfl, fin (by rw [Dk.drp, if_neg hdown, if_neg (by simp [hb])]) _ ?_⟩
  have hs3 := own.new 5 1 (hs2.del 1)
  have e : putL cs (2 * i) [.slice none 0 0, .int .i64 0] = putL (putL cs (2 * i) [.slice none 0 0]) (2 * i + 1) [.int .i64 ((0 : Nat) : Int)] := by
    have hl := hd.len
    apply List.ext_getElem?
    intro j
    rw [putL_get (by simp; omega), putL_get (by rw [putL_len (by simp; omega)]; simp; omega), putL_get (by simp; omega)]
    simp only [List.length_cons, List.length_nil]
    by_cases h1 : j < 2 * i
    · rw [if_pos h1, if_pos (by omega)]
      rw [if_pos h1]
    · rw [if_neg h1]
      by_cases h2 : j = 2 * i
      · subst h2
        rw [if_pos (by omega), if_pos (by omega), if_neg (by omega), if_pos (by omega)]
        simp
      · by_cases h3 : j = 2 * i + 1
        · subst h3
          rw [if_pos (by omega), if_neg (by omega), if_pos (by omega)]
          simp
        · rw [if_neg (by omega), if_neg (by omega), if_neg (by omega), if_neg (by omega), if_neg (by omega)]
  have hd1 := (hd.putFile hi ⟨none, 0, 0⟩ [] (by simp)).putSyn hi 0
  rw [Dk.set_set, Dk.set_f, ← e] at hd1
  have := dsk_back (x := ⟨[], 0⟩) hi hd1 (hs3.swap)
  rw [Dk.tick_set] at this
  exact this
theorem own.cut {v : Sl} {xs : List Value} {T : TypeId} (h : Sat H S (own T 1 v xs :: R)) {n : Nat} (hn : n ≤ v.l) : Sat H S (own T 1 ⟨subA v.a 0 n 1, n, n⟩ (xs.take n) :: R) := by
  obtain ⟨⟨k, ⟨k1, k2, ⟨h1, h2⟩, h3, hs⟩, h4, h5⟩, h6⟩ := h
  refine ⟨⟨k, ⟨k1, k2, ⟨by show (xs.take n).length = n * 1; rw [List.length_take]; omega, ?_⟩, h3, hs⟩, h4, h5⟩, h6⟩
  rcases h2 with ⟨rfl, rfl⟩ | ⟨g, cur, g1, g2, g3, g4, g5, g6⟩
  · left
    have : n = 0 := by simpa using hn
    subst this
    exact ⟨rfl, rfl⟩
  · right
    refine ⟨g, cur, ?_, g2, Nat.le_refl _, Nat.le_trans hn (Nat.le_trans g3 g4), ?_, ?_⟩
    · rw [subA_zero (by intro a ha; rw [g1] at ha; cases ha; rfl)]; exact g1
    · show n * 1 ≤ cur.size
      omega
    · rw [← g6, List.take_take]; congr 1; show n * 1 = _; omega
theorem cut_spec {n : Nat} (hi : i < 32) (hs : Sat H S (dsk d D :: R)) (hn : n < 1000000000)
    {K : Value → Heap → Prop} (hk : ∀ H', Sat H' S (dsk d (D.cut i n).2 :: R) → K (.int .i64 ((D.cut i n).1 : Int)) H') :
    CallsH Tryz.prog 101 #[.pointer (some ⟨d, 0, none⟩), .int .i64 (i : Int), .int .i64 (n : Int)] H K := by
  apply vc101
  intro b1 h1 hf1
  have hs1 : Sat h1 S (lst b1 3 [.int .i64 (n : Int)] :: dsk d D :: R) := hs.fresh hf1
  have hs2 := hs1.swap
  have fin : ∀ {D' : Dk} {m : Nat}, D.cut i n = (m, D') → ∀ H', Sat H' S (dsk d D' :: lst b1 3 [.int .i64 (n : Int)] :: R) → K (.int .i64 (m : Int)) H' := by
    intro D' m e H' hs'
    have := hk H' (by rw [e]; exact hs'.del 1)
    rw [e] at this; exact this
  by_cases hdown : D.down = true
  · exact turn_down hi hs2 hdown ⟨_, rfl, fin (by rw [Dk.cut, if_pos hdown]) _ hs2⟩
  by_cases hlong : (D.f i).b.length < n
  · refine turn_spec (e := 2) (D1 := D) (R' := []) hi hs2 (by simpa using hdown) (fun K' hK => .inl ⟨146, #[], _, rfl, call146, vc146 d (2 * i) b1 0 _ _ ?_⟩) (fun _ H' hs' => ⟨_, rfl, fin (by rw [Dk.cut, if_neg hdown, if_pos hlong]) _ hs'⟩) (fun h => by cases h) (fun h => by cases h)
    obtain ⟨cs, vs, hd, hs6⟩ := dsk_file hi hs2
    have hl := fileLen hi hs6
    refine ⟨_, (hs2.pick 1 rfl).cell 0 rfl, CondP.of (fun hc => by simp at hc; omega) fun _ => ⟨_, (hs2.pick 1 rfl).cell 0 rfl, vs i, hs6.cell _ (hd.file i hi), CondP.of (fun _ => hK _ hs2) fun hc => by simp at hc; omega⟩⟩
  refine turn_spec (e := 0) (D1 := D) (R' := []) hi hs2 (by simpa using hdown) (fun K' hK => .inl ⟨146, #[], _, rfl, call146, vc146 d (2 * i) b1 0 _ _ ?_⟩) (fun h => absurd rfl h) (fun _ hb H' hs' => ⟨_, rfl, fin (by rw [Dk.cut, if_neg hdown, if_neg hlong, if_pos hb]) _ hs'⟩) (fun _ hb H' hs' => ?_)
  · obtain ⟨cs, vs, hd, hs6⟩ := dsk_file hi hs2
    have hl := fileLen hi hs6
    refine ⟨_, (hs2.pick 1 rfl).cell 0 rfl, CondP.of (fun hc => by simp at hc; omega) fun _ => ⟨_, (hs2.pick 1 rfl).cell 0 rfl, vs i, hs6.cell _ (hd.file i hi), CondP.of (fun hc => by simp at hc; omega) fun _ => hK _ hs2⟩⟩
  · refine .inl ⟨147, #[], _, rfl, call147, vc147 d (2 * i) b1 0 _ _ ?_⟩
    obtain ⟨cs, vs, hd, hs6⟩ := dsk_file hi hs'
    have hl := fileLen hi hs6
    rw [tick_f] at hl
    have hlc := (own.len hs6.swap).2
    have hb1 : Sat H' S _ := hs6.pick 3 rfl
    have hlong' : n ≤ (vs i).l := by omega
    refine ⟨vs i, hs6.cell _ (hd.file i hi), _, hb1.cell 0 rfl, _, hb1.cell 0 rfl, ⟨by omega, by omega, by omega, by omega⟩, _, hs6.cell _ (hd.syn i hi), _, hb1.cell 0 rfl, ?_⟩
    simp only [Int.toNat_natCast]
    refine hs6.store (by simp [hd.len]; omega) fun h2 hs7 => ⟨(hs7.pick 3 rfl).cell 0 rfl, ?_⟩
    have hd1 := hd.putFile hi ⟨subA (vs i).a 0 n 1, n, n⟩ ((D.tick.f i).b.take n) (by rw [List.length_take]; have := hd.fit i hi; omega)
    have e : (if (n : Int) < ((D.tick.f i).s : Int) then (n : Int) else ((D.tick.f i).s : Int)) = ((min n (D.tick.f i).s : Nat) : Int) := by
      split <;> omega
    rw [e]
    refine hs7.store (by simp [hd1.len]; omega) fun h3 hs8 => ⟨trivial, _, rfl, fin (by rw [Dk.cut, if_neg hdown, if_neg hlong, if_neg (by simp [hb])]) _ ?_⟩
    have hd2 := hd1.putSyn hi (min n (D.tick.f i).s)
    rw [Dk.set_set, Dk.set_f] at hd2
    have hs9 := own.cut hs8.swap hlong'
    rw [bv, ← List.map_take] at hs9
    have := dsk_back (x := ⟨(D.tick.f i).b.take n, min n (D.tick.f i).s⟩) hi hd2 (hs9.swap)
    rw [Dk.tick_set, tick_f] at this
    exact this
theorem read_spec (hi : i < 32) (hs : Sat H S (dsk d D :: R))
    {K : Value → Heap → Prop} (hk : ∀ (v : Sl) H' S', PH.le S S' → RdB S' v (D.f i).b → Sat H' S' (dsk d D :: R) → K (.slice v.a v.l v.c) H') :
    CallsH Tryz.prog 37 #[.pointer (some ⟨d, 0, none⟩), .int .i64 (i : Int)] H K := by
  apply vc37
  refine at_spec hi ⟨_, rfl, CondP.of (fun hc => by cases hc) fun _ => NilP.of rfl ?_⟩
  obtain ⟨cs, vs, hd, hs6⟩ := dsk_file hi hs
  refine ⟨vs i, hs6.cell _ (hd.file i hi), ?_⟩
  have hft := hd.fit i hi
  refine clone_spec hs6 (own.reads hs6.swap) (by omega) fun v h1 hv hs7 => ⟨v, rfl, ?_⟩
  obtain ⟨S', q1, q2, q3⟩ := own.fixd hs7
  exact hk v h1 S' q1 q2 (dsk_same hi hd q3)
theorem size_spec (hi : i < 32) (hs : Sat H S (dsk d D :: R))
    {K : Value → Heap → Prop} (hk : K (.int .i64 ((D.f i).b.length : Int)) H) :
    CallsH Tryz.prog 84 #[.pointer (some ⟨d, 0, none⟩), .int .i64 (i : Int)] H K := by
  apply vc84
  refine at_spec hi ⟨_, rfl, CondP.of (fun _ => NilP.of rfl ?_) fun hc => by cases hc⟩
  obtain ⟨cs, vs, hd, hs6⟩ := dsk_file hi hs
  refine ⟨vs i, hs6.cell _ (hd.file i hi), ?_⟩
  rw [fileLen hi hs6]; exact hk
theorem down_spec (hs : Sat H S (dsk d D :: R)) {K : Value → Heap → Prop} (hk : K (.bool D.down) H) : CallsH Tryz.prog 15 #[.pointer (some ⟨d, 0, none⟩)] H K := by
  apply vc15
  obtain ⟨cs, vs, hd, hs1⟩ := dsk_open hs
  exact ⟨_, hs1.cell _ hd.down, hk⟩
theorem arm_spec {n : Nat} (hn : n < 1000) (hs : Sat H S (dsk d D :: R)) {K : Value → Heap → Prop} (hk : ∀ H', Sat H' S (dsk d { D with armed := true, fuse := n } :: R) → K (.tuple #[]) H') :
    CallsH Tryz.prog 14 #[.pointer (some ⟨d, 0, none⟩), .int .i64 (n : Int)] H K := by
  apply vc14
  obtain ⟨cs, vs, hd, hs1⟩ := dsk_open hs
  refine hs1.store (by simp [hd.len]) fun h1 hs2 => ?_
  have e1 : decide ((n : Int) ≥ 0) = true := by simp
  have e2 : (if (0 : Int) > (n : Int) then (0 : Int) else (n : Int)) = (n : Int) := by rw [if_neg (by omega)]
  have hd1 := hd.putArmed (decide ((n : Int) ≥ 0))
  rw [e2]
  refine hs2.store (by rw [Nat.zero_add, hd1.len]; simp) fun h2 hs3 => hk h2 ?_
  have hd2 := hd1.putFuse n hn
  rw [e1] at hd2 hs3
  exact dsk_shut hd2 hs3
def Dk.new : Dk := { f := fun _ => ⟨[], 0⟩, armed := false, fuse := 0, down := false }
theorem bigA_new {n : Nat} {A : Nat → Asn} (hA : ∀ i, A i fun _ => none) (hs : Sat H S R) : Sat H S (bigA n A :: R) := by
  unfold bigA
  induction n with
  | zero => exact hs.emp
  | succ n ih =>
    have h1 := Sat.unast ih
    have h2 : Sat H S (A n :: ((List.range n).map A ++ R)) := by
      obtain ⟨⟨k, g1, g2, g3⟩, g4⟩ := h1
      exact ⟨⟨k, ⟨fun _ => none, k, hA n, g1, ⟨(fun _ _ h => by cases h), (fun _ _ h => h), (fun _ => .inl rfl)⟩⟩, g2, g3⟩, g4⟩
    refine Sat.mkast ?_
    rw [List.range_succ, List.map_append, List.append_assoc]
    exact h2.perm List.perm_middle.symm
def newCell (j : Nat) : Value := if j < 64 then (if j % 2 = 0 then .slice none 0 0 else .int .i64 0) else if j = 64 then .bool false else if j = 65 then .int .i64 0 else if j = 66 then .bool false else .int .i64 0
theorem newCells_get {j : Nat} (h : j < 68) : ((List.range 68).map newCell)[j]? = some (newCell j) := by simp [h]
theorem new_spec (hs : Sat H S R) {K : Value → Heap → Prop} (hk : ∀ d H', Sat H' S (dsk d Dk.new :: R) → K (.pointer (some ⟨d, 0, none⟩)) H') : CallsH Tryz.prog 10 #[] H K := by
  apply vc10
  intro b h1 hf
  have e : ∀ l : List Value, l = (List.range 68).map newCell → Sat h1 S (blk b (.cells l.toArray 92) :: R) → Sat h1 S (lst b 92 ((List.range 68).map newCell) :: R) := fun l hl h => by rw [hl] at h; exact h
  have hs1 := e _ (by rfl) (hs.fresh hf)
  refine hk b h1 (dsk_shut (vs := fun _ => ⟨none, 0, 0⟩) ⟨by simp, fun i hi => ?_, fun i hi => ?_, by rfl, ⟨by rfl, by decide⟩, by rfl, ⟨0, by rfl⟩, fun i hi => by simp [Dk.new]⟩ (bigA_new (fun i => ⟨by simp [Dk.new, bv], .inl ⟨rfl, by simp [Dk.new, bv]⟩⟩) hs1).swap)
  · rw [newCells_get (by omega)]
    simp only [newCell]
    rw [if_pos (by omega), if_pos (by omega)]
  · rw [newCells_get (by omega)]
    simp only [newCell]
    rw [if_pos (by omega), if_neg (by omega)]
    rfl
end
end Go.Sx.Tryz
namespace Go.Sx.Tryz
open Go Go.Sx Go.Proofs
set_option maxRecDepth 100000
set_option linter.unusedVariables false
noncomputable def c98 : Code := (Tryz.f98.body).getD .skip
def a98 : Ann := (.seq .leaf (.seq .leaf (.seq .leaf .leaf)))
theorem ok98 : okC tab 18 true c98 a98 = true := by kernel_rfl
theorem vc98 (j_b j_o : Nat) (e_ : Int) (h : Heap) (R : Value → Heap → Prop)
  (hv : ∃ t1 : Bool, cellH h j_b (j_o + 9) = some (.bool t1) ∧
   CondP t1 (
   CanSt h j_b (j_o + 9) [.bool true] ∧ ∀ h1, Stored h j_b (j_o + 9) [.bool true] h1 →
   R (.bool ((e_ : Int) == 0)) h1) (
   CanSt h j_b (j_o + 9) [.bool ((e_ : Int) != 0)] ∧ ∀ h2, Stored h j_b (j_o + 9) [.bool ((e_ : Int) != 0)] h2 →
   R (.bool ((e_ : Int) == 0)) h2)) :
  CallsH Tryz.prog 98 #[.pointer (some ⟨j_b, j_o, none⟩), .int .i64 e_] h R :=
  calls_of_vc tabOk mixed Tryz.func98 (c := c98) (by kernel_rfl) (n := 18) rfl (rs := [.tmp 4]) (by kernel_rfl) ok98 (args := [.pointer (some ⟨j_b, j_o, none⟩), .int .i64 e_]) (Nat.le_of_ble_eq_true rfl) (Eq.mpr (by kernel_rfl) hv)
end Go.Sx.Tryz
namespace Go.Sx.Tryz
open Go Go.Sx Go.Proofs
set_option maxRecDepth 100000
set_option linter.unusedVariables false
noncomputable def c92 : Code := (Tryz.f92.body).getD .skip
def a92 : Ann := (.seq .leaf (.seq .leaf .leaf))
theorem ok92 : okC tab 12 true c92 a92 = true := by kernel_rfl
theorem vc92 (j_b j_o : Nat) (h : Heap) (R : Value → Heap → Prop)
  (hv : ∃ p1 : Option Addr, cellH h j_b j_o = some (.pointer p1) ∧
   R (.bool p1.isNone) h) :
  CallsH Tryz.prog 92 #[.pointer (some ⟨j_b, j_o, none⟩)] h R :=
  calls_of_vc tabOk mixed Tryz.func92 (c := c92) (by kernel_rfl) (n := 12) rfl (rs := [.tmp 2]) (by kernel_rfl) ok92 (args := [.pointer (some ⟨j_b, j_o, none⟩)]) (Nat.le_of_ble_eq_true rfl) (Eq.mpr (by kernel_rfl) hv)
end Go.Sx.Tryz
namespace Go.Sx.Tryz
open Go Go.Sx Go.Proofs
set_option maxRecDepth 100000
set_option linter.unusedVariables false
noncomputable def c77 : Code := (Tryz.f77.body).getD .skip
def a77 : Ann := (.seq .leaf (.seq (.inn (.seq .leaf (.br (.seq .leaf .leaf) (.seq .leaf (.br (.seq .leaf .leaf) .leaf))))) (.seq .leaf .leaf)))
theorem ok77 : okC tab 11 true c77 a77 = true := by kernel_rfl
theorem vc77 (j_b j_o : Nat) (h : Heap) (R : Value → Heap → Prop)
  (hv : CallsH Tryz.prog 92 #[.pointer (some ⟨j_b, j_o, none⟩)] h (fun r1 h1 => ∃ t1 : Bool, r1 = .bool t1 ∧
   CondP t1 (
   R (.int .i64 1) h1) (
   ∃ t2 : Bool, cellH h1 j_b (j_o + 9) = some (.bool t2) ∧
   CondP t2 (
   R (.int .i64 70) h1) (
   R (.int .i64 0) h1)))) :
  CallsH Tryz.prog 77 #[.pointer (some ⟨j_b, j_o, none⟩)] h R :=
  calls_of_vc tabOk mixed Tryz.func77 (c := c77) (by kernel_rfl) (n := 11) rfl (rs := [.tmp 2]) (by kernel_rfl) ok77 (args := [.pointer (some ⟨j_b, j_o, none⟩)]) (Nat.le_of_ble_eq_true rfl) (Eq.mpr (by kernel_rfl) hv)
end Go.Sx.Tryz
namespace Go.Sx.Tryz
open Go Go.Sx Go.Proofs
set_option maxRecDepth 100000
set_option linter.unusedVariables false
noncomputable def c91 : Code := (Tryz.f91.body).getD .skip
def a91 : Ann := (.seq .leaf (.seq (.seq .leaf (.br (.seq .leaf .leaf) .leaf)) (.seq .leaf .leaf)))
theorem ok91 : okC tab 7 true c91 a91 = true := by kernel_rfl
theorem vc91 (j_b j_o : Nat) (h : Heap) (R : Value → Heap → Prop)
  (hv : ∃ t1 : Bool, cellH h j_b (j_o + 9) = some (.bool t1) ∧
   CondP t1 (
   R (.int .i64 70) h) (
   R (.int .i64 0) h)) :
  CallsH Tryz.prog 91 #[.pointer (some ⟨j_b, j_o, none⟩)] h R :=
  calls_of_vc tabOk mixed Tryz.func91 (c := c91) (by kernel_rfl) (n := 7) rfl (rs := [.tmp 2]) (by kernel_rfl) ok91 (args := [.pointer (some ⟨j_b, j_o, none⟩)]) (Nat.le_of_ble_eq_true rfl) (Eq.mpr (by kernel_rfl) hv)
end Go.Sx.Tryz
namespace Go.Sx.Tryz
open Go Go.Sx Go.Proofs
set_option maxRecDepth 100000
set_option linter.unusedVariables false
noncomputable def c85 : Code := (Tryz.f85.body).getD .skip
def a85 : Ann := (.seq .leaf (.seq (.reg (.q 0 (.q 1 (.q 2 (.q 3 (.q 4 (.q 5 (.q 6 (.q 7 (.q 8 (.q 9 (.q 10 (.q 11 (.q 12 (.q 13 (.fin)))))))))))))))) .leaf))
theorem ok85 : okC tab 16 true c85 a85 = true := by kernel_rfl
theorem vc85 (j_b j_o : Nat) (h : Heap) (R : Value → Heap → Prop)
  (hv : ∃ x1 : Sl, cellH h j_b (j_o + 8) = some (.slice x1.a x1.l x1.c) ∧
   ∃ x2 : Sl, cellH h j_b (j_o + 8) = some (.slice x2.a x2.l x2.c) ∧
   ((0 : Int) ≤ IntKind.i64.wrap (((x2.l : Nat) : Int) - 1) ∧ (IntKind.i64.wrap (((x2.l : Nat) : Int) - 1) : Int) < ((x1.l : Nat) : Int)) ∧
   NilP x1.a (fun b1 o1 =>
   ∃ n1 : Int, cellH h b1 (o1 + ((IntKind.i64.wrap (((x2.l : Nat) : Int) - 1)).toNat) * 5) = some (.int .i64 n1) ∧
   R (.int .i64 n1) h)) :
  CallsH Tryz.prog 85 #[.pointer (some ⟨j_b, j_o, none⟩)] h R :=
  calls_of_vc tabOk mixed Tryz.func85 (c := c85) (by kernel_rfl) (n := 16) rfl (rs := [.tmp 2]) (by kernel_rfl) ok85 (args := [.pointer (some ⟨j_b, j_o, none⟩)]) (Nat.le_of_ble_eq_true rfl) (Eq.mpr (by kernel_rfl) hv)
end Go.Sx.Tryz
namespace Go.Sx.Tryz
open Go Go.Sx Go.Proofs
set_option maxRecDepth 100000
set_option linter.unusedVariables false
noncomputable def c86 : Code := (Tryz.f86.body).getD .skip
def a86 : Ann := (.seq .leaf (.seq (.seq .leaf (.join [(24, .one (.b))] .leaf (.br (.seq .leaf .leaf) .leaf))) (.seq (.seq .leaf (.inn (.loop [(2, .one (.sl)), (4, .one (.p))] (.seq (.seq (.reg (.q 0 (.q 1 (.q 2 (.q 3 (.q 4 (.q 5 (.q 6 (.q 7 (.q 8 (.q 9 (.q 10 (.fin))))))))))))) (.br .leaf .leaf)) (.seq (.inn (.seq .leaf (.br .leaf .leaf))) (.seq (.seq .leaf .leaf) .leaf)))))) (.seq .leaf .leaf))))
theorem ok86 : okC tab 55 true c86 a86 = true := by kernel_rfl
theorem vc86 (j_b j_o : Nat) (h : Heap) (R : Value → Heap → Prop)
  (hv : ∃ x1 : Sl, cellH h j_b (j_o + 8) = some (.slice x1.a x1.l x1.c) ∧
   ∃ J1 : Bool → Heap → Prop, (∀ t1 : Bool, ∀ h1, J1 t1 h1 → ∀ _ : Env,
   CondP t1 (
   R (.slice none 0 0) h1) (
   ∃ n1 : Int, cellH h1 j_b (j_o + 1) = some (.int .i64 n1) ∧
   ∀ b1 h2, Fresh h1 (.cells #[.int .i64 0] 3) b1 h2 →
   CanSt h2 b1 0 [.int .i64 n1] ∧ ∀ h3, Stored h2 b1 0 [.int .i64 n1] h3 →
   ∃ (I1 : Sl → Option Addr → Heap → Prop) (mu1 : Sl → Option Addr → Heap → Nat), I1 ⟨none, 0, 0⟩ (some ⟨b1, 0, none⟩) h3 ∧ (∀ x2 : Sl, ∀ p1 : Option Addr, ∀ h4, I1 x2 p1 h4 → ∀ _ : Env,
   NilP p1 (fun b2 o1 =>
   ∃ n2 : Int, cellH h4 b2 o1 = some (.int .i64 n2) ∧
   ∃ n3 : Int, cellH h4 j_b (j_o + 1) = some (.int .i64 n3) ∧
   ∃ n4 : Int, cellH h4 j_b (j_o + 2) = some (.int .i64 n4) ∧
   CondP (decide ((n2 : Int) < (IntKind.i64.wrap (n3 + n4)))) (
   ∃ x3 : Sl, cellH h4 j_b (j_o + 8) = some (.slice x3.a x3.l x3.c) ∧
   CallsH Tryz.prog 125 #[.slice x3.a x3.l x3.c, .func (.func 126) #[] #[.pointer p1]] h4 (fun r1 h5 => ∃ t2 : Bool, r1 = .bool t2 ∧
   CondP (!t2) (
   NilP p1 (fun b3 o2 =>
   ∃ n5 : Int, cellH h5 b3 o2 = some (.int .i64 n5) ∧
   ∀ b4 h6, Fresh h5 (.cells #[.int .i64 n5] 3) b4 h6 →
   RunK Tryz.prog (.sl) (Builtin.append_ #[45, 45] 45 #[.slice x2.a x2.l x2.c, .slice (some ⟨b4, 0, none⟩) 1 1]) h6 (fun x4 h7 =>
   NilP p1 (fun b5 o3 =>
   ∃ n6 : Int, cellH h7 b5 o3 = some (.int .i64 n6) ∧
   ∀ b6 h8, Fresh h7 (.cells #[.int .i64 0] 3) b6 h8 →
   CanSt h8 b6 0 [.int .i64 n6] ∧ ∀ h9, Stored h8 b6 0 [.int .i64 n6] h9 →
   ∃ n7 : Int, cellH h9 b6 0 = some (.int .i64 n7) ∧
   CanSt h9 b6 0 [.int .i64 (IntKind.i64.wrap (n7 + 1))] ∧ ∀ h10, Stored h9 b6 0 [.int .i64 (IntKind.i64.wrap (n7 + 1))] h10 →
   I1 x4 (some ⟨b6, 0, none⟩) h10 ∧ mu1 x4 (some ⟨b6, 0, none⟩) h10 < mu1 x2 p1 h4)))) (
   NilP p1 (fun b7 o4 =>
   ∃ n8 : Int, cellH h5 b7 o4 = some (.int .i64 n8) ∧
   ∀ b8 h11, Fresh h5 (.cells #[.int .i64 0] 3) b8 h11 →
   CanSt h11 b8 0 [.int .i64 n8] ∧ ∀ h12, Stored h11 b8 0 [.int .i64 n8] h12 →
   ∃ n9 : Int, cellH h12 b8 0 = some (.int .i64 n9) ∧
   CanSt h12 b8 0 [.int .i64 (IntKind.i64.wrap (n9 + 1))] ∧ ∀ h13, Stored h12 b8 0 [.int .i64 (IntKind.i64.wrap (n9 + 1))] h13 →
   I1 x2 (some ⟨b8, 0, none⟩) h13 ∧ mu1 x2 (some ⟨b8, 0, none⟩) h13 < mu1 x2 p1 h4)))) (
   R (.slice x2.a x2.l x2.c) h4))))) ∧
   CondP (decide ((((x1.l : Nat) : Int) : Int) > 0)) (
   ∃ x5 : Sl, cellH h j_b (j_o + 8) = some (.slice x5.a x5.l x5.c) ∧
   ((0 : Int) ≤ IntKind.i64.wrap (((x1.l : Nat) : Int) - 1) ∧ (IntKind.i64.wrap (((x1.l : Nat) : Int) - 1) : Int) < ((x5.l : Nat) : Int)) ∧
   NilP x5.a (fun b9 o5 =>
   ∃ n10 : Int, cellH h b9 (o5 + ((IntKind.i64.wrap (((x1.l : Nat) : Int) - 1)).toNat) * 5 + 1) = some (.int .u64 n10) ∧
   J1 (decide ((n10 : Int) ≥ 4611686018427387904)) h)) (
   J1 false h)) :
  CallsH Tryz.prog 86 #[.pointer (some ⟨j_b, j_o, none⟩)] h R :=
  calls_of_vc tabOk mixed Tryz.func86 (c := c86) (by kernel_rfl) (n := 55) rfl (rs := [.tmp 2]) (by kernel_rfl) ok86 (args := [.pointer (some ⟨j_b, j_o, none⟩)]) (Nat.le_of_ble_eq_true rfl) (Eq.mpr (by kernel_rfl) hv)
end Go.Sx.Tryz
namespace Go.Sx.Tryz
open Go Go.Sx Go.Proofs
set_option maxRecDepth 100000
set_option linter.unusedVariables false
noncomputable def c125 : Code := (Tryz.f125.body).getD .skip
def a125 : Ann := (.seq .leaf (.seq .leaf .leaf))
theorem ok125 : okC tab 9 true c125 a125 = true := by kernel_rfl
theorem vc125 (s_ : Sl) (f_ : Value) (h : Heap) (R : Value → Heap → Prop)
  (hv : CallsH Tryz.prog 163 #[.slice s_.a s_.l s_.c, f_] h (fun r1 h1 => ∃ n1 : Int, r1 = .int .i64 n1 ∧
   R (.bool (decide ((n1 : Int) ≥ 0))) h1)) :
  CallsH Tryz.prog 125 #[.slice s_.a s_.l s_.c, f_] h R :=
  calls_of_vc tabOk mixed Tryz.func125 (c := c125) (by kernel_rfl) (n := 9) rfl (rs := [.tmp 4]) (by kernel_rfl) ok125 (args := [.slice s_.a s_.l s_.c, f_]) (Nat.le_of_ble_eq_true rfl) (Eq.mpr (by kernel_rfl) hv)
end Go.Sx.Tryz
namespace Go.Sx.Tryz
open Go Go.Sx Go.Proofs
set_option maxRecDepth 100000
set_option linter.unusedVariables false
noncomputable def c163 : Code := (Tryz.f163.body).getD .skip
def a163 : Ann := (.seq .leaf (.seq (.seq .leaf (.inn (.loop [(8, .one (.i .i64))] (.seq .leaf (.seq (.br .leaf .leaf) (.seq (.inn (.seq .leaf (.seq .leaf (.br (.seq .leaf .leaf) .leaf)))) .leaf)))))) (.seq .leaf .leaf)))
theorem ok163 : okC tab 19 true c163 a163 = true := by kernel_rfl
theorem vc163 (s_ : Sl) (f_ : Value) (h : Heap) (R : Value → Heap → Prop)
  (hv : ∃ (I1 : Int → Heap → Prop) (mu1 : Int → Heap → Nat), I1 0 h ∧ (∀ n1 : Int, ∀ h1, I1 n1 h1 → ∀ _ : Env,
   CondP (decide ((n1 : Int) < ((s_.l : Nat) : Int))) (
   ((0 : Int) ≤ n1 ∧ (n1 : Int) < ((s_.l : Nat) : Int)) ∧
   NilP s_.a (fun b1 o1 =>
   ∃ n2 : Int, ∃ n3 : Int, ∃ t1 : Bool, ∃ n4 : Int, ∃ n5 : Int, CellsAt h1 b1 (o1 + n1.toNat * 5) [.int .i64 n2, .int .u64 n3, .bool t1, .int .u64 n4, .int .u64 n5] ∧
   CallV Tryz.prog f_ [.agg #[.int .i64 n2, .int .u64 n3, .bool t1, .int .u64 n4, .int .u64 n5]] h1 (fun r1 h2 => ∃ t2 : Bool, r1 = .bool t2 ∧
   CondP t2 (
   R (.int .i64 n1) h2) (
   I1 (IntKind.i64.wrap (n1 + 1)) h2 ∧ mu1 (IntKind.i64.wrap (n1 + 1)) h2 < mu1 n1 h1)))) (
   R (.int .i64 (-1)) h1))) :
  CallsH Tryz.prog 163 #[.slice s_.a s_.l s_.c, f_] h R :=
  calls_of_vc tabOk mixed Tryz.func163 (c := c163) (by kernel_rfl) (n := 19) rfl (rs := [.tmp 4]) (by kernel_rfl) ok163 (args := [.slice s_.a s_.l s_.c, f_]) (Nat.le_of_ble_eq_true rfl) (Eq.mpr (by kernel_rfl) hv)
end Go.Sx.Tryz
namespace Go.Sx.Tryz
open Go Go.Sx Go.Proofs
set_option maxRecDepth 100000
set_option linter.unusedVariables false
noncomputable def c126 : Code := (Tryz.f126.body).getD .skip
def a126 : Ann := (.seq .leaf (.seq .leaf .leaf))
theorem ok126 : okC tab 8 true c126 a126 = true := by kernel_rfl
theorem vc126 (s_0 : Int) (s_1 : Int) (s_2 : Bool) (s_3 : Int) (s_4 : Int) (c0_b c0_o : Nat) (h : Heap) (R : Value → Heap → Prop)
  (hv : ∀ b1 h1, Fresh h (.cells #[.int .i64 s_0, .int .u64 s_1, .bool s_2, .int .u64 s_3, .int .u64 s_4] 107) b1 h1 →
   ∃ n1 : Int, cellH h1 b1 0 = some (.int .i64 n1) ∧
   ∃ n2 : Int, cellH h1 c0_b c0_o = some (.int .i64 n2) ∧
   R (.bool ((n1 : Int) == n2)) h1) :
  CallsH Tryz.prog 126 #[.agg #[.int .i64 s_0, .int .u64 s_1, .bool s_2, .int .u64 s_3, .int .u64 s_4], .pointer (some ⟨c0_b, c0_o, none⟩)] h R :=
  calls_of_vc tabOk mixed Tryz.func126 (c := c126) (by kernel_rfl) (n := 8) rfl (rs := [.tmp 3]) (by kernel_rfl) ok126 (args := [.agg #[.int .i64 s_0, .int .u64 s_1, .bool s_2, .int .u64 s_3, .int .u64 s_4], .pointer (some ⟨c0_b, c0_o, none⟩)]) (Nat.le_of_ble_eq_true rfl) (Eq.mpr (by kernel_rfl) hv)
end Go.Sx.Tryz
namespace Go.Sx.Tryz
open Go Go.Sx Go.Proofs
set_option maxRecDepth 100000
set_option linter.unusedVariables false
noncomputable def c87 : Code := (Tryz.f87.body).getD .skip
def a87 : Ann := (.seq .leaf (.seq .leaf .leaf))
theorem ok87 : okC tab 26 true c87 a87 = true := by kernel_rfl
theorem vc87 (j_b j_o : Nat) (file_ : Int) (b_ : Sl) (h : Heap) (R : Value → Heap → Prop)
  (hv : ∃ p1 : Option Addr, cellH h j_b j_o = some (.pointer p1) ∧
   CallsH Tryz.prog 121 #[.pointer p1, .int .i64 file_, .slice b_.a b_.l b_.c] h (fun r1 h1 => ∃ n1 : Int, r1 = .int .i64 n1 ∧
   CallsH Tryz.prog 98 #[.pointer (some ⟨j_b, j_o, none⟩), .int .i64 n1] h1 (fun r2 h2 => ∃ t1 : Bool, r2 = .bool t1 ∧
   CondP t1 (
   ∃ p2 : Option Addr, cellH h2 j_b j_o = some (.pointer p2) ∧
   CallsH Tryz.prog 102 #[.pointer p2, .int .i64 file_] h2 (fun r3 h3 => ∃ n2 : Int, r3 = .int .i64 n2 ∧
   CallsH Tryz.prog 98 #[.pointer (some ⟨j_b, j_o, none⟩), .int .i64 n2] h3 (fun r4 h4 => ∃ t2 : Bool, r4 = .bool t2 ∧
   R (.bool t2) h4))) (
   R (.bool false) h2)))) :
  CallsH Tryz.prog 87 #[.pointer (some ⟨j_b, j_o, none⟩), .int .i64 file_, .slice b_.a b_.l b_.c] h R :=
  calls_of_vc tabOk mixed Tryz.func87 (c := c87) (by kernel_rfl) (n := 26) rfl (rs := [.tmp 6]) (by kernel_rfl) ok87 (args := [.pointer (some ⟨j_b, j_o, none⟩), .int .i64 file_, .slice b_.a b_.l b_.c]) (Nat.le_of_ble_eq_true rfl) (Eq.mpr (by kernel_rfl) hv)
end Go.Sx.Tryz
namespace Go.Sx.Tryz
open Go Go.Sx Go.Proofs
set_option maxRecDepth 100000
set_option linter.unusedVariables false
noncomputable def c49 : Code := (Tryz.f49.body).getD .skip
def a49 : Ann := (.seq .leaf (.seq (.seq .leaf (.br (.seq .leaf .leaf) .leaf)) (.seq (.reg (.q 0 (.q 1 (.q 2 (.q 3 (.q 4 (.q 5 (.q 6 (.q 7 (.q 8 (.q 9 (.q 10 (.q 11 (.q 12 (.q 13 (.fin)))))))))))))))) .leaf)))
theorem ok49 : okC tab 18 true c49 a49 = true := by kernel_rfl
theorem vc49 (j_b j_o : Nat) (h : Heap) (R : Value → Heap → Prop)
  (hv : CallsH Tryz.prog 92 #[.pointer (some ⟨j_b, j_o, none⟩)] h (fun r1 h1 => ∃ t1 : Bool, r1 = .bool t1 ∧
   CondP t1 (
   R (.tuple #[.int .u64 0, .int .u64 0]) h1) (
   ∃ n1 : Int, cellH h1 j_b (j_o + 4) = some (.int .u64 n1) ∧
   ∃ n2 : Int, cellH h1 j_b (j_o + 4 + 1) = some (.int .u64 n2) ∧
   R (.tuple #[.int .u64 n1, .int .u64 n2]) h1))) :
  CallsH Tryz.prog 49 #[.pointer (some ⟨j_b, j_o, none⟩)] h R :=
  calls_of_vc tabOk mixed Tryz.func49 (c := c49) (by kernel_rfl) (n := 18) rfl (rs := [.tmp 2, .tmp 3]) (by kernel_rfl) ok49 (args := [.pointer (some ⟨j_b, j_o, none⟩)]) (Nat.le_of_ble_eq_true rfl) (Eq.mpr (by kernel_rfl) hv)
end Go.Sx.Tryz
namespace Go.Sx.Tryz
open Go Go.Sx Go.Proofs
set_option maxRecDepth 100000
set_option linter.unusedVariables false
noncomputable def c50 : Code := (Tryz.f50.body).getD .skip
def a50 : Ann := (.seq .leaf (.seq (.seq .leaf (.br (.seq .leaf .leaf) .leaf)) (.seq .leaf (.seq (.reg (.q 0 (.q 1 (.q 2 (.q 3 (.q 4 (.q 5 (.fin)))))))) .leaf))))
theorem ok50 : okC tab 15 true c50 a50 = true := by kernel_rfl
theorem vc50 (j_b j_o : Nat) (h : Heap) (R : Value → Heap → Prop)
  (hv : CallsH Tryz.prog 92 #[.pointer (some ⟨j_b, j_o, none⟩)] h (fun r1 h1 => ∃ t1 : Bool, r1 = .bool t1 ∧
   CondP t1 (
   R (.tuple #[.int .u64 0, .int .u64 0]) h1) (
   CallsH Tryz.prog 78 #[.pointer (some ⟨j_b, j_o + 4, none⟩)] h1 (fun r2 h2 => ∃ n1 : Int, ∃ n2 : Int, ∃ x1 : Sl, r2 = .agg #[.int .u64 n1, .int .u64 n2, .slice x1.a x1.l x1.c] ∧
   ∀ b1 h3, Fresh h2 (.cells #[.int .u64 0, .int .u64 0, .slice none 0 0] 85) b1 h3 →
   CanSt h3 b1 0 [.int .u64 n1, .int .u64 n2, .slice x1.a x1.l x1.c] ∧ ∀ h4, Stored h3 b1 0 [.int .u64 n1, .int .u64 n2, .slice x1.a x1.l x1.c] h4 →
   ∃ n3 : Int, cellH h4 b1 0 = some (.int .u64 n3) ∧
   ∃ n4 : Int, cellH h4 b1 1 = some (.int .u64 n4) ∧
   R (.tuple #[.int .u64 n3, .int .u64 n4]) h4)))) :
  CallsH Tryz.prog 50 #[.pointer (some ⟨j_b, j_o, none⟩)] h R :=
  calls_of_vc tabOk mixed Tryz.func50 (c := c50) (by kernel_rfl) (n := 15) rfl (rs := [.tmp 2, .tmp 3]) (by kernel_rfl) ok50 (args := [.pointer (some ⟨j_b, j_o, none⟩)]) (Nat.le_of_ble_eq_true rfl) (Eq.mpr (by kernel_rfl) hv)
end Go.Sx.Tryz
namespace Go.Sx.Tryz
open Go Go.Sx Go.Proofs
set_option maxRecDepth 100000
set_option linter.unusedVariables false
noncomputable def c53 : Code := (Tryz.f53.body).getD .skip
def a53 : Ann := (.seq .leaf (.seq .leaf .leaf))
theorem ok53 : okC tab 12 true c53 a53 = true := by kernel_rfl
theorem vc53 (j_b j_o : Nat) (h : Heap) (R : Value → Heap → Prop)
  (hv : CallsH Tryz.prog 92 #[.pointer (some ⟨j_b, j_o, none⟩)] h (fun r1 h1 => ∃ t1 : Bool, r1 = .bool t1 ∧
   CondP (!t1) (
   ∃ t2 : Bool, cellH h1 j_b (j_o + 9) = some (.bool t2) ∧
   R (.bool t2) h1) (
   R (.bool false) h1))) :
  CallsH Tryz.prog 53 #[.pointer (some ⟨j_b, j_o, none⟩)] h R :=
  calls_of_vc tabOk mixed Tryz.func53 (c := c53) (by kernel_rfl) (n := 12) rfl (rs := [.tmp 2]) (by kernel_rfl) ok53 (args := [.pointer (some ⟨j_b, j_o, none⟩)]) (Nat.le_of_ble_eq_true rfl) (Eq.mpr (by kernel_rfl) hv)
end Go.Sx.Tryz
namespace Go.Sx.Tryz
open Go Go.Sx Go.Proofs
set_option linter.unusedVariables false
structure Seg where
  file : Nat
  head : Hd
def segV1 (x : Seg) : List Value := .int .i64 (x.file : Int) :: hdV x.head
def segV (l : List Seg) : List Value := l.flatMap segV1
theorem segV1_len (x : Seg) : (segV1 x).length = 5 := rfl
theorem segV_len (l : List Seg) : (segV l).length = l.length * 5 := flat_len segV1_len l
def ownS (v : Sl) (l : List Seg) : Asn := own 107 5 v (segV l)
structure Jn where
  d : Nat
  first : Nat
  many : Nat
  each : Nat
  log : Lg
  segs : List Seg
  broken : Bool
def jcs (J : Jn) (ve vs : Sl) : List Value := [.pointer (some ⟨J.d, 0, none⟩), .int .i64 (J.first : Int), .int .i64 (J.many : Int), .int .i64 (J.each : Int)] ++ lgV J.log.fi J.log.ft ve ++ [.slice vs.a vs.l vs.c, .bool J.broken]
def jA (jb : Nat) (J : Jn) : Asn := exs fun x : Sl × Sl => st (lst jb 97 (jcs J x.1 x.2)) (st (ownE x.1 J.log.es) (ownS x.2 J.segs))
section
variable {H H' : Heap} {S : PH} {R : List Asn} {jb : Nat} {J : Jn}
theorem jA_open (hs : Sat H S (jA jb J :: R)) : ∃ ve vs, Sat H S (lst jb 97 (jcs J ve vs) :: ownE ve J.log.es :: ownS vs J.segs :: R) := by
  obtain ⟨⟨ve, vs⟩, hs⟩ := hs.open
  exact ⟨ve, vs, (hs.unst.swap.unst).sel [2]⟩
theorem jA_shut {ve vs : Sl} (hs : Sat H S (lst jb 97 (jcs J ve vs) :: ownE ve J.log.es :: ownS vs J.segs :: R)) : Sat H S (jA jb J :: R) := by
  refine Sat.shut (A := fun x : Sl × Sl => st (lst jb 97 (jcs J x.1 x.2)) (st (ownE x.1 J.log.es) (ownS x.2 J.segs))) (ve, vs) ?_
  exact ((hs.sel [1, 1]).mkst.swap).mkst
theorem ownS.len {v : Sl} {l : List Seg} (h : Sat H S (ownS v l :: R)) : v.l = l.length ∧ v.l ≤ v.c := by
  obtain ⟨h1, h2⟩ := own.len h
  rw [segV_len] at h1
  exact ⟨by omega, h2⟩
theorem ownS.at {v : Sl} {l : List Seg} (h : Sat H S (ownS v l :: R)) {k : Nat} (hk : k < l.length) : ∃ g, v.a = some ⟨g, 0, none⟩ ∧ CellsAt H g (0 + k * 5) (segV1 l[k]) := by
  obtain ⟨g, h1, h2⟩ := own.cells h (by rw [segV_len]; omega)
  have := cells_sub h2 (k * 5) 5
  rw [segV, flat_at segV1_len hk] at this
  exact ⟨g, h1, this⟩
def Jn.note (J : Jn) (e : Nat) : Jn := { J with broken := J.broken || e != 0 }
theorem done_spec {e : Nat} (hs : Sat H S (jA jb J :: R)) {K : Value → Heap → Prop} (hK : ∀ H', Sat H' S (jA jb (J.note e) :: R) → K (.bool (e == 0)) H') : CallsH Tryz.prog 98 #[.pointer (some ⟨jb, 0, none⟩), .int .i64 (e : Int)] H K := by
  apply vc98
  obtain ⟨ve, vs, hs1⟩ := jA_open hs
  have eb : ((e : Int) == 0) = (e == 0) := by have := beq_nat_int e 0; simpa using this
  have en : ((e : Int) != 0) = (e != 0) := by show (!((e : Int) == 0)) = !(e == 0); rw [eb]
  rw [eb, en]
  refine ⟨_, hs1.cell 9 rfl, CondP.of (fun hc => ?_) (fun hc => ?_)⟩
  · refine hs1.store (by simp [jcs, lgV]) fun h1 hs2 => hK h1 (jA_shut (J := J.note e) (ve := ve) (vs := vs) ?_)
    have e1 : (J.note e).broken = true := by show (J.broken || _) = true; rw [hc]; rfl
    show Sat h1 S (lst jb 97 (jcs (J.note e) ve vs) :: _)
    have e2 : jcs (J.note e) ve vs = putL (jcs J ve vs) 9 [.bool true] := by
      unfold jcs
      rw [e1]; rfl
    rw [e2]; exact hs2
  · refine hs1.store (by simp [jcs, lgV]) fun h1 hs2 => hK h1 (jA_shut (J := J.note e) (ve := ve) (vs := vs) ?_)
    have e1 : (J.note e).broken = (e != 0) := by show (J.broken || _) = _; rw [hc]; rfl
    have e2 : jcs (J.note e) ve vs = putL (jcs J ve vs) 9 [.bool (e != 0)] := by
      unfold jcs
      rw [e1]; rfl
    rw [e2]; exact hs2
theorem none_spec (hs : Sat H S (jA jb J :: R)) {K : Value → Heap → Prop} (hK : K (.bool false) H) : CallsH Tryz.prog 92 #[.pointer (some ⟨jb, 0, none⟩)] H K := by
  apply vc92
  obtain ⟨ve, vs, hs1⟩ := jA_open hs
  exact ⟨_, hs1.cell 0 rfl, hK⟩
theorem ready_spec (hs : Sat H S (jA jb J :: R)) {K : Value → Heap → Prop} (hK : K (.int .i64 ((if J.broken = true then 70 else 0 : Nat) : Int)) H) : CallsH Tryz.prog 77 #[.pointer (some ⟨jb, 0, none⟩)] H K := by
  apply vc77
  refine none_spec hs ⟨_, rfl, CondP.of (fun hc => by cases hc) fun _ => ?_⟩
  obtain ⟨ve, vs, hs1⟩ := jA_open hs
  exact ⟨_, hs1.cell 9 rfl, CondP.of (fun hc => by rw [if_pos hc] at hK; exact hK) fun hc => by rw [if_neg (by rw [hc]; simp)] at hK; exact hK⟩
theorem answer_spec (hs : Sat H S (jA jb J :: R)) {K : Value → Heap → Prop} (hK : K (.int .i64 ((if J.broken = true then 70 else 0 : Nat) : Int)) H) : CallsH Tryz.prog 91 #[.pointer (some ⟨jb, 0, none⟩)] H K := by
  apply vc91
  obtain ⟨ve, vs, hs1⟩ := jA_open hs
  exact ⟨_, hs1.cell 9 rfl, CondP.of (fun hc => by rw [if_pos hc] at hK; exact hK) fun hc => by rw [if_neg (by rw [hc]; simp)] at hK; exact hK⟩
theorem broken_spec (hs : Sat H S (jA jb J :: R)) {K : Value → Heap → Prop} (hK : K (.bool J.broken) H) : CallsH Tryz.prog 53 #[.pointer (some ⟨jb, 0, none⟩)] H K := by
  apply vc53
  refine none_spec hs ⟨_, rfl, CondP.of (fun _ => ?_) fun hc => by cases hc⟩
  obtain ⟨ve, vs, hs1⟩ := jA_open hs
  exact ⟨_, hs1.cell 9 rfl, hK⟩
theorem floor_spec (hs : Sat H S (jA jb J :: R)) {K : Value → Heap → Prop} (hK : K (.tuple #[.int .u64 (J.log.fi : Int), .int .u64 (J.log.ft : Int)]) H) : CallsH Tryz.prog 49 #[.pointer (some ⟨jb, 0, none⟩)] H K := by
  apply vc49
  refine none_spec hs ⟨_, rfl, CondP.of (fun hc => by cases hc) fun _ => ?_⟩
  obtain ⟨ve, vs, hs1⟩ := jA_open hs
  exact ⟨_, hs1.cell 4 rfl, _, hs1.cell 5 rfl, hK⟩
theorem lastJ_spec (hs : Sat H S (jA jb J :: R)) (hlen : J.log.es.length < 1000000000) {K : Value → Heap → Prop} (hK : ∀ H', Sat H' S (jA jb J :: R) → K (.tuple #[.int .u64 (J.log.last.1.i : Int), .int .u64 (J.log.last.1.t : Int)]) H') : CallsH Tryz.prog 50 #[.pointer (some ⟨jb, 0, none⟩)] H K := by
  apply vc50
  refine none_spec hs ⟨_, rfl, CondP.of (fun hc => by cases hc) fun _ => ?_⟩
  obtain ⟨ve, vs, hs1⟩ := jA_open hs
  refine last_spec (pre := [.pointer (some ⟨J.d, 0, none⟩), .int .i64 (J.first : Int), .int .i64 (J.many : Int), .int .i64 (J.each : Int)]) (post := [.slice vs.a vs.l vs.c, .bool J.broken]) hs1 hlen fun h2 hs2 => ⟨_, _, _, rfl, ?_⟩
  intro b1 h3 f3
  have hs3 := hs2.fresh f3
  refine Sat.store (T := 85) (l := [.int .u64 0, .int .u64 0, .slice none 0 0]) hs3 (Nat.le_refl _) fun h4 hs4 => ?_
  have hs4 : Sat h4 S (lst b1 85 (eV J.log.last) :: lst jb 97 (jcs J ve vs) :: ownE ve J.log.es :: ownS vs J.segs :: R) := hs4
  exact ⟨_, hs4.cell 0 rfl, _, hs4.cell 1 rfl, hK h4 (jA_shut hs4.drop)⟩
theorem current_spec (hs : Sat H S (jA jb J :: R)) {k : Nat} (hk : J.segs.length = k + 1) (hlen : k < 1000000) {K : Value → Heap → Prop} (hK : K (.int .i64 ((J.segs[k]'(by omega)).file : Int)) H) : CallsH Tryz.prog 85 #[.pointer (some ⟨jb, 0, none⟩)] H K := by
  apply vc85
  obtain ⟨ve, vs, hs1⟩ := jA_open hs
  have hl := (ownS.len (hs1.pick 2 rfl)).1
  have hc := hs1.cell 8 (v := .slice vs.a vs.l vs.c) rfl
  have e : IntKind.i64.wrap (((vs.l : Nat) : Int) - 1) = (k : Int) := by rw [i64_in (by omega) (by omega)]; omega
  refine ⟨vs, hc, vs, hc, ?_⟩
  rw [e]
  obtain ⟨g, ga, gc⟩ := ownS.at (hs1.pick 2 rfl) (k := k) (by omega)
  refine ⟨⟨by omega, by omega⟩, NilP.of ga ⟨_, ?_, hK⟩⟩
  have := gc.get 0 _ rfl
  simpa using this
def Jn.write (J : Jn) (D : Dk) (f : Nat) (xs : List UInt8) : Bool × Dk × Jn :=
  let a := D.app f xs
  if a.1 = 0 then ((a.2.syn f).1 == 0, (a.2.syn f).2, (J.note a.1).note (a.2.syn f).1) else (false, a.2, J.note a.1)
theorem write_spec {D : Dk} {f : Nat} {x : Sl} {xs : List UInt8} (hf : f < 32) (hs : Sat H S (jA jb J :: dsk J.d D :: R)) (hx : RdB S x xs) (hlen : xs.length < 1000000000)
    {K : Value → Heap → Prop} (hK : ∀ H', Sat H' S (jA jb (J.write D f xs).2.2 :: dsk J.d (J.write D f xs).2.1 :: R) → K (.bool (J.write D f xs).1) H') : CallsH Tryz.prog 87 #[.pointer (some ⟨jb, 0, none⟩), .int .i64 (f : Int), .slice x.a x.l x.c] H K := by
  apply vc87
  obtain ⟨ve, vs, hs1⟩ := jA_open hs
  refine ⟨_, hs1.cell 0 rfl, ?_⟩
  refine app_spec hf hs.swap hx hlen fun h1 hs2 => ⟨_, rfl, done_spec hs2.swap fun h2 hs3 => ⟨_, rfl, CondP.of (fun hc => ?_) (fun hc => ?_)⟩⟩
  · have h0 : (D.app f xs).1 = 0 := by simpa using hc
    have e : J.write D f xs = (((D.app f xs).2.syn f).1 == 0, ((D.app f xs).2.syn f).2, (J.note (D.app f xs).1).note ((D.app f xs).2.syn f).1) := by rw [Jn.write, if_pos h0]
    obtain ⟨ve', vs', hs4⟩ := jA_open hs3
    refine ⟨_, hs4.cell 0 rfl, syn_spec hf hs3.swap fun h3 hs5 => ⟨_, rfl, done_spec hs5.swap fun h4 hs6 => ⟨_, rfl, ?_⟩⟩⟩
    have := hK h4 (by rw [e]; exact hs6)
    rw [e] at this; exact this
  · have h0 : ¬ (D.app f xs).1 = 0 := by simpa using hc
    have e : J.write D f xs = (false, (D.app f xs).2, J.note (D.app f xs).1) := by rw [Jn.write, if_neg h0]
    have := hK h2 (by rw [e]; exact hs3)
    rw [e] at this; exact this
end
end Go.Sx.Tryz
namespace Go.Sx.Tryz
open Go Go.Sx Go.Proofs
set_option linter.unusedVariables false
section
variable {H H' : Heap} {S : PH} {R : List Asn} {jb : Nat} {J : Jn}
theorem indexS_spec {v : Sl} {l : List Seg} {f : Value} {p : Seg → Bool} (hs : Sat H S (ownS v l :: R)) (hlen : l.length < 1000000)
    (hf : ∀ x ∈ l, ∀ h (K : Value → Heap → Prop), Sat h S (ownS v l :: R) → (∀ h', Sat h' S (ownS v l :: R) → K (.bool (p x)) h') → CallV Tryz.prog f [.agg (segV1 x).toArray] h K)
    {K : Value → Heap → Prop} (hK : ∀ h', Sat h' S (ownS v l :: R) → K (.bool (l.any p)) h') : CallsH Tryz.prog 125 #[.slice v.a v.l v.c, f] H K := by
  apply vc125
  apply vc163
  obtain ⟨hl, _⟩ := ownS.len hs
  refine ⟨fun n h => ∃ i : Nat, n = i ∧ i ≤ l.length ∧ (∀ j (hj : j < l.length), j < i → p l[j] = false) ∧ Sat h S (ownS v l :: R), fun n _ => l.length - n.toNat, ⟨0, rfl, Nat.zero_le _, fun j _ h => by omega, hs⟩, ?_⟩
  rintro n h1 ⟨i, rfl, hi, hp, hs1⟩ _
  refine CondP.of (fun hc => ?_) (fun hc => ?_)
  · have hc : i < l.length := by simp at hc; omega
    refine ⟨⟨by omega, by omega⟩, ?_⟩
    obtain ⟨g, ga, gc⟩ := ownS.at hs1 hc
    refine NilP.of ga ⟨_, _, _, _, _, gc, ?_⟩
    refine hf l[i] (List.getElem_mem hc) h1 _ hs1 fun h2 hs2 => ⟨_, rfl, CondP.of (fun ht => ⟨_, rfl, ?_⟩) (fun ht => ?_)⟩
    · have : l.any p = true := List.any_eq_true.2 ⟨l[i], List.getElem_mem hc, ht⟩
      have h3 := hK h2 hs2
      rw [this] at h3
      rw [decide_eq_true (by omega : (i : Int) ≥ 0)]; exact h3
    · refine ⟨⟨i + 1, i64_succ (by omega), hc, fun j hj hji => ?_, hs2⟩, ?_⟩
      · rcases Nat.lt_or_ge j i with h | h
        · exact hp j hj h
        · have : j = i := by omega
          subst this; exact ht
      · show l.length - (IntKind.i64.wrap ((i : Int) + 1)).toNat < l.length - i
        rw [i64_succ (by omega)]; show l.length - (i + 1) < _; omega
  · have hc : i = l.length := by simp at hc; omega
    subst hc
    have : l.any p = false := by
      rw [List.any_eq_false]
      intro x hx
      obtain ⟨j, hj, rfl⟩ := List.getElem_of_mem hx
      rw [hp j hj hj]; simp
    have h3 := hK h1 hs1
    rw [this] at h3
    exact ⟨_, rfl, h3⟩
def Jn.freeL (J : Jn) (k : Nat) : List Nat := ((List.range k).map (J.first + ·)).filter fun n => !(J.segs.any fun x => x.file == n)
def Jn.full (J : Jn) : Bool := match J.segs.getLast? with | some x => decide (MaxI ≤ x.head.serial) | none => false
def Jn.free (J : Jn) : List Nat := if J.full = true then [] else J.freeL J.many
theorem freeL_succ (J : Jn) (k : Nat) : J.freeL (k + 1) = J.freeL k ++ (if (J.segs.any fun x => x.file == J.first + k) = true then [] else [J.first + k]) := by
  unfold Jn.freeL
  rw [List.range_succ, List.map_append, List.filter_append]
  simp only [List.map_cons, List.map_nil, List.filter_cons, List.filter_nil]
  congr 1
  cases J.segs.any fun x => x.file == J.first + k <;> simp
theorem freeL_len (J : Jn) (k : Nat) : (J.freeL k).length ≤ k := by
  have := List.length_filter_le (fun n => !(J.segs.any fun x => x.file == n)) ((List.range k).map (J.first + ·))
  simp only [List.length_map, List.length_range] at this
  exact this
theorem free_spec (hs : Sat H S (jA jb J :: R)) (hb : J.first + J.many ≤ 32) (hsl : J.segs.length < 1000000)
    {K : Value → Heap → Prop} (hK : ∀ (x : Sl) H', Sat H' S (ownI x J.free :: jA jb J :: R) → K (.slice x.a x.l x.c) H') : CallsH Tryz.prog 86 #[.pointer (some ⟨jb, 0, none⟩)] H K := by
  apply vc86
  obtain ⟨ve, vs, hs1⟩ := jA_open hs
  have hl := (ownS.len (hs1.pick 2 rfl)).1
  have hc8 := hs1.cell 8 (v := .slice vs.a vs.l vs.c) rfl
  refine ⟨vs, hc8, fun t h => t = J.full ∧ h = H, ?_, ?_⟩
  · rintro t h1 ⟨rfl, rfl⟩ _
    refine CondP.of (fun hc => ?_) (fun hc => ?_)
    · have e : J.free = [] := by rw [Jn.free, if_pos hc]
      have := hK ⟨none, 0, 0⟩ h1 (by rw [e]; exact own.new 3 1 hs)
      exact this
    have e : J.free = J.freeL J.many := by rw [Jn.free, if_neg (by rw [hc]; simp)]
    refine ⟨_, hs1.cell 1 rfl, ?_⟩
    intro b1 h2 f2
    have hs2 : Sat h2 S (lst b1 3 [.int .i64 0] :: jA jb J :: R) := hs.fresh f2
    refine hs2.store (Nat.le_refl _) fun h3 hs3 => ?_
    have hs3 : Sat h3 S (lst b1 3 [.int .i64 ((J.first + 0 : Nat) : Int)] :: jA jb J :: R) := hs3
    refine ⟨fun x p h => ∃ k b : Nat, p = some ⟨b, 0, none⟩ ∧ k ≤ J.many ∧ Sat h S (ownI x (J.freeL k) :: lst b 3 [.int .i64 ((J.first + k : Nat) : Int)] :: jA jb J :: R),
      fun x p h => match p with | some a => (match cellH h a.block 0 with | some (.int _ n) => ((J.first + J.many : Nat) : Int).toNat - n.toNat | _ => 0) | none => 0, ⟨0, b1, rfl, Nat.zero_le _, own.new 3 1 hs3⟩, ?_⟩
    rintro x p h4 ⟨k, b, rfl, hk, hs4⟩ _
    have c1 := (hs4.pick 1 rfl).cell 0 (v := .int .i64 ((J.first + k : Nat) : Int)) rfl
    obtain ⟨ve4, vs4, hs5⟩ := jA_open (hs4.pick 2 rfl)
    refine NilP.of rfl ⟨_, c1, _, hs5.cell 1 rfl, _, hs5.cell 2 rfl, ?_⟩
    rw [i64_add (by omega)]
    have hfl := freeL_len J k
    refine CondP.of (fun hc => ?_) (fun hc => ?_)
    · have hk' : k < J.many := by simp at hc; omega
      refine ⟨vs4, hs5.cell 8 rfl, ?_⟩
      have hs6 := hs5.pick 2 rfl
      have hs6 : Sat h4 S (ownS vs4 J.segs :: lst jb 97 (jcs J ve4 vs4) :: ownE ve4 J.log.es :: ownI x (J.freeL k) :: lst b 3 [.int .i64 ((J.first + k : Nat) : Int)] :: R) := hs6
      refine indexS_spec (p := fun y => y.file == J.first + k) hs6 hsl (fun y hy h K' hs' hK' => ?_) fun h5 hs7 => ?_
      · refine .inl ⟨126, #[], _, rfl, call126, vc126 _ _ _ _ _ b 0 _ _ ?_⟩
        intro b3 h6 f3
        have hs8 := hs'.fresh f3
        have hs8 : Sat h6 S (lst b3 107 (segV1 y) :: ownS vs4 J.segs :: lst jb 97 (jcs J ve4 vs4) :: ownE ve4 J.log.es :: ownI x (J.freeL k) :: lst b 3 [.int .i64 ((J.first + k : Nat) : Int)] :: R) := hs8
        refine ⟨_, hs8.cell 0 rfl, _, (hs8.pick 5 rfl).cell 0 rfl, ?_⟩
        rw [beq_nat_int]
        exact hK' h6 hs8.drop
      · have hs7 : Sat h5 S (ownS vs4 J.segs :: lst jb 97 (jcs J ve4 vs4) :: ownE ve4 J.log.es :: ownI x (J.freeL k) :: lst b 3 [.int .i64 ((J.first + k : Nat) : Int)] :: R) := hs7
        have hs9 := jA_shut (hs7.sel [1, 1])
        have hs9 : Sat h5 S (jA jb J :: ownI x (J.freeL k) :: lst b 3 [.int .i64 ((J.first + k : Nat) : Int)] :: R) := hs9
        have next : ∀ (x' : Sl) (h : Heap), Sat h S (ownI x' (J.freeL (k + 1)) :: lst b 3 [.int .i64 ((J.first + k : Nat) : Int)] :: jA jb J :: R) →
            NilP (some ⟨b, 0, none⟩) (fun b5 o3 => ∃ n6 : Int, cellH h b5 o3 = some (.int .i64 n6) ∧ ∀ b6 h8, Fresh h (.cells #[.int .i64 0] 3) b6 h8 →
              CanSt h8 b6 0 [.int .i64 n6] ∧ ∀ h9, Stored h8 b6 0 [.int .i64 n6] h9 → ∃ n7 : Int, cellH h9 b6 0 = some (.int .i64 n7) ∧
              CanSt h9 b6 0 [.int .i64 (IntKind.i64.wrap (n7 + 1))] ∧ ∀ h10, Stored h9 b6 0 [.int .i64 (IntKind.i64.wrap (n7 + 1))] h10 →
              (∃ k b : Nat, some (⟨b6, 0, none⟩ : Addr) = some ⟨b, 0, none⟩ ∧ k ≤ J.many ∧ Sat h10 S (ownI x' (J.freeL k) :: lst b 3 [.int .i64 ((J.first + k : Nat) : Int)] :: jA jb J :: R)) ∧
              (match cellH h10 b6 0 with | some (.int _ n) => ((J.first + J.many : Nat) : Int).toNat - n.toNat | _ => 0) < (match cellH h4 b 0 with | some (.int _ n) => ((J.first + J.many : Nat) : Int).toNat - n.toNat | _ => 0)) := by
          intro x' h hs10
          refine NilP.of rfl ⟨_, (hs10.pick 1 rfl).cell 0 rfl, ?_⟩
          intro b6 h8 f6
          have hs11 : Sat h8 S (lst b6 3 [.int .i64 0] :: ownI x' (J.freeL (k + 1)) :: lst b 3 [.int .i64 ((J.first + k : Nat) : Int)] :: jA jb J :: R) := hs10.fresh f6
          refine hs11.store (Nat.le_refl _) fun h9 hs12 => ?_
          have hs12 : Sat h9 S (lst b6 3 [.int .i64 ((J.first + k : Nat) : Int)] :: ownI x' (J.freeL (k + 1)) :: lst b 3 [.int .i64 ((J.first + k : Nat) : Int)] :: jA jb J :: R) := hs12
          refine ⟨_, hs12.cell 0 rfl, ?_⟩
          rw [i64_succ (by omega)]
          refine hs12.store (Nat.le_refl _) fun h10 hs13 => ?_
          have hs13 : Sat h10 S (lst b6 3 [.int .i64 ((J.first + (k + 1) : Nat) : Int)] :: ownI x' (J.freeL (k + 1)) :: lst b 3 [.int .i64 ((J.first + k : Nat) : Int)] :: jA jb J :: R) := hs13
          refine ⟨⟨k + 1, b6, rfl, hk', (hs13.sel [1]).del 2⟩, ?_⟩
          rw [hs13.cell 0 (v := .int .i64 ((J.first + (k + 1) : Nat) : Int)) rfl, c1]
          simp only [Int.toNat_natCast]
          omega
        refine ⟨_, rfl, CondP.of (fun ha => ?_) (fun ha => ?_)⟩
        · have ha : (J.segs.any fun y => y.file == J.first + k) = false := by simpa using ha
          have e2 : J.freeL (k + 1) = J.freeL k ++ [J.first + k] := by rw [freeL_succ, if_neg (by rw [ha]; simp)]
          refine NilP.of rfl ⟨_, (hs9.pick 2 rfl).cell 0 rfl, ?_⟩
          intro b4 h6 f4
          have hs10 : Sat h6 S (lst b4 3 (iV [J.first + k]) :: jA jb J :: ownI x (J.freeL k) :: lst b 3 [.int .i64 ((J.first + k : Nat) : Int)] :: R) := hs9.fresh f4
          have hxl := (ownI.len (hs10.pick 2 rfl)).1
          refine append_one el45 (v := x) (xs := iV (J.freeL k)) (hs10.sel [0, 1]) rfl (iV_one _) (by omega) (by unfold maxLen; omega) fun x' h7 hx' hs11 => ?_
          have e3 : iV (J.freeL k) ++ iV [J.first + k] = iV (J.freeL (k + 1)) := by rw [e2]; simp [iV]
          rw [e3] at hs11
          exact next x' h7 (hs11.sel [0, 1])
        · have ha : (J.segs.any fun y => y.file == J.first + k) = true := by simpa using ha
          have e2 : J.freeL (k + 1) = J.freeL k := by rw [freeL_succ, if_pos ha, List.append_nil]
          exact next x h5 (by rw [e2]; exact hs9.sel [1, 1])
    · have hk' : k = J.many := by simp at hc; omega
      subst hk'
      exact hK x h4 (by rw [e]; exact hs4.del 1)
  · refine CondP.of (fun hc => ⟨vs, hc8, ?_⟩) (fun hc => ?_)
    · have h0 : 0 < J.segs.length := by simp at hc; omega
      obtain ⟨k, hk⟩ : ∃ k, J.segs.length = k + 1 := ⟨J.segs.length - 1, by omega⟩
      have ew : IntKind.i64.wrap (((vs.l : Nat) : Int) - 1) = (k : Int) := by rw [i64_in (by omega) (by omega)]; omega
      rw [ew]
      obtain ⟨g, ga, gc⟩ := ownS.at (hs1.pick 2 rfl) (k := k) (by omega)
      refine ⟨⟨by omega, by omega⟩, NilP.of ga ⟨((J.segs[k]'(by omega)).head.serial : Int), ?_, ?_, rfl⟩⟩
      · have := gc.get 1 _ rfl
        simpa using this
      · have : J.full = decide (MaxI ≤ (J.segs[k]'(by omega)).head.serial) := by
          unfold Jn.full
          rw [List.getLast?_eq_getElem?, show J.segs.length - 1 = k by omega, List.getElem?_eq_getElem (by omega)]
        rw [this]
        exact decide_eq_decide.2 (by unfold MaxI; omega)
    · have h0 : J.segs = [] := List.eq_nil_of_length_eq_zero (by simp at hc; omega)
      exact ⟨by rw [Jn.full, h0]; rfl, rfl⟩
end
end Go.Sx.Tryz
namespace Go.Sx.Tryz
open Go Go.Sx Go.Proofs
set_option maxRecDepth 100000
set_option linter.unusedVariables false
noncomputable def c42 : Code := (Tryz.f42.body).getD .skip
def a42 : Ann := (.seq .leaf (.seq .leaf (.seq (.seq .leaf (.br (.seq .leaf .leaf) .leaf)) (.seq .leaf (.join [] (.seq .leaf (.br (.reg (.q 0 (.q 1 (.q 2 (.q 3 (.q 4 (.q 5 (.q 6 (.q 7 (.q 8 (.q 9 (.q 10 (.q 11 (.q 12 (.q 13 (.q 14 (.q 15 (.m 16 (.fin) (.nil))))))))))))))))))) .leaf)) (.seq .leaf (.seq .leaf (.seq .leaf (.seq .leaf (.seq .leaf (.seq (.seq .leaf (.br (.seq .leaf .leaf) .leaf)) (.seq (.reg (.q 0 (.q 1 (.q 2 (.q 3 (.q 4 (.q 5 (.q 6 (.q 7 (.m 8 (.m 9 (.q 10 (.q 11 (.m 12 (.fin) (.nil)))) (.nil)) (.nil))))))))))) (.seq .leaf .leaf)))))))))))))
theorem ok42 : okC tab 75 true c42 a42 = true := by kernel_rfl
theorem vc42 (j_b j_o : Nat) (h_0 : Int) (h_1 : Bool) (h_2 : Int) (h_3 : Int) (h : Heap) (R : Value → Heap → Prop)
  (hv : ∀ b1 h1, Fresh h (.cells #[.int .u64 h_0, .bool h_1, .int .u64 h_2, .int .u64 h_3] 103) b1 h1 →
   CallsH Tryz.prog 86 #[.pointer (some ⟨j_b, j_o, none⟩)] h1 (fun r1 h2 => ∃ x1 : Sl, r1 = .slice x1.a x1.l x1.c ∧
   CondP ((((x1.l : Nat) : Int) : Int) == 0) (
   R (.bool false) h2) (
   ((0 : Int) ≤ 0 ∧ (0 : Int) < ((x1.l : Nat) : Int)) ∧
   NilP x1.a (fun b2 o1 =>
   ∃ n1 : Int, cellH h2 b2 o1 = some (.int .i64 n1) ∧
   ∃ J1 : Heap → Prop, (∀ h3, J1  h3 → ∀ _ : Env,
   ∀ b3 h4, Fresh h3 (.cells #[.slice none 0 0] 145) b3 h4 →
   ∃ n2 : Int, cellH h4 b1 0 = some (.int .u64 n2) ∧
   ∀ b4 h5, Fresh h4 (.cells #[.int .u64 n2] 32) b4 h5 →
   CallsH Tryz.prog 80 #[.pointer (some ⟨b3, 0, none⟩), .slice (some ⟨b4, 0, none⟩) 1 1] h5 (fun r2 h6 => r2 = .tuple #[] ∧
   ∃ t1 : Bool, cellH h6 b1 1 = some (.bool t1) ∧
   CallsH Tryz.prog 104 #[.pointer (some ⟨b3, 0, none⟩), .bool t1] h6 (fun r3 h7 => r3 = .tuple #[] ∧
   ∃ n3 : Int, cellH h7 b1 2 = some (.int .u64 n3) ∧
   ∃ n4 : Int, cellH h7 b1 3 = some (.int .u64 n4) ∧
   ∀ b5 h8, Fresh h7 (.cells #[.int .u64 n3, .int .u64 n4] 32) b5 h8 →
   CallsH Tryz.prog 80 #[.pointer (some ⟨b3, 0, none⟩), .slice (some ⟨b5, 0, none⟩) 2 2] h8 (fun r4 h9 => r4 = .tuple #[] ∧
   CallsH Tryz.prog 83 #[.pointer (some ⟨b3, 0, none⟩)] h9 (fun r5 h10 => ∃ x2 : Sl, r5 = .slice x2.a x2.l x2.c ∧
   CallsH Tryz.prog 82 #[.int .u8 1, .slice x2.a x2.l x2.c] h10 (fun r6 h11 => ∃ x3 : Sl, ∃ n5 : Int, r6 = .tuple #[.slice x3.a x3.l x3.c, .int .i64 n5] ∧
   CallsH Tryz.prog 87 #[.pointer (some ⟨j_b, j_o, none⟩), .int .i64 n1, .slice x3.a x3.l x3.c] h11 (fun r7 h12 => ∃ t2 : Bool, r7 = .bool t2 ∧
   CondP (!t2) (
   R (.bool false) h12) (
   ∃ x4 : Sl, cellH h12 j_b (j_o + 8) = some (.slice x4.a x4.l x4.c) ∧
   ∃ n6 : Int, ∃ t3 : Bool, ∃ n7 : Int, ∃ n8 : Int, CellsAt h12 b1 0 [.int .u64 n6, .bool t3, .int .u64 n7, .int .u64 n8] ∧
   ∀ b6 h13, Fresh h12 (.cells #[.int .i64 n1, .int .u64 n6, .bool t3, .int .u64 n7, .int .u64 n8] 107) b6 h13 →
   cellH h13 j_b (j_o + 8) = some (.slice x4.a x4.l x4.c) ∧
   RunK Tryz.prog (.sl) (Builtin.append_ #[95, 95] 95 #[.slice x4.a x4.l x4.c, .slice (some ⟨b6, 0, none⟩) 1 1]) h13 (fun x5 h14 =>
   CanSt h14 j_b (j_o + 8) [.slice x5.a x5.l x5.c] ∧ ∀ h15, Stored h14 j_b (j_o + 8) [.slice x5.a x5.l x5.c] h15 →
   R (.bool true) h15))))))))) ∧
   ∃ x6 : Sl, cellH h2 j_b (j_o + 8) = some (.slice x6.a x6.l x6.c) ∧
   CondP (decide ((((x6.l : Nat) : Int) : Int) > 0)) (
   ∃ x7 : Sl, cellH h2 j_b (j_o + 8) = some (.slice x7.a x7.l x7.c) ∧
   ∃ x8 : Sl, cellH h2 j_b (j_o + 8) = some (.slice x8.a x8.l x8.c) ∧
   ((0 : Int) ≤ IntKind.i64.wrap (((x8.l : Nat) : Int) - 1) ∧ (IntKind.i64.wrap (((x8.l : Nat) : Int) - 1) : Int) < ((x7.l : Nat) : Int)) ∧
   NilP x7.a (fun b7 o2 =>
   ∃ n9 : Int, cellH h2 b7 (o2 + ((IntKind.i64.wrap (((x8.l : Nat) : Int) - 1)).toNat) * 5 + 1) = some (.int .u64 n9) ∧
   CanSt h2 b1 0 [.int .u64 (IntKind.u64.wrap (n9 + 1))] ∧ ∀ h16, Stored h2 b1 0 [.int .u64 (IntKind.u64.wrap (n9 + 1))] h16 →
   J1  h16)) (
   J1  h2))))) :
  CallsH Tryz.prog 42 #[.pointer (some ⟨j_b, j_o, none⟩), .agg #[.int .u64 h_0, .bool h_1, .int .u64 h_2, .int .u64 h_3]] h R :=
  calls_of_vc tabOk mixed Tryz.func42 (c := c42) (by kernel_rfl) (n := 75) rfl (rs := [.tmp 4]) (by kernel_rfl) ok42 (args := [.pointer (some ⟨j_b, j_o, none⟩), .agg #[.int .u64 h_0, .bool h_1, .int .u64 h_2, .int .u64 h_3]]) (Nat.le_of_ble_eq_true rfl) (Eq.mpr (by kernel_rfl) hv)
end Go.Sx.Tryz
namespace Go.Sx.Tryz
open Go Go.Sx Go.Proofs
set_option maxRecDepth 100000
set_option linter.unusedVariables false
noncomputable def c90 : Code := (Tryz.f90.body).getD .skip
def a90 : Ann := (.seq .leaf (.seq (.inn (.seq .leaf (.br (.seq .leaf .leaf) (.seq .leaf (.br (.seq .leaf .leaf) .leaf))))) (.seq .leaf .leaf)))
theorem ok90 : okC tab 15 true c90 a90 = true := by kernel_rfl
theorem vc90 (j_b j_o : Nat) (h_0 : Int) (h_1 : Bool) (h_2 : Int) (h_3 : Int) (h : Heap) (R : Value → Heap → Prop)
  (hv : ∀ b1 h1, Fresh h (.cells #[.int .u64 h_0, .bool h_1, .int .u64 h_2, .int .u64 h_3] 103) b1 h1 →
   CallsH Tryz.prog 86 #[.pointer (some ⟨j_b, j_o, none⟩)] h1 (fun r1 h2 => ∃ x1 : Sl, r1 = .slice x1.a x1.l x1.c ∧
   CondP ((((x1.l : Nat) : Int) : Int) == 0) (
   R (.int .i64 50) h2) (
   ∃ n1 : Int, ∃ t1 : Bool, ∃ n2 : Int, ∃ n3 : Int, CellsAt h2 b1 0 [.int .u64 n1, .bool t1, .int .u64 n2, .int .u64 n3] ∧
   CallsH Tryz.prog 42 #[.pointer (some ⟨j_b, j_o, none⟩), .agg #[.int .u64 n1, .bool t1, .int .u64 n2, .int .u64 n3]] h2 (fun r2 h3 => ∃ t2 : Bool, r2 = .bool t2 ∧
   CondP (!t2) (
   R (.int .i64 70) h3) (
   R (.int .i64 0) h3))))) :
  CallsH Tryz.prog 90 #[.pointer (some ⟨j_b, j_o, none⟩), .agg #[.int .u64 h_0, .bool h_1, .int .u64 h_2, .int .u64 h_3]] h R :=
  calls_of_vc tabOk mixed Tryz.func90 (c := c90) (by kernel_rfl) (n := 15) rfl (rs := [.tmp 4]) (by kernel_rfl) ok90 (args := [.pointer (some ⟨j_b, j_o, none⟩), .agg #[.int .u64 h_0, .bool h_1, .int .u64 h_2, .int .u64 h_3]]) (Nat.le_of_ble_eq_true rfl) (Eq.mpr (by kernel_rfl) hv)
end Go.Sx.Tryz
namespace Go.Sx.Tryz
open Go Go.Sx Go.Proofs
set_option linter.unusedVariables false
section
variable {H H' : Heap} {S : PH} {R : List Asn} {jb : Nat} {J : Jn}
theorem el95 : ElemOk Tryz.prog 95 107 5 40 := ElemOk.mk' (z := .agg #[.int .i64 0, .int .u64 0, .bool false, .int .u64 0, .int .u64 0]) Tryz.underlying95 (by kernel_rfl) rfl (by decide)
theorem segV_one (l : List Seg) : ∀ u ∈ segV l, u.oneCell' = true := by
  intro u hu
  obtain ⟨x, _, hx⟩ := List.mem_flatMap.1 hu
  simp only [segV1, hdV, List.mem_cons, List.not_mem_nil, or_false] at hx
  rcases hx with rfl | rfl | rfl | rfl | rfl <;> rfl
def Jn.fix (J : Jn) (h : Hd) : Hd := match J.segs.getLast? with | some x => { h with serial := x.head.serial + 1 } | none => h
def Jn.put (J : Jn) (x : Seg) : Jn := { J with segs := J.segs ++ [x] }
def Jn.start (J : Jn) (D : Dk) (h : Hd) : Bool × Dk × Jn := match J.free with
  | [] => (false, D, J)
  | n :: _ => if (J.write D n (parcelB 1 (J.fix h).body)).1 = true then (true, (J.write D n (parcelB 1 (J.fix h).body)).2.1, (J.write D n (parcelB 1 (J.fix h).body)).2.2.put ⟨n, J.fix h⟩)
    else (false, (J.write D n (parcelB 1 (J.fix h).body)).2.1, (J.write D n (parcelB 1 (J.fix h).body)).2.2)
theorem write_segs (J : Jn) (D : Dk) (f : Nat) (xs : List UInt8) : (J.write D f xs).2.2.segs = J.segs ∧ (J.write D f xs).2.2.d = J.d ∧ (J.write D f xs).2.2.log = J.log ∧ (J.write D f xs).2.2.first = J.first ∧ (J.write D f xs).2.2.many = J.many ∧ (J.write D f xs).2.2.each = J.each := by
  simp only [Jn.write]; split <;> exact ⟨rfl, rfl, rfl, rfl, rfl, rfl⟩
theorem free_lt {n : Nat} (hb : J.first + J.many ≤ 32) (h : n ∈ J.free) : n < 32 := by
  unfold Jn.free at h
  split at h
  · cases h
  · unfold Jn.freeL at h
    obtain ⟨h, _⟩ := List.mem_filter.1 h
    obtain ⟨k, hk, rfl⟩ := List.mem_map.1 h
    have := List.mem_range.1 hk; omega
theorem put_seg {J : Jn} {ve vs vs' : Sl} {x : Seg} {h14 : Heap} (hs : Sat h14 S (ownS vs' (J.segs ++ [x]) :: lst jb 97 (jcs J ve vs) :: ownE ve J.log.es :: R)) {K : Heap → Prop} (hK : ∀ H', Sat H' S (jA jb (J.put x) :: R) → K H') :
    CanSt h14 jb 8 [.slice vs'.a vs'.l vs'.c] ∧ ∀ h15, Stored h14 jb 8 [.slice vs'.a vs'.l vs'.c] h15 → K h15 := by
  refine (hs.pick 1 rfl).store (by simp [jcs, lgV]) fun h15 hs2 => hK h15 (jA_shut (ve := ve) (vs := vs') ?_)
  exact hs2.sel [0, 1]
theorem start_spec {D : Dk} {h : Hd} (hs : Sat H S (jA jb J :: dsk J.d D :: R)) (hb : J.first + J.many ≤ 32) (hsl : J.segs.length < 1000000) (hok : (J.fix h).ok)
    {K : Value → Heap → Prop} (hK : ∀ H' S', PH.le S S' → Sat H' S' (jA jb (J.start D h).2.2 :: dsk J.d (J.start D h).2.1 :: R) → K (.bool (J.start D h).1) H') : CallsH Tryz.prog 42 #[.pointer (some ⟨jb, 0, none⟩), .agg (hdV h).toArray] H K := by
  apply vc42
  intro b1 h1 f1
  have hs1 : Sat h1 S (lst b1 103 (hdV h) :: jA jb J :: dsk J.d D :: R) := hs.fresh f1
  refine free_spec hs1.swap hb hsl fun x h2 hs2 => ⟨x, rfl, ?_⟩
  have hxl := (ownI.len hs2).1
  refine CondP.of (fun hc => ?_) (fun hc => ?_)
  · have h0 : J.free = [] := List.eq_nil_of_length_eq_zero (by simp at hc; omega)
    have e : J.start D h = (false, D, J) := by rw [Jn.start, h0]
    have := hK h2 S (PH.le.refl _) (by rw [e]; exact (hs2.drop).del 1)
    rw [e] at this; exact this
  obtain ⟨n, fl, hfree⟩ : ∃ n fl, J.free = n :: fl := by
    cases hf : J.free with
    | nil => rw [hf] at hxl; simp at hxl; simp [hxl] at hc
    | cons n fl => exact ⟨n, fl, rfl⟩
  have hn32 : n < 32 := free_lt hb (by rw [hfree]; exact List.mem_cons_self)
  obtain ⟨g, ga, gc⟩ := ownI.at hs2 (k := 0) (by rw [hfree]; simp)
  have gc0 : cellH h2 g 0 = some (.int .i64 (n : Int)) := by
    have := gc 0 (by rw [hfree]; simp)
    simp only [hfree, List.getElem_cons_zero] at this
    exact this
  have hxp : 0 < x.l := by rw [hxl, hfree]; simp
  refine ⟨⟨by omega, by omega⟩, NilP.of ga ⟨_, gc0, fun h3 => Sat h3 S (lst b1 103 (hdV (J.fix h)) :: jA jb J :: dsk J.d D :: R), ?_, ?_⟩⟩
  · intro h3 hs3 _ b3 h4 f4
    have hs4 : Sat h4 S (lst b3 145 [.slice none 0 0] :: lst b1 103 (hdV (J.fix h)) :: jA jb J :: dsk J.d D :: R) := hs3.fresh f4
    have hw : Sat h4 S (wr b3 [] :: lst b1 103 (hdV (J.fix h)) :: jA jb J :: dsk J.d D :: R) := wr_shut (v := ⟨none, 0, 0⟩) (own.new 5 1 hs4).swap
    obtain ⟨k1, k2, k3⟩ := hok
    have hbl := (J.fix h).body_len ⟨k1, k2, k3⟩
    have hbe : (J.fix h).body = natB (J.fix h).serial ++ flagB (J.fix h).anew ++ (natB (J.fix h).i ++ natB (J.fix h).t) := rfl
    refine ⟨_, (hw.pick 1 rfl).cell 0 rfl, ?_⟩
    intro b4 h5 f5
    refine Nat_new f5 hw (ns := [(J.fix h).serial]) rfl (by intro m hm; simp at hm; subst hm; unfold MaxI at k1; omega) (by simp) (by simp) rfl fun h6 hs6 => ⟨rfl, ?_⟩
    refine ⟨_, (hs6.pick 1 rfl).cell 1 rfl, ?_⟩
    have hn10 := natB_le (n := (J.fix h).serial) (by unfold MaxI at k1; omega)
    have hf10 : (flagB (J.fix h).anew).length ≤ 10 := natB_le (by split <;> omega)
    refine Flag_spec hs6 (by simp [nats]; omega) fun h7 hs7 => ⟨rfl, _, (hs7.pick 1 rfl).cell 2 rfl, _, (hs7.pick 1 rfl).cell 3 rfl, ?_⟩
    intro b5 h8 f8
    refine Nat_new f8 hs7 (ns := [(J.fix h).i, (J.fix h).t]) rfl (by intro m hm; simp at hm; unfold MaxI at k2 k3; rcases hm with rfl | rfl <;> omega) (by simp [nats]; omega) (by simp) rfl fun h9 hs9 => ⟨rfl, ?_⟩
    have e1 : ([] ++ nats [(J.fix h).serial] ++ flagB (J.fix h).anew ++ nats [(J.fix h).i, (J.fix h).t]) = (J.fix h).body := by
      rw [hbe]; simp [nats]
    rw [e1] at hs9
    refine Bytes_spec hs9 (by omega) fun x2 h10 S1 hS1 hs10 hr10 => ⟨x2, rfl, ?_⟩
    refine Wrap_spec hs10 hr10 (kind := 1) (by decide) (by omega) fun x3 h11 S2 hS2 hs11 => ⟨x3, _, rfl, ?_⟩
    obtain ⟨S3, q1, q2, q3⟩ := own.fixd hs11
    have hpl := parcelB_len 1 (J.fix h).body
    have hn10 := natB_le (n := (J.fix h).body.length) (by omega)
    refine write_spec (f := n) hn32 (q3.sel [2, 2]) q2 (by rw [hpl]; omega) fun h12 hs12 => ⟨_, rfl, ?_⟩
    have hle := (hS1.trans hS2).trans q1
    refine CondP.of (fun hc => ?_) (fun hc => ?_)
    · have hw1 : ¬ (J.write D n (parcelB 1 (J.fix h).body)).1 = true := by simpa using hc
      have e : J.start D h = (false, (J.write D n (parcelB 1 (J.fix h).body)).2.1, (J.write D n (parcelB 1 (J.fix h).body)).2.2) := by simp only [Jn.start, hfree, if_neg hw1]
      have := hK h12 S3 hle (by rw [e]; exact (hs12.del 2).del 2)
      rw [e] at this; exact this
    · have hw1 : (J.write D n (parcelB 1 (J.fix h).body)).1 = true := by simpa using hc
      have e : J.start D h = (true, (J.write D n (parcelB 1 (J.fix h).body)).2.1, (J.write D n (parcelB 1 (J.fix h).body)).2.2.put ⟨n, J.fix h⟩) := by simp only [Jn.start, hfree, if_pos hw1]
      obtain ⟨w1, w2, w3, w4, w5, w6⟩ := write_segs J D n (parcelB 1 (J.fix h).body)
      generalize J.write D n (parcelB 1 (J.fix h).body) = W at hs12 e w1 w2 w3 w4 w5 w6
      obtain ⟨ve, vs, hs13⟩ := jA_open hs12
      have hc8 := hs13.cell 8 (v := .slice vs.a vs.l vs.c) rfl
      refine ⟨vs, hc8, _, _, _, _, (hs13.pick 5 rfl).cells 0 rfl, ?_⟩
      intro b6 h13 f13
      have hs14 : Sat h13 S3 (lst b6 107 (segV1 ⟨n, J.fix h⟩) :: lst jb 97 (jcs W.2.2 ve vs) :: ownE ve W.2.2.log.es :: ownS vs W.2.2.segs :: dsk J.d W.2.1 :: wr b3 (J.fix h).body :: lst b1 103 (hdV (J.fix h)) :: R) := hs13.fresh f13
      refine ⟨hs14.swap.cell 8 rfl, ?_⟩
      have hvl := (ownS.len (hs14.pick 3 rfl)).1
      rw [w1] at hvl
      refine append_one el95 (v := vs) (xs := segV W.2.2.segs) (hs14.sel [0, 2]) rfl (by intro u hu; simp [segV1, hdV] at hu; rcases hu with rfl | rfl | rfl | rfl | rfl <;> rfl) (by omega) (by unfold maxLen; omega) fun vs' h14 hv' hs15 => ?_
      have e3 : segV W.2.2.segs ++ segV1 ⟨n, J.fix h⟩ = segV (W.2.2.segs ++ [⟨n, J.fix h⟩]) := by simp [segV]
      rw [e3] at hs15
      refine put_seg (J := W.2.2) (ve := ve) (vs := vs) (vs' := vs') (x := ⟨n, J.fix h⟩) hs15 fun h15 hs16 => ?_
      have := hK h15 S3 hle (by rw [e]; exact (hs16.del 2).del 2)
      rw [e] at this; exact this
  · have hs3 : Sat h2 S (jA jb J :: lst b1 103 (hdV h) :: dsk J.d D :: R) := hs2.drop
    obtain ⟨ve, vs, hs4⟩ := jA_open hs3
    have hvl := (ownS.len (hs4.pick 2 rfl)).1
    have hc8 := hs4.cell 8 (v := .slice vs.a vs.l vs.c) rfl
    refine ⟨vs, hc8, CondP.of (fun hc => ⟨vs, hc8, vs, hc8, ?_⟩) (fun hc => ?_)⟩
    · have h0 : 0 < J.segs.length := by simp at hc; omega
      obtain ⟨k, hk⟩ : ∃ k, J.segs.length = k + 1 := ⟨J.segs.length - 1, by omega⟩
      have ew : IntKind.i64.wrap (((vs.l : Nat) : Int) - 1) = (k : Int) := by rw [i64_in (by omega) (by omega)]; omega
      rw [ew]
      obtain ⟨g2, ga2, gc2⟩ := ownS.at (hs4.pick 2 rfl) (k := k) (by omega)
      have hfx : J.fix h = { h with serial := (J.segs[k]'(by omega)).head.serial + 1 } := by
        unfold Jn.fix
        rw [List.getLast?_eq_getElem?, show J.segs.length - 1 = k by omega, List.getElem?_eq_getElem (by omega)]
      have hser : (J.segs[k]'(by omega)).head.serial + 1 ≤ MaxI := by have := hok.1; rw [hfx] at this; exact this
      refine ⟨⟨by omega, by omega⟩, NilP.of ga2 ⟨((J.segs[k]'(by omega)).head.serial : Int), ?_, ?_⟩⟩
      · have := gc2.get 1 _ rfl
        simpa using this
      · rw [u64_in (by omega) (by unfold MaxI at hser; omega)]
        refine (hs3.swap).store (by simp [hdV]) fun h16 hs5 => ?_
        rw [hfx]
        exact hs5
    · have h0 : J.segs = [] := List.eq_nil_of_length_eq_zero (by simp at hc; omega)
      have hfx : J.fix h = h := by rw [Jn.fix, h0]; rfl
      rw [hfx]; exact hs3.swap
end
end Go.Sx.Tryz
namespace Go.Sx.Tryz
open Go Go.Sx Go.Proofs
set_option linter.unusedVariables false
section
variable {H H' : Heap} {S : PH} {R : List Asn} {jb : Nat} {J : Jn}
def Jn.another (J : Jn) (D : Dk) (h : Hd) : Nat × Dk × Jn := if J.free = [] then (50, D, J) else ((if (J.start D h).1 = true then 0 else 70), (J.start D h).2)
theorem another_spec {D : Dk} {h : Hd} (hs : Sat H S (jA jb J :: dsk J.d D :: R)) (hb : J.first + J.many ≤ 32) (hsl : J.segs.length < 1000000) (hok : J.free ≠ [] → (J.fix h).ok)
    {K : Value → Heap → Prop} (hK : ∀ H' S', PH.le S S' → Sat H' S' (jA jb (J.another D h).2.2 :: dsk J.d (J.another D h).2.1 :: R) → K (.int .i64 ((J.another D h).1 : Int)) H') : CallsH Tryz.prog 90 #[.pointer (some ⟨jb, 0, none⟩), .agg (hdV h).toArray] H K := by
  apply vc90
  intro b1 h1 f1
  have hs1 : Sat h1 S (lst b1 103 (hdV h) :: jA jb J :: dsk J.d D :: R) := hs.fresh f1
  refine free_spec hs1.swap hb hsl fun x h2 hs2 => ⟨x, rfl, ?_⟩
  have hxl := (ownI.len hs2).1
  refine CondP.of (fun hc => ?_) (fun hc => ?_)
  · have h0 : J.free = [] := List.eq_nil_of_length_eq_zero (by simp at hc; omega)
    have e : J.another D h = (50, D, J) := by rw [Jn.another, if_pos h0]
    have := hK h2 S (PH.le.refl _) (by rw [e]; exact (hs2.drop).del 1)
    rw [e] at this; exact this
  · have h0 : J.free ≠ [] := by
      intro h0
      rw [h0] at hxl
      have : x.l = 0 := hxl
      rw [this] at hc; simp at hc
    have e : J.another D h = ((if (J.start D h).1 = true then 0 else 70), (J.start D h).2) := by rw [Jn.another, if_neg h0]
    refine ⟨_, _, _, _, (hs2.pick 2 rfl).cells 0 rfl, ?_⟩
    have hs3 : Sat h2 S (jA jb J :: dsk J.d D :: R) := (hs2.drop).del 1
    refine start_spec hs3 hb hsl (hok h0) fun h3 S1 hS1 hs4 => ⟨_, rfl, ?_⟩
    have := hK h3 S1 hS1 (by rw [e]; exact hs4)
    rw [e] at this
    refine CondP.of (fun hc => ?_) (fun hc => ?_)
    · have hf : ¬ (J.start D h).1 = true := by simpa using hc
      simp only [if_neg hf] at this; exact this
    · have hf : (J.start D h).1 = true := by simpa using hc
      simp only [if_pos hf] at this; exact this
end
end Go.Sx.Tryz
namespace Go.Sx
set_option linter.unusedVariables false
section
variable {H H' : Heap} {S : PH} {L : List Asn}
theorem own.shrink {T : TypeId} {sz : Nat} {v : Sl} {xs : List Value} {k : Nat} (h : Sat H S (own T sz v xs :: L)) (hk : k ≤ v.l) (hv : 0 < v.l) : Sat H S (own T sz ⟨v.a, k, v.c⟩ (xs.take (k * sz)) :: L) := by
  refine h.weak fun q hq => ?_
  obtain ⟨h1, h2⟩ := hq
  rcases h2 with ⟨rfl, rfl⟩ | ⟨g, cur, g1, g2, g3, g4, g5, g6⟩
  · simp at hv
  · have hm := Nat.mul_le_mul_right sz hk
    refine ⟨by show (xs.take (k * sz)).length = k * sz; rw [List.length_take]; omega, .inr ⟨g, cur, g1, g2, Nat.le_trans hk g3, g4, g5, ?_⟩⟩
    show cur.toList.take (k * sz) = _
    rw [← g6, List.take_take, Nat.min_eq_left hm]
theorem append_room {P : Program} {t ty e : TypeId} {sz bytes : Nat} (he : ElemOk P t e sz bytes) {v : Sl} {xs : List Value} (h : Sat H S (own e sz v xs :: L)) {g : Nat} (hg : v.a = some ⟨g, 0, none⟩) {a : Addr} {m c : Nat} {news : List Value}
    (hl : news.length = m * sz) (hx : ∀ j u, news[j]? = some u → ∀ w : World, w.heap = H → w.cell? (a.add j) = some u) (h1 : ∀ u ∈ news, u.oneCell' = true) (hroom : v.l + m ≤ v.c)
    {K : Sl → Heap → Prop} (hk : ∀ H', Sat H' S (own e sz ⟨v.a, v.l + m, v.c⟩ (xs ++ news) :: L) → K ⟨v.a, v.l + m, v.c⟩ H') :
    RunK P .sl (Builtin.append_ #[t, t] ty #[.slice v.a v.l v.c, .slice (some a) m c]) H K := by
  intro w hw
  obtain ⟨i, z, hi, hz, hs, hby, hzs⟩ := he.info
  have hlen := own.len h
  have hll : (xs ++ news).length = (v.l + m) * sz := by rw [List.length_append, hlen.1, hl, Nat.add_mul]
  rcases own.row h hw with ⟨rfl, rfl⟩ | ⟨g', cur, ga, gb, gc, gm, gz, gt⟩
  · cases hg
  · rw [hg] at ga; cases ga
    have hfit : v.l * sz + news.length ≤ cur.size := by
      have := Nat.mul_le_mul_right sz hroom
      rw [Nat.add_mul] at this
      omega
    have hr := run_append_room (P := P) w t ty e i he.und hi g v.l v.c cur gb a m c news (by rw [hs]; exact hl) (fun j u hu => hx j u hu w hw) h1 hroom (by rw [hs]; exact hfit)
    rw [hs] at hr
    rw [hg]
    refine ⟨⟨v.a, v.l + m, v.c⟩, w.setRow g (cur.toList.take (v.l * sz) ++ news ++ cur.toList.drop (v.l * sz + news.length)).toArray, by rw [hr, ← hg]; rfl, ⟨rfl, rfl, rfl⟩, hk _ (h.regrow (v' := ⟨v.a, v.l + m, v.c⟩) (fun d hd hne => ?_) hll (.inr ⟨g, _, hg, .inl hg, setRow_heap w g cur _ e _ gb, hroom, gm, ?_, ?_⟩))⟩
    · rw [setRow_other w g d _ (hne g hg), hw]
    · simp only [List.size_toArray, List.length_append, List.length_take, List.length_drop, Array.length_toList]
      omega
    · rw [gt, ← hll]
      exact List.take_left
theorem clear_tail {P : Program} {t e : TypeId} {sz bytes ty : Nat} (he : ElemOk P t e sz bytes) (hz1 : ∀ i z, P.info? e = some i → i.zero = some z → ∀ u ∈ z.cells.toList, u.oneCell' = true) {v : Sl} {xs : List Value} (h : Sat H S (own e sz v xs :: L)) {g : Nat} (hg : v.a = some ⟨g, 0, none⟩) {n c : Nat} (hn : v.l + n ≤ v.c)
    {K : Value → Heap → Prop} (hk : ∀ H', Sat H' S (own e sz v xs :: L) → K (.tuple #[]) H') :
    RunK P .v (Builtin.clear_ #[t] ty #[.slice (subA v.a v.l v.c sz) n c]) H K := by
  intro w hw
  obtain ⟨i, z, hi, hz, hs, hby, hzs⟩ := he.info
  have hlen := own.len h
  rcases own.row h hw with ⟨rfl, rfl⟩ | ⟨g', cur, ga, gb, gc, gm, gz, gt⟩
  · cases hg
  · rw [hg] at ga; cases ga
    rcases Nat.eq_zero_or_pos n with h0 | h0
    · subst h0
      refine ⟨.tuple #[], w, ?_, SameW.refl _, hk _ (by rw [hw]; exact h)⟩
      cases hsub : subA v.a v.l v.c sz <;> simp [Builtin.clear_, run_underlying he.und, K1.mk, Result.andThen]
    · have hsub : subA v.a v.l v.c sz = some ⟨g, v.l * sz, none⟩ := by
        unfold subA
        rw [if_neg (by omega), hg]
        simp [addr_add]
      have hzero : (zeroValue e).run P w = .ok z w := by simp only [zeroValue, Sem.run_bind, run_info hi, Result.andThen_ok, hz, Sem.run_pure]
      have hzl : (Builtin.zeroCells z.cells n).toList.length = n * sz := by rw [Array.length_toList, size_zeroCells, hzs]
      have hfit : v.l * sz + 0 + (Builtin.zeroCells z.cells n).toList.length ≤ cur.size := by
        have := Nat.mul_le_mul_right sz hn
        rw [Nat.add_mul] at this
        omega
      have hst := run_storeCells_at P g (v.l * sz) e (Builtin.zeroCells z.cells n).toList 0 cur w gb hfit (by
        intro u hu
        simp only [Builtin.zeroCells, Array.toList_map, List.mem_map] at hu
        obtain ⟨j, hj, rfl⟩ := hu
        refine hz1 i z hi hz _ ?_
        have hj : j % z.cells.size < z.cells.size := Nat.mod_lt _ (by rw [hzs]; exact he.pos)
        rw [getElem!_pos z.cells _ hj]
        exact Array.getElem_mem_toList hj)
      refine ⟨.tuple #[], w.setRow g (cur.toList.take (v.l * sz + 0) ++ (Builtin.zeroCells z.cells n).toList ++ cur.toList.drop (v.l * sz + 0 + (Builtin.zeroCells z.cells n).toList.length)).toArray, ?_, ⟨rfl, rfl, rfl⟩, hk _ (h.regrow (v' := v) (fun d hd hne => ?_) hlen.1 (.inr ⟨g, _, hg, .inl hg, setRow_heap w g cur _ e _ gb, hlen.2, gm, ?_, ?_⟩))⟩
      · rw [hsub]
        obtain ⟨n, rfl⟩ : ∃ m, n = m + 1 := ⟨n - 1, by omega⟩
        simp [Builtin.clear_, run_underlying he.und, hzero, hst, Result.andThen, K1.mk]
      · rw [setRow_other w g d _ (hne g hg), hw]
      · simp only [List.size_toArray, List.length_append, List.length_take, List.length_drop, Array.length_toList] at hzl ⊢
        omega
      · rw [Nat.add_zero, List.toList_toArray, List.append_assoc, List.take_append_of_le_length (by rw [List.length_take, Array.length_toList]; have := Nat.mul_le_mul_right sz hlen.2; omega), List.take_take, Nat.min_self, gt]
end
end Go.Sx
namespace Go.Sx.Tryz
open Go Go.Sx Go.Proofs
set_option maxRecDepth 100000
set_option linter.unusedVariables false
noncomputable def c106 : Code := (Tryz.f106.body).getD .skip
def a106 : Ann := (.seq .leaf (.seq .leaf (.seq (.seq .leaf (.br (.seq .leaf .leaf) .leaf)) (.seq .leaf (.seq (.reg (.q 0 (.q 1 (.q 2 (.q 3 (.q 4 (.q 5 (.m 6 (.q 7 (.fin)) (.nil))))))))) (.seq .leaf (.seq .leaf .leaf)))))))
theorem ok106 : okC tab 33 true c106 a106 = true := by kernel_rfl
theorem vc106 (s_ : Sl) (i_ : Int) (j_ : Int) (h : Heap) (R : Value → Heap → Prop)
  (hv : ((0 : Int) ≤ i_ ∧ i_ ≤ j_ ∧ j_ ≤ ((s_.l : Nat) : Int) ∧ ((s_.l : Nat) : Int) ≤ ((s_.c : Nat) : Int)) ∧
   CondP ((i_ : Int) == j_) (
   R (.slice s_.a s_.l s_.c) h) (
   ((0 : Int) ≤ (0 : Int) ∧ (0 : Int) ≤ i_ ∧ i_ ≤ ((s_.c : Nat) : Int)) ∧
   ((0 : Int) ≤ j_ ∧ j_ ≤ ((s_.l : Nat) : Int)) ∧
   RunK Tryz.prog (.sl) (Builtin.append_ #[95, 95] 95 #[.slice (subA s_.a 0 s_.c 5) i_.toNat s_.c, .slice (subA s_.a j_.toNat s_.c 5) (s_.l - j_.toNat) (s_.c - j_.toNat)]) h (fun x1 h1 =>
   ((0 : Int) ≤ ((x1.l : Nat) : Int) ∧ ((x1.l : Nat) : Int) ≤ ((s_.l : Nat) : Int) ∧ ((s_.l : Nat) : Int) ≤ ((x1.c : Nat) : Int)) ∧
   RunK Tryz.prog (.v) (Builtin.clear_ #[95] 0 #[.slice (subA x1.a x1.l x1.c 5) (s_.l - x1.l) (x1.c - x1.l)]) h1 (fun v1 h2 =>
   R (.slice x1.a x1.l x1.c) h2)))) :
  CallsH Tryz.prog 106 #[.slice s_.a s_.l s_.c, .int .i64 i_, .int .i64 j_] h R :=
  calls_of_vc tabOk mixed Tryz.func106 (c := c106) (by kernel_rfl) (n := 33) rfl (rs := [.tmp 6]) (by kernel_rfl) ok106 (args := [.slice s_.a s_.l s_.c, .int .i64 i_, .int .i64 j_]) (Nat.le_of_ble_eq_true rfl) (Eq.mpr (by kernel_rfl) hv)
end Go.Sx.Tryz
namespace Go.Sx.Tryz
open Go Go.Sx Go.Proofs
set_option linter.unusedVariables false
section
variable {H H' : Heap} {S : PH} {R : List Asn}
theorem el95z : ∀ i z, Tryz.prog.info? 107 = some i → i.zero = some z → ∀ u ∈ z.cells.toList, u.oneCell' = true := by
  intro i z hi hz
  have h : (Tryz.prog.info? 107).map (fun i => i.zero) = some (some (.agg #[.int .i64 0, .int .u64 0, .bool false, .int .u64 0, .int .u64 0])) := by kernel_rfl
  rw [hi] at h
  simp only [Option.map_some, Option.some.injEq] at h
  rw [hz] at h
  injection h with h
  subst h
  intro u hu
  simp [Value.cells] at hu
  rcases hu with rfl | rfl | rfl | rfl <;> rfl
theorem delete_spec {v : Sl} {l : List Seg} {i : Nat} {j : Int} (hs : Sat H S (ownS v l :: R)) (hi : i < l.length) (hj : j = ((i + 1 : Nat) : Int))
    {K : Value → Heap → Prop} (hK : ∀ (v' : Sl) H', Sat H' S (ownS v' (l.eraseIdx i) :: R) → K (.slice v'.a v'.l v'.c) H') : CallsH Tryz.prog 106 #[.slice v.a v.l v.c, .int .i64 (i : Int), .int .i64 j] H K := by
  subst hj
  apply vc106
  obtain ⟨hl, hlc⟩ := ownS.len hs
  obtain ⟨g, ga, gc⟩ := own.cells hs (by rw [segV_len]; omega)
  refine ⟨⟨by omega, by omega, by omega, by omega⟩, CondP.of (fun hc => by simp at hc; omega) fun _ => ⟨⟨by omega, by omega, by omega⟩, ⟨by omega, by omega⟩, ?_⟩⟩
  simp only [Int.toNat_natCast]
  rw [subA_zero (p := v.a) (by intro a ha; rw [ga] at ha; cases ha; rfl)]
  have hsh := own.shrink hs (k := i) (by omega) (by omega)
  have et : (segV l).take (i * 5) = segV (l.take i) := flat_take segV1_len l i
  have ed : (segV l).drop ((i + 1) * 5) = segV (l.drop (i + 1)) := flat_drop segV1_len l (i + 1)
  rw [et] at hsh
  obtain ⟨a, hsub, hread⟩ : ∃ a : Addr, subA v.a (i + 1) v.c 5 = some a ∧ ∀ k u, (segV (l.drop (i + 1)))[k]? = some u → ∀ w : World, w.heap = H → w.cell? (a.add k) = some u := by
    by_cases hc : v.c = i + 1
    · refine ⟨⟨g, 0, none⟩, by unfold subA; rw [if_pos hc, ga], fun k u hu => ?_⟩
      have : l.drop (i + 1) = [] := List.drop_of_length_le (by omega)
      rw [this] at hu; simp [segV] at hu
    · refine ⟨⟨g, (i + 1) * 5, none⟩, by unfold subA; rw [if_neg hc, ga]; simp [addr_add], fun k u hu w hw => ?_⟩
      rw [addr_add, cell?_eq, hw]
      rw [← ed, List.getElem?_drop] at hu
      have := gc.get _ _ hu
      rw [Nat.zero_add] at this
      exact this
  rw [hsub]
  refine append_room el95 (v := ⟨v.a, i, v.c⟩) hsh ga (m := v.l - (i + 1)) (c := v.c - (i + 1)) (news := segV (l.drop (i + 1))) (by rw [segV_len, List.length_drop]; omega) hread (segV_one _) (by show i + (v.l - (i + 1)) ≤ v.c; omega) fun h1 hs1 => ?_
  have e : segV (l.take i) ++ segV (l.drop (i + 1)) = segV (l.eraseIdx i) := by
    rw [List.eraseIdx_eq_take_drop_succ]; simp [segV]
  rw [e] at hs1
  refine ⟨⟨by omega, by show (((i + (v.l - (i + 1)) : Nat) : Int)) ≤ _; omega, by show _ ≤ ((v.c : Nat) : Int); omega⟩, ?_⟩
  refine clear_tail el95 el95z (v := ⟨v.a, i + (v.l - (i + 1)), v.c⟩) hs1 ga (n := v.l - (i + (v.l - (i + 1)))) (by show i + (v.l - (i + 1)) + (v.l - (i + (v.l - (i + 1)))) ≤ v.c; omega) fun h2 hs2 => hK ⟨v.a, i + (v.l - (i + 1)), v.c⟩ h2 hs2
end
end Go.Sx.Tryz
namespace Go.Sx.Tryz
open Go Go.Sx Go.Proofs
set_option maxRecDepth 100000
set_option linter.unusedVariables false
noncomputable def c105 : Code := (Tryz.f105.body).getD .skip
def a105 : Ann := (.seq .leaf (.join [(2, .one (.i .i64))] (.inn (.loop [(2, .one (.i .i64))] (.seq (.seq .leaf (.br .leaf .leaf)) (.inn .leaf)))) (.inn (.loop [(2, .one (.i .i64))] (.seq (.seq (.reg (.q 0 (.q 1 (.q 2 (.q 3 (.q 4 (.q 5 (.q 6 (.q 7 (.q 8 (.q 9 (.q 10 (.q 11 (.q 12 (.q 13 (.q 14 (.m 15 (.m 16 (.q 17 (.fin)) (.nil)) (.nil)))))))))))))))))) (.br .leaf .leaf)) (.seq (.inn .leaf) .leaf))))))
theorem ok105 : okC tab 53 true c105 a105 = true := by kernel_rfl
theorem vc105 (j_b j_o : Nat) (h : Heap) (R : Value → Heap → Prop)
  (hv : ∃ x1 : Sl, cellH h j_b (j_o + 8) = some (.slice x1.a x1.l x1.c) ∧
   ∃ J1 : Int → Heap → Prop, (∀ n1 : Int, ∀ h1, J1 n1 h1 → ∀ _ : Env,
   ∃ (I1 : Int → Heap → Prop) (mu1 : Int → Heap → Nat), I1 n1 h1 ∧ (∀ n2 : Int, ∀ h2, I1 n2 h2 → ∀ _ : Env,
   CondP (decide ((n2 : Int) > 0)) (
   ∃ p1 : Option Addr, cellH h2 j_b j_o = some (.pointer p1) ∧
   ∃ x2 : Sl, cellH h2 j_b (j_o + 8) = some (.slice x2.a x2.l x2.c) ∧
   ((0 : Int) ≤ 0 ∧ (0 : Int) < ((x2.l : Nat) : Int)) ∧
   NilP x2.a (fun b1 o1 =>
   ∃ n3 : Int, cellH h2 b1 o1 = some (.int .i64 n3) ∧
   CallsH Tryz.prog 99 #[.pointer p1, .int .i64 n3] h2 (fun r1 h3 => ∃ n4 : Int, r1 = .int .i64 n4 ∧
   CallsH Tryz.prog 98 #[.pointer (some ⟨j_b, j_o, none⟩), .int .i64 n4] h3 (fun r2 h4 => ∃ t1 : Bool, r2 = .bool t1 ∧
   CondP t1 (
   ∃ x3 : Sl, cellH h4 j_b (j_o + 8) = some (.slice x3.a x3.l x3.c) ∧
   CallsH Tryz.prog 106 #[.slice x3.a x3.l x3.c, .int .i64 0, .int .i64 1] h4 (fun r3 h5 => ∃ x4 : Sl, r3 = .slice x4.a x4.l x4.c ∧
   CanSt h5 j_b (j_o + 8) [.slice x4.a x4.l x4.c] ∧ ∀ h6, Stored h5 j_b (j_o + 8) [.slice x4.a x4.l x4.c] h6 →
   I1 (IntKind.i64.wrap (n2 - 1)) h6 ∧ mu1 (IntKind.i64.wrap (n2 - 1)) h6 < mu1 n2 h2)) (
   R (.tuple #[]) h4))))) (
   R (.tuple #[]) h2))) ∧
   ∃ (I2 : Int → Heap → Prop) (mu2 : Int → Heap → Nat), I2 (IntKind.i64.wrap (((x1.l : Nat) : Int) - 1)) h ∧ (∀ n5 : Int, ∀ h7, I2 n5 h7 → ∀ _ : Env,
   CondP (decide ((n5 : Int) > 0)) (
   ∃ x5 : Sl, cellH h7 j_b (j_o + 8) = some (.slice x5.a x5.l x5.c) ∧
   ((0 : Int) ≤ n5 ∧ (n5 : Int) < ((x5.l : Nat) : Int)) ∧
   NilP x5.a (fun b2 o2 =>
   ∃ t2 : Bool, cellH h7 b2 (o2 + n5.toNat * 5 + 1 + 1) = some (.bool t2) ∧
   CondP (!t2) (
   I2 (IntKind.i64.wrap (n5 - 1)) h7 ∧ mu2 (IntKind.i64.wrap (n5 - 1)) h7 < mu2 n5 h7) (
   J1 n5 h7))) (
   J1 n5 h7))) :
  CallsH Tryz.prog 105 #[.pointer (some ⟨j_b, j_o, none⟩)] h R :=
  calls_of_vc tabOk mixed Tryz.func105 (c := c105) (by kernel_rfl) (n := 53) rfl (rs := []) (by kernel_rfl) ok105 (args := [.pointer (some ⟨j_b, j_o, none⟩)]) (Nat.le_of_ble_eq_true rfl) (Eq.mpr (by kernel_rfl) hv)
end Go.Sx.Tryz
namespace Go.Sx.Tryz
open Go Go.Sx Go.Proofs
set_option linter.unusedVariables false
section
variable {H H' : Heap} {S : PH} {R : List Asn} {jb : Nat} {J : Jn}
def fileAt (l : List Seg) (i : Nat) : Nat := match l[i]? with | some x => x.file | none => 0
def anewAt (l : List Seg) (i : Nat) : Bool := match l[i]? with | some x => x.head.anew | none => false
def Jn.dropAt (J : Jn) (D : Dk) (i : Nat) : Bool × Dk × Jn :=
  if (D.drp (fileAt J.segs i)).1 = 0 then (true, (D.drp (fileAt J.segs i)).2, { J.note 0 with segs := J.segs.eraseIdx i }) else (false, (D.drp (fileAt J.segs i)).2, J.note (D.drp (fileAt J.segs i)).1)
def Jn.dropN : Nat → Jn → Dk → Dk × Jn
  | 0, J, D => (D, J)
  | k + 1, J, D => if (J.dropAt D 0).1 = true then Jn.dropN k (J.dropAt D 0).2.2 (J.dropAt D 0).2.1 else (J.dropAt D 0).2
def lastNew (l : List Seg) : Nat → Nat
  | 0 => 0
  | k + 1 => if anewAt l (k + 1) = true then k + 1 else lastNew l k
def Jn.begun (J : Jn) (D : Dk) : Dk × Jn := J.dropN (lastNew J.segs (J.segs.length - 1)) D
theorem lastNew_le (l : List Seg) : ∀ k, lastNew l k ≤ k
  | 0 => Nat.le_refl _
  | k + 1 => by unfold lastNew; split; exact Nat.le_refl _; exact Nat.le_succ_of_le (lastNew_le l k)
theorem set_segs {J : Jn} {ve vs vs' : Sl} {l : List Seg} {h14 : Heap} (hs : Sat h14 S (ownS vs' l :: lst jb 97 (jcs J ve vs) :: ownE ve J.log.es :: R)) {K : Heap → Prop} (hK : ∀ H', Sat H' S (jA jb { J with segs := l } :: R) → K H') :
    CanSt h14 jb 8 [.slice vs'.a vs'.l vs'.c] ∧ ∀ h15, Stored h14 jb 8 [.slice vs'.a vs'.l vs'.c] h15 → K h15 := by
  refine (hs.pick 1 rfl).store (by simp [jcs, lgV]) fun h15 hs2 => hK h15 (jA_shut (J := { J with segs := l }) (ve := ve) (vs := vs') ?_)
  exact hs2.sel [0, 1]
theorem begun_spec {D : Dk} (hs : Sat H S (jA jb J :: dsk J.d D :: R)) (hfl : ∀ x ∈ J.segs, x.file < 32) (hsl : J.segs.length < 1000000) (h0 : 0 < J.segs.length)
    {K : Value → Heap → Prop} (hK : ∀ H', Sat H' S (jA jb (J.begun D).2 :: dsk J.d (J.begun D).1 :: R) → K (.tuple #[]) H') : CallsH Tryz.prog 105 #[.pointer (some ⟨jb, 0, none⟩)] H K := by
  apply vc105
  obtain ⟨ve, vs, hs1⟩ := jA_open hs
  have hvl := (ownS.len (hs1.pick 2 rfl)).1
  refine ⟨vs, hs1.cell 8 rfl, fun n h => n = (lastNew J.segs (J.segs.length - 1) : Int) ∧ Sat h S (jA jb J :: dsk J.d D :: R), ?_, ?_⟩
  · rintro n h1 ⟨rfl, hs2⟩ _
    have hln := lastNew_le J.segs (J.segs.length - 1)
    refine ⟨fun n h => ∃ (k : Nat) (J' : Jn) (D' : Dk), n = k ∧ J'.d = J.d ∧ k < J'.segs.length ∧ J'.segs.length < 1000000 ∧ (∀ x ∈ J'.segs, x.file < 32) ∧ J'.dropN k D' = J.begun D ∧ Sat h S (jA jb J' :: dsk J'.d D' :: R), fun n _ => n.toNat, ⟨_, J, D, rfl, rfl, by omega, hsl, hfl, rfl, hs2⟩, ?_⟩
    rintro n h2 ⟨k, J', D', rfl, hd, hk, hl', hf', he, hs3⟩ _
    refine CondP.of (fun hc => ?_) (fun hc => ?_)
    · obtain ⟨k, rfl⟩ : ∃ m, k = m + 1 := ⟨k - 1, by simp at hc; omega⟩
      obtain ⟨ve, vs, hs4⟩ := jA_open hs3
      have hvl := (ownS.len (hs4.pick 2 rfl)).1
      obtain ⟨g, ga, gc⟩ := ownS.at (hs4.pick 2 rfl) (k := 0) (by omega)
      have hfa : fileAt J'.segs 0 = (J'.segs[0]'(by omega)).file := by unfold fileAt; rw [List.getElem?_eq_getElem (by omega)]
      refine ⟨_, hs4.cell 0 rfl, vs, hs4.cell 8 rfl, ⟨by omega, by omega⟩, NilP.of ga ⟨_, by have := gc.get 0 _ rfl; simpa using this, ?_⟩⟩
      rw [← hfa]
      refine drp_spec (by rw [hfa]; exact hf' _ (List.getElem_mem _)) hs3.swap fun h3 hs5 => ⟨_, rfl, done_spec hs5.swap fun h4 hs6 => ⟨_, rfl, CondP.of (fun hc => ?_) (fun hc => ?_)⟩⟩
      · have hz : (D'.drp (fileAt J'.segs 0)).1 = 0 := by simpa using hc
        have e : J'.dropAt D' 0 = (true, (D'.drp (fileAt J'.segs 0)).2, { J'.note 0 with segs := J'.segs.eraseIdx 0 }) := by rw [Jn.dropAt, if_pos hz]
        rw [hz] at hs6
        obtain ⟨ve, vs, hs7⟩ := jA_open hs6
        refine ⟨vs, hs7.cell 8 rfl, delete_spec (i := 0) (hs7.sel [2]) (by show 0 < J'.segs.length; omega) rfl fun v' h5 hs8 => ⟨v', rfl, ?_⟩⟩
        refine set_segs (J := J'.note 0) hs8 fun h6 hs9 => ?_
        have ew : IntKind.i64.wrap (((k + 1 : Nat) : Int) - 1) = (k : Int) := by rw [i64_in (by omega) (by omega)]; omega
        rw [ew]
        have hel : (J'.segs.eraseIdx 0).length = J'.segs.length - 1 := List.length_eraseIdx_of_lt (by omega)
        refine ⟨⟨k, { J'.note 0 with segs := J'.segs.eraseIdx 0 }, (D'.drp (fileAt J'.segs 0)).2, rfl, hd, by show k < (J'.segs.eraseIdx 0).length; omega, by show (J'.segs.eraseIdx 0).length < _; omega, fun x hx => hf' x (List.mem_of_mem_eraseIdx hx), ?_, hs9⟩, (by show k < k + 1; omega)⟩
        rw [Jn.dropN, e] at he
        simpa using he
      · have hz : ¬ (D'.drp (fileAt J'.segs 0)).1 = 0 := by simpa using hc
        have e : J'.dropAt D' 0 = (false, (D'.drp (fileAt J'.segs 0)).2, J'.note (D'.drp (fileAt J'.segs 0)).1) := by rw [Jn.dropAt, if_neg hz]
        rw [Jn.dropN, e] at he
        simp only [Bool.false_eq_true, if_false] at he
        refine hK h4 ?_
        rw [← he, ← hd]
        exact hs6
    · have : k = 0 := by simp at hc; omega
      subst this
      have he : (D', J') = J.begun D := he
      refine hK h2 ?_
      rw [← he, ← hd]; exact hs3
  · rw [i64_in (by omega) (by omega), hvl, show ((J.segs.length : Nat) : Int) - 1 = ((J.segs.length - 1 : Nat) : Int) by omega]
    refine ⟨fun n h => ∃ k : Nat, n = k ∧ k < J.segs.length ∧ lastNew J.segs k = lastNew J.segs (J.segs.length - 1) ∧ Sat h S (jA jb J :: dsk J.d D :: R), fun n _ => n.toNat, ⟨_, rfl, by omega, rfl, hs⟩, ?_⟩
    rintro n h2 ⟨k, rfl, hk, he, hs3⟩ _
    refine CondP.of (fun hc => ?_) (fun hc => ?_)
    · obtain ⟨k, rfl⟩ : ∃ m, k = m + 1 := ⟨k - 1, by simp at hc; omega⟩
      obtain ⟨ve, vs, hs4⟩ := jA_open hs3
      have hvl := (ownS.len (hs4.pick 2 rfl)).1
      obtain ⟨g, ga, gc⟩ := ownS.at (hs4.pick 2 rfl) (k := k + 1) hk
      have han : anewAt J.segs (k + 1) = (J.segs[k + 1]'hk).head.anew := by unfold anewAt; rw [List.getElem?_eq_getElem hk]
      refine ⟨vs, hs4.cell 8 rfl, ⟨by omega, by omega⟩, NilP.of ga ⟨anewAt J.segs (k + 1), ?_, CondP.of (fun hn => ?_) (fun hn => ?_)⟩⟩
      · rw [han]
        have := gc.get 2 _ rfl
        simpa [Nat.add_assoc] using this
      · have ew : IntKind.i64.wrap (((k + 1 : Nat) : Int) - 1) = (k : Int) := by rw [i64_in (by omega) (by omega)]; omega
        rw [ew]
        have hn : anewAt J.segs (k + 1) = false := by simpa using hn
        refine ⟨⟨k, rfl, by omega, ?_, hs3⟩, (by show k < k + 1; omega)⟩
        rw [← he, lastNew, if_neg (by rw [hn]; simp)]
      · have hn : anewAt J.segs (k + 1) = true := by simpa using hn
        refine ⟨?_, hs3⟩
        rw [← he, lastNew, if_pos hn]
    · have : k = 0 := by simp at hc; omega
      subst this
      exact ⟨by rw [← he]; rfl, hs3⟩
end
end Go.Sx.Tryz
namespace Go.Sx.Tryz
open Go Go.Sx Go.Proofs
set_option maxRecDepth 100000
set_option linter.unusedVariables false
noncomputable def c43 : Code := (Tryz.f43.body).getD .skip
def a43 : Ann := (.seq (.seq .leaf (.seq .leaf (.br .leaf .leaf))) (.seq .leaf (.inn (.loop [(2, .one (.i .i64))] (.seq (.join [(24, .one (.b))] .leaf (.br .leaf .leaf)) (.seq (.inn (.seq .leaf (.seq (.reg (.q 0 (.q 1 (.q 2 (.q 3 (.q 4 (.q 5 (.q 6 (.q 7 (.q 8 (.q 9 (.q 10 (.q 11 (.q 12 (.q 13 (.q 14 (.q 15 (.q 16 (.q 17 (.q 18 (.q 19 (.q 20 (.q 21 (.q 22 (.q 23 (.q 24 (.q 25 (.q 26 (.q 27 (.q 28 (.q 29 (.m 30 (.m 31 (.q 32 (.fin)) (.nil)) (.nil))))))))))))))))))))))))))))))))) (.br .leaf .leaf)))) .leaf))))))
theorem ok43 : okC tab 80 true c43 a43 = true := by kernel_rfl
theorem vc43 (j_b j_o : Nat) (h : Heap) (R : Value → Heap → Prop)
  (hv : CallsH Tryz.prog 105 #[.pointer (some ⟨j_b, j_o, none⟩)] h (fun r1 h1 => r1 = .tuple #[] ∧
   ∃ t1 : Bool, cellH h1 j_b (j_o + 9) = some (.bool t1) ∧
   CondP t1 (
   R (.tuple #[]) h1) (
   ∃ x1 : Sl, cellH h1 j_b (j_o + 8) = some (.slice x1.a x1.l x1.c) ∧
   ∃ (I1 : Int → Heap → Prop) (mu1 : Int → Heap → Nat), I1 (IntKind.i64.wrap (((x1.l : Nat) : Int) - 2)) h1 ∧ (∀ n1 : Int, ∀ h2, I1 n1 h2 → ∀ _ : Env,
   ∃ J1 : Bool → Heap → Prop, (∀ t2 : Bool, ∀ h3, J1 t2 h3 → ∀ _ : Env,
   CondP t2 (
   ∃ x2 : Sl, cellH h3 j_b (j_o + 8) = some (.slice x2.a x2.l x2.c) ∧
   ((0 : Int) ≤ IntKind.i64.wrap (n1 + 1) ∧ (IntKind.i64.wrap (n1 + 1) : Int) < ((x2.l : Nat) : Int)) ∧
   NilP x2.a (fun b1 o1 =>
   ∃ n2 : Int, ∃ t3 : Bool, ∃ n3 : Int, ∃ n4 : Int, CellsAt h3 b1 (o1 + ((IntKind.i64.wrap (n1 + 1)).toNat) * 5 + 1) [.int .u64 n2, .bool t3, .int .u64 n3, .int .u64 n4] ∧
   ∀ b2 h4, Fresh h3 (.cells #[.int .u64 0, .bool false, .int .u64 0, .int .u64 0] 103) b2 h4 →
   CanSt h4 b2 0 [.int .u64 n2, .bool t3, .int .u64 n3, .int .u64 n4] ∧ ∀ h5, Stored h4 b2 0 [.int .u64 n2, .bool t3, .int .u64 n3, .int .u64 n4] h5 →
   ∃ t4 : Bool, cellH h5 b2 1 = some (.bool t4) ∧
   CondP t4 (
   ∃ p1 : Option Addr, cellH h5 j_b j_o = some (.pointer p1) ∧
   ∃ x3 : Sl, cellH h5 j_b (j_o + 8) = some (.slice x3.a x3.l x3.c) ∧
   ((0 : Int) ≤ n1 ∧ (n1 : Int) < ((x3.l : Nat) : Int)) ∧
   NilP x3.a (fun b3 o2 =>
   ∃ n5 : Int, cellH h5 b3 (o2 + n1.toNat * 5) = some (.int .i64 n5) ∧
   CallsH Tryz.prog 99 #[.pointer p1, .int .i64 n5] h5 (fun r2 h6 => ∃ n6 : Int, r2 = .int .i64 n6 ∧
   CallsH Tryz.prog 98 #[.pointer (some ⟨j_b, j_o, none⟩), .int .i64 n6] h6 (fun r3 h7 => ∃ t5 : Bool, r3 = .bool t5 ∧
   CondP t5 (
   ∃ x4 : Sl, cellH h7 j_b (j_o + 8) = some (.slice x4.a x4.l x4.c) ∧
   CallsH Tryz.prog 106 #[.slice x4.a x4.l x4.c, .int .i64 n1, .int .i64 (IntKind.i64.wrap (n1 + 1))] h7 (fun r4 h8 => ∃ x5 : Sl, r4 = .slice x5.a x5.l x5.c ∧
   CanSt h8 j_b (j_o + 8) [.slice x5.a x5.l x5.c] ∧ ∀ h9, Stored h8 j_b (j_o + 8) [.slice x5.a x5.l x5.c] h9 →
   I1 (IntKind.i64.wrap (n1 - 1)) h9 ∧ mu1 (IntKind.i64.wrap (n1 - 1)) h9 < mu1 n1 h2)) (
   I1 (IntKind.i64.wrap (n1 - 1)) h7 ∧ mu1 (IntKind.i64.wrap (n1 - 1)) h7 < mu1 n1 h2))))) (
   ∃ n7 : Int, cellH h5 b2 2 = some (.int .u64 n7) ∧
   ∃ x6 : Sl, cellH h5 j_b (j_o + 8) = some (.slice x6.a x6.l x6.c) ∧
   ((0 : Int) ≤ n1 ∧ (n1 : Int) < ((x6.l : Nat) : Int)) ∧
   NilP x6.a (fun b4 o3 =>
   ∃ n8 : Int, cellH h5 b4 (o3 + n1.toNat * 5 + 1 + 2) = some (.int .u64 n8) ∧
   CondP (decide ((n7 : Int) ≤ n8)) (
   ∃ p2 : Option Addr, cellH h5 j_b j_o = some (.pointer p2) ∧
   ∃ x7 : Sl, cellH h5 j_b (j_o + 8) = some (.slice x7.a x7.l x7.c) ∧
   ((0 : Int) ≤ n1 ∧ (n1 : Int) < ((x7.l : Nat) : Int)) ∧
   NilP x7.a (fun b5 o4 =>
   ∃ n9 : Int, cellH h5 b5 (o4 + n1.toNat * 5) = some (.int .i64 n9) ∧
   CallsH Tryz.prog 99 #[.pointer p2, .int .i64 n9] h5 (fun r5 h10 => ∃ n10 : Int, r5 = .int .i64 n10 ∧
   CallsH Tryz.prog 98 #[.pointer (some ⟨j_b, j_o, none⟩), .int .i64 n10] h10 (fun r6 h11 => ∃ t6 : Bool, r6 = .bool t6 ∧
   CondP t6 (
   ∃ x8 : Sl, cellH h11 j_b (j_o + 8) = some (.slice x8.a x8.l x8.c) ∧
   CallsH Tryz.prog 106 #[.slice x8.a x8.l x8.c, .int .i64 n1, .int .i64 (IntKind.i64.wrap (n1 + 1))] h11 (fun r7 h12 => ∃ x9 : Sl, r7 = .slice x9.a x9.l x9.c ∧
   CanSt h12 j_b (j_o + 8) [.slice x9.a x9.l x9.c] ∧ ∀ h13, Stored h12 j_b (j_o + 8) [.slice x9.a x9.l x9.c] h13 →
   I1 (IntKind.i64.wrap (n1 - 1)) h13 ∧ mu1 (IntKind.i64.wrap (n1 - 1)) h13 < mu1 n1 h2)) (
   I1 (IntKind.i64.wrap (n1 - 1)) h11 ∧ mu1 (IntKind.i64.wrap (n1 - 1)) h11 < mu1 n1 h2))))) (
   I1 (IntKind.i64.wrap (n1 - 1)) h5 ∧ mu1 (IntKind.i64.wrap (n1 - 1)) h5 < mu1 n1 h2))))) (
   R (.tuple #[]) h3)) ∧
   CondP (decide ((n1 : Int) ≥ 0)) (
   ∃ t7 : Bool, cellH h2 j_b (j_o + 9) = some (.bool t7) ∧
   J1 (!t7) h2) (
   J1 false h2))))) :
  CallsH Tryz.prog 43 #[.pointer (some ⟨j_b, j_o, none⟩)] h R :=
  calls_of_vc tabOk mixed Tryz.func43 (c := c43) (by kernel_rfl) (n := 80) rfl (rs := []) (by kernel_rfl) ok43 (args := [.pointer (some ⟨j_b, j_o, none⟩)]) (Nat.le_of_ble_eq_true rfl) (Eq.mpr (by kernel_rfl) hv)
end Go.Sx.Tryz
namespace Go.Sx.Tryz
open Go Go.Sx Go.Proofs
set_option linter.unusedVariables false
section
variable {H H' : Heap} {S : PH} {R : List Asn} {jb : Nat} {J : Jn}
def idxAt (l : List Seg) (i : Nat) : Nat := match l[i]? with | some x => x.head.i | none => 0
def isIdle (l : List Seg) (i : Nat) : Bool := anewAt l (i + 1) || decide (idxAt l (i + 1) ≤ idxAt l i)
def Jn.idleN : Nat → Jn → Dk → Dk × Jn
  | 0, J, D => (D, J)
  | i + 1, J, D => if J.broken = true then (D, J) else if isIdle J.segs i = true then Jn.idleN i (J.dropAt D i).2.2 (J.dropAt D i).2.1 else Jn.idleN i J D
def Jn.idle (J : Jn) (D : Dk) : Dk × Jn := if (J.begun D).2.broken = true then J.begun D else (J.begun D).2.idleN ((J.begun D).2.segs.length - 1) (J.begun D).1
theorem getSeg {l : List Seg} {i : Nat} (h : i < l.length) : fileAt l i = l[i].file ∧ anewAt l i = l[i].head.anew ∧ idxAt l i = l[i].head.i := by
  unfold fileAt anewAt idxAt
  rw [List.getElem?_eq_getElem h]
  exact ⟨rfl, rfl, rfl⟩
theorem dropStep {J' : Jn} {D' : Dk} {k : Nat} {h5 : Heap} (hs3 : Sat h5 S (jA jb J' :: dsk J'.d D' :: R)) (hk : k < J'.segs.length) (hf' : ∀ x ∈ J'.segs, x.file < 32)
    {Q : Heap → Prop} (hq : ∀ H', Sat H' S (jA jb (J'.dropAt D' k).2.2 :: dsk J'.d (J'.dropAt D' k).2.1 :: R) → Q H') {j : Int} (hj : j = ((k + 1 : Nat) : Int)) :
    CallsH Tryz.prog 99 #[.pointer (some ⟨J'.d, 0, none⟩), .int .i64 ((J'.segs[k]).file : Int)] h5 (fun r2 h6 => ∃ n6 : Int, r2 = .int .i64 n6 ∧
     CallsH Tryz.prog 98 #[.pointer (some ⟨jb, 0, none⟩), .int .i64 n6] h6 (fun r3 h7 => ∃ t5 : Bool, r3 = .bool t5 ∧
     CondP t5 (
     ∃ x4 : Sl, cellH h7 jb 8 = some (.slice x4.a x4.l x4.c) ∧
     CallsH Tryz.prog 106 #[.slice x4.a x4.l x4.c, .int .i64 (k : Int), .int .i64 j] h7 (fun r4 h8 => ∃ x5 : Sl, r4 = .slice x5.a x5.l x5.c ∧
     CanSt h8 jb 8 [.slice x5.a x5.l x5.c] ∧ ∀ h9, Stored h8 jb 8 [.slice x5.a x5.l x5.c] h9 → Q h9)) (Q h7))) := by
  obtain ⟨hfa, _, _⟩ := getSeg hk
  rw [← hfa]
  refine drp_spec (by rw [hfa]; exact hf' _ (List.getElem_mem _)) hs3.swap fun h3 hs5 => ⟨_, rfl, done_spec hs5.swap fun h4 hs6 => ⟨_, rfl, CondP.of (fun hc => ?_) (fun hc => ?_)⟩⟩
  · have hz : (D'.drp (fileAt J'.segs k)).1 = 0 := by simpa using hc
    have e : J'.dropAt D' k = (true, (D'.drp (fileAt J'.segs k)).2, { J'.note 0 with segs := J'.segs.eraseIdx k }) := by rw [Jn.dropAt, if_pos hz]
    rw [hz] at hs6
    obtain ⟨ve, vs, hs7⟩ := jA_open hs6
    refine ⟨vs, hs7.cell 8 rfl, delete_spec (i := k) (hs7.sel [2]) hk hj fun v' h5 hs8 => ⟨v', rfl, ?_⟩⟩
    refine set_segs (J := J'.note 0) hs8 fun h6 hs9 => hq h6 ?_
    rw [e]; exact hs9
  · have hz : ¬ (D'.drp (fileAt J'.segs k)).1 = 0 := by simpa using hc
    have e : J'.dropAt D' k = (false, (D'.drp (fileAt J'.segs k)).2, J'.note (D'.drp (fileAt J'.segs k)).1) := by rw [Jn.dropAt, if_neg hz]
    refine hq h4 ?_
    rw [e]; exact hs6
theorem dropAt_facts (J : Jn) (D : Dk) (k : Nat) (hk : k < J.segs.length) : (J.dropAt D k).2.2.d = J.d ∧ J.segs.length ≤ (J.dropAt D k).2.2.segs.length + 1 ∧ (J.dropAt D k).2.2.segs.length ≤ J.segs.length ∧ (∀ x ∈ (J.dropAt D k).2.2.segs, x ∈ J.segs) ∧ (J.dropAt D k).2.2.log = J.log := by
  unfold Jn.dropAt
  split
  · have := List.length_eraseIdx_of_lt hk
    exact ⟨rfl, by show _ ≤ (J.segs.eraseIdx k).length + 1; omega, by show (J.segs.eraseIdx k).length ≤ _; omega, fun x hx => List.mem_of_mem_eraseIdx hx, rfl⟩
  · exact ⟨rfl, by show _ ≤ J.segs.length + 1; omega, Nat.le_refl _, fun x hx => hx, rfl⟩
end
end Go.Sx.Tryz
