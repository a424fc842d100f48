/-
  Part 7 of the proof: K25, V149, V107, V108, V150, V40, V41, V103, K26, K27, K28, V36, V46, V47, K29, V35, K30, V33, V79.
-/
import Derived.Test.YtegikhoholfcmaaGreatM06
namespace Go.Sx.Tryz
open Go Go.Sx Go.Proofs
set_option linter.unusedVariables false
section
variable {H H' : Heap} {S : PH} {R : List Asn} {jb : Nat} {J : Jn}
theorem dropN_facts : ∀ (k : Nat) (J : Jn) (D : Dk), k < J.segs.length → (J.dropN k D).2.d = J.d ∧ 0 < (J.dropN k D).2.segs.length ∧ (J.dropN k D).2.segs.length ≤ J.segs.length ∧ (∀ x ∈ (J.dropN k D).2.segs, x ∈ J.segs) ∧ (J.dropN k D).2.log = J.log
  | 0, J, D, h => ⟨rfl, h, Nat.le_refl _, fun x hx => hx, rfl⟩
  | k + 1, J, D, h => by
    obtain ⟨f1, f2, f3, f4, f5⟩ := dropAt_facts J D 0 (by omega)
    unfold Jn.dropN
    split
    · obtain ⟨g1, g2, g3, g4, g5⟩ := dropN_facts k (J.dropAt D 0).2.2 (J.dropAt D 0).2.1 (by omega)
      exact ⟨g1.trans f1, g2, Nat.le_trans g3 f3, fun x hx => f4 x (g4 x hx), g5.trans f5⟩
    · exact ⟨f1, by omega, f3, f4, f5⟩
theorem idle_spec {D : Dk} (hs : Sat H S (jA jb J :: dsk J.d D :: R)) (hfl : ∀ x ∈ J.segs, x.file < 32) (hsl : J.segs.length < 1000000) (h0 : 0 < J.segs.length)
    {K : Value → Heap → Prop} (hK : ∀ H', Sat H' S (jA jb (J.idle D).2 :: dsk J.d (J.idle D).1 :: R) → K (.tuple #[]) H') : CallsH Tryz.prog 43 #[.pointer (some ⟨jb, 0, none⟩)] H K := by
  apply vc43
  obtain ⟨f1, f2, f3, f4, f5⟩ := dropN_facts (lastNew J.segs (J.segs.length - 1)) J D (by have := lastNew_le J.segs (J.segs.length - 1); omega)
  have eb : J.dropN (lastNew J.segs (J.segs.length - 1)) D = J.begun D := rfl
  rw [eb] at f1 f2 f3 f4 f5
  refine begun_spec hs hfl hsl h0 fun h1 hs1 => ⟨rfl, ?_⟩
  obtain ⟨ve, vs, hs2⟩ := jA_open hs1
  have hvl := (ownS.len (hs2.pick 2 rfl)).1
  refine ⟨_, hs2.cell 9 rfl, CondP.of (fun hc => ?_) (fun hc => ⟨vs, hs2.cell 8 rfl, ?_⟩)⟩
  · have e : J.idle D = J.begun D := by rw [Jn.idle, if_pos hc]
    refine hK h1 ?_
    rw [e]; exact hs1
  have e : J.idle D = (J.begun D).2.idleN ((J.begun D).2.segs.length - 1) (J.begun D).1 := by rw [Jn.idle, if_neg (by rw [hc]; simp)]
  have ew : IntKind.i64.wrap (((vs.l : Nat) : Int) - 2) = (((J.begun D).2.segs.length - 1 : Nat) : Int) - 1 := by rw [i64_in (by omega) (by omega)]; omega
  rw [ew]
  rw [← f1] at hs1
  refine ⟨fun n h => ∃ (k : Nat) (J' : Jn) (D' : Dk), n = (k : Int) - 1 ∧ J'.d = J.d ∧ k < J'.segs.length ∧ J'.segs.length < 1000000 ∧ (∀ x ∈ J'.segs, x.file < 32) ∧ J'.idleN k D' = J.idle D ∧ Sat h S (jA jb J' :: dsk J'.d D' :: R), fun n _ => (n + 1).toNat, ⟨_, _, _, rfl, f1, by omega, by omega, fun x hx => hfl x (f4 x hx), e.symm, hs1⟩, ?_⟩
  rintro n h2 ⟨k, J', D', rfl, hd, hk, hl', hf', he, hs3⟩ _
  have fin : J'.idleN k D' = (D', J') → K (.tuple #[]) h2 := by
    intro h
    rw [h] at he
    refine hK h2 ?_
    rw [← he, ← hd]; exact hs3
  refine ⟨fun t h => h = h2 ∧ t = (decide (0 < k) && !J'.broken), ?_, ?_⟩
  · rintro t h3 ⟨rfl, rfl⟩ _
    refine CondP.of (fun hc => ?_) (fun hc => ?_)
    · have hk0 : 0 < k := by simp at hc; omega
      have hbr : J'.broken = false := by simp at hc; exact hc.2
      obtain ⟨k, rfl⟩ : ∃ m, k = m + 1 := ⟨k - 1, by omega⟩
      have hn1 : (((k + 1 : Nat) : Int) - 1) = (k : Int) := by omega
      rw [hn1, i64_succ (by omega)]
      simp only [Int.toNat_natCast]
      obtain ⟨ve, vs, hs4⟩ := jA_open hs3
      have hvl := (ownS.len (hs4.pick 2 rfl)).1
      have hc8 := hs4.cell 8 (v := .slice vs.a vs.l vs.c) rfl
      obtain ⟨g, ga, gc⟩ := ownS.at (hs4.pick 2 rfl) (k := k + 1) hk
      obtain ⟨_, han, hix⟩ := getSeg hk
      obtain ⟨_, _, hix0⟩ := getSeg (l := J'.segs) (i := k) (by omega)
      have hnext : ∀ (J2 : Jn) (D2 : Dk) (h : Heap), J2.d = J.d → k < J2.segs.length → J2.segs.length < 1000000 → (∀ x ∈ J2.segs, x.file < 32) → J2.idleN k D2 = J.idle D → Sat h S (jA jb J2 :: dsk J2.d D2 :: R) →
          (∃ (k' : Nat) (J' : Jn) (D' : Dk), IntKind.i64.wrap ((k : Int) - 1) = (k' : Int) - 1 ∧ J'.d = J.d ∧ k' < J'.segs.length ∧ J'.segs.length < 1000000 ∧ (∀ x ∈ J'.segs, x.file < 32) ∧ J'.idleN k' D' = J.idle D ∧ Sat h S (jA jb J' :: dsk J'.d D' :: R)) ∧ (IntKind.i64.wrap ((k : Int) - 1) + 1).toNat < ((k : Int) + 1).toNat := by
        intro J2 D2 h a1 a2 a3 a4 a5 a6
        rw [i64_in (by omega) (by omega)]
        exact ⟨⟨k, J2, D2, rfl, a1, a2, a3, a4, a5, a6⟩, by omega⟩
      rw [Jn.idleN, if_neg (by rw [hbr]; simp)] at he
      refine ⟨vs, hc8, ⟨by omega, by omega⟩, NilP.of ga ⟨((J'.segs[k + 1]'hk).head.serial : Int), (J'.segs[k + 1]'hk).head.anew, ((J'.segs[k + 1]'hk).head.i : Int), ((J'.segs[k + 1]'hk).head.t : Int), ?_, ?_⟩⟩
      · have := cells_sub gc 1 4
        exact this
      intro b2 h4 f4'
      have hs5 := hs3.fresh f4'
      have hs5 : Sat h4 S (lst b2 103 [.int .u64 0, .bool false, .int .u64 0, .int .u64 0] :: jA jb J' :: dsk J'.d D' :: R) := hs5
      refine hs5.store (Nat.le_refl _) fun h5 hs6 => ?_
      have hs6 : Sat h5 S (lst b2 103 (hdV (J'.segs[k + 1]'hk).head) :: jA jb J' :: dsk J'.d D' :: R) := hs6
      obtain ⟨ve2, vs2, hs7⟩ := jA_open hs6.swap
      have hvl2 := (ownS.len (hs7.pick 2 rfl)).1
      have hc82 := hs7.cell 8 (v := .slice vs2.a vs2.l vs2.c) rfl
      obtain ⟨g2, ga2, gc2⟩ := ownS.at (hs7.pick 2 rfl) (k := k) (by omega)
      have hdrop : isIdle J'.segs k = true → _ := fun hid => dropStep (J' := J') (D' := D') (k := k) (R := lst b2 103 (hdV (J'.segs[k + 1]'hk).head) :: R) (hs6.sel [1, 1]) (by omega) hf'
        (Q := fun h => (∃ (k' : Nat) (J' : Jn) (D' : Dk), IntKind.i64.wrap ((k : Int) - 1) = (k' : Int) - 1 ∧ J'.d = J.d ∧ k' < J'.segs.length ∧ J'.segs.length < 1000000 ∧ (∀ x ∈ J'.segs, x.file < 32) ∧ J'.idleN k' D' = J.idle D ∧ Sat h S (jA jb J' :: dsk J'.d D' :: R)) ∧ (IntKind.i64.wrap ((k : Int) - 1) + 1).toNat < ((k : Int) + 1).toNat) (fun H' hs' => by
          obtain ⟨q1, q2, q3, q4, q5⟩ := dropAt_facts J' D' k (by omega)
          rw [if_pos hid] at he
          refine hnext _ _ H' (q1.trans hd) (by omega) (by omega) (fun x hx => hf' x (q4 x hx)) he ?_
          rw [q1]; exact hs'.del 2) rfl
      have hfile : cellH h5 g2 (0 + k * 5) = some (.int .i64 ((J'.segs[k]'(by omega)).file : Int)) := gc2.get 0 _ rfl
      refine ⟨_, hs6.cell 1 rfl, CondP.of (fun hn => ?_) (fun hn => ?_)⟩
      · refine ⟨_, hs7.cell 0 rfl, vs2, hc82, ⟨by omega, by omega⟩, NilP.of ga2 ⟨_, hfile, ?_⟩⟩
        exact hdrop (by rw [isIdle, han, hn]; rfl)
      · refine ⟨_, hs6.cell 2 rfl, vs2, hc82, ⟨by omega, by omega⟩, NilP.of ga2 ⟨((J'.segs[k]'(by omega)).head.i : Int), ?_, CondP.of (fun hle => ?_) (fun hle => ?_)⟩⟩
        · have := gc2.get 3 _ rfl
          simpa [Nat.add_assoc] using this
        · refine ⟨_, hs7.cell 0 rfl, vs2, hc82, ⟨by omega, by omega⟩, NilP.of ga2 ⟨_, hfile, ?_⟩⟩
          refine hdrop ?_
          have hle := of_decide_eq_true hle
          rw [isIdle, han, hn, hix, hix0, Bool.false_or]
          exact decide_eq_true (by omega)
        · have hid : ¬ isIdle J'.segs k = true := by
            have hle := of_decide_eq_false hle
            rw [isIdle, han, hn, hix, hix0, Bool.false_or]
            simp; omega
          rw [if_neg hid] at he
          exact hnext J' D' h5 hd (by omega) hl' hf' he hs6.drop
    · have : k = 0 ∨ J'.broken = true := by
        rcases Nat.eq_zero_or_pos k with h | h
        · exact .inl h
        · right; simpa [h] using hc
      refine fin ?_
      rcases this with rfl | h
      · rfl
      · cases k with
        | zero => rfl
        | succ k => rw [Jn.idleN, if_pos h]
  · refine CondP.of (fun hc => ?_) (fun hc => ?_)
    · obtain ⟨ve, vs, hs4⟩ := jA_open hs3
      have hk0 : 0 < k := by simp at hc; omega
      exact ⟨_, hs4.cell 9 rfl, rfl, by rw [decide_eq_true hk0, Bool.true_and]⟩
    · have hk0 : ¬ 0 < k := by simp at hc; omega
      exact ⟨rfl, by rw [decide_eq_false hk0, Bool.false_and]⟩
end
end Go.Sx.Tryz
namespace Go.Sx.Tryz
open Go Go.Sx Go.Proofs
set_option maxRecDepth 100000
set_option linter.unusedVariables false
noncomputable def c149 : Code := (Tryz.f149.body).getD .skip
def a149 : Ann := (.seq .leaf (.seq (.seq .leaf (.br (.seq .leaf .leaf) .leaf)) (.seq .leaf .leaf)))
theorem ok149 : okC tab 8 true c149 a149 = true := by kernel_rfl
theorem vc149 (s_ : Sl) (h : Heap) (R : Value → Heap → Prop)
  (hv : CondP s_.a.isNone (
   R (.slice none 0 0) h) (
   ∀ b1 h1, Fresh h (.cells #[] 107) b1 h1 →
   RunK Tryz.prog (.sl) (Builtin.append_ #[95, 95] 95 #[.slice (some ⟨b1, 0, none⟩) 0 0, .slice s_.a s_.l s_.c]) h1 (fun x1 h2 =>
   R (.slice x1.a x1.l x1.c) h2))) :
  CallsH Tryz.prog 149 #[.slice s_.a s_.l s_.c] h R :=
  calls_of_vc tabOk mixed Tryz.func149 (c := c149) (by kernel_rfl) (n := 8) rfl (rs := [.tmp 2]) (by kernel_rfl) ok149 (args := [.slice s_.a s_.l s_.c]) (Nat.le_of_ble_eq_true rfl) (Eq.mpr (by kernel_rfl) hv)
end Go.Sx.Tryz
namespace Go.Sx.Tryz
open Go Go.Sx Go.Proofs
set_option maxRecDepth 100000
set_option linter.unusedVariables false
noncomputable def c107 : Code := (Tryz.f107.body).getD .skip
def a107 : Ann := (.seq .leaf (.seq (.seq (.reg (.q 0 (.q 1 (.q 2 (.q 3 (.q 4 (.q 5 (.q 6 (.q 7 (.q 8 (.q 9 (.q 10 (.q 11 (.m 12 (.m 13 (.q 14 (.fin)) (.nil)) (.nil))))))))))))))) (.br (.seq .leaf .leaf) .leaf)) (.seq .leaf (.seq .leaf .leaf))))
theorem ok107 : okC tab 27 true c107 a107 = true := by kernel_rfl
theorem vc107 (j_b j_o : Nat) (h : Heap) (R : Value → Heap → Prop)
  (hv : ∃ p1 : Option Addr, cellH h j_b j_o = some (.pointer p1) ∧
   ∃ x1 : Sl, cellH h j_b (j_o + 8) = some (.slice x1.a x1.l x1.c) ∧
   ((0 : Int) ≤ 0 ∧ (0 : Int) < ((x1.l : Nat) : Int)) ∧
   NilP x1.a (fun b1 o1 =>
   ∃ n1 : Int, cellH h b1 o1 = some (.int .i64 n1) ∧
   CallsH Tryz.prog 99 #[.pointer p1, .int .i64 n1] h (fun r1 h1 => ∃ n2 : Int, r1 = .int .i64 n2 ∧
   CallsH Tryz.prog 98 #[.pointer (some ⟨j_b, j_o, none⟩), .int .i64 n2] h1 (fun r2 h2 => ∃ t1 : Bool, r2 = .bool t1 ∧
   CondP (!t1) (
   R (.bool false) h2) (
   ∃ x2 : Sl, cellH h2 j_b (j_o + 8) = some (.slice x2.a x2.l x2.c) ∧
   ((0 : Int) ≤ 1 ∧ 1 ≤ ((x2.l : Nat) : Int)) ∧
   CallsH Tryz.prog 149 #[.slice (subA x2.a 1 x2.c 5) (x2.l - 1) (x2.c - 1)] h2 (fun r3 h3 => ∃ x3 : Sl, r3 = .slice x3.a x3.l x3.c ∧
   CanSt h3 j_b (j_o + 8) [.slice x3.a x3.l x3.c] ∧ ∀ h4, Stored h3 j_b (j_o + 8) [.slice x3.a x3.l x3.c] h4 →
   R (.bool true) h4)))))) :
  CallsH Tryz.prog 107 #[.pointer (some ⟨j_b, j_o, none⟩)] h R :=
  calls_of_vc tabOk mixed Tryz.func107 (c := c107) (by kernel_rfl) (n := 27) rfl (rs := [.tmp 2]) (by kernel_rfl) ok107 (args := [.pointer (some ⟨j_b, j_o, none⟩)]) (Nat.le_of_ble_eq_true rfl) (Eq.mpr (by kernel_rfl) hv)
end Go.Sx.Tryz
namespace Go.Sx.Tryz
open Go Go.Sx Go.Proofs
set_option maxRecDepth 100000
set_option linter.unusedVariables false
noncomputable def c108 : Code := (Tryz.f108.body).getD .skip
def a108 : Ann := (.seq .leaf (.seq .leaf (.seq (.seq .leaf (.br .leaf .leaf)) (.reg (.q 0 (.q 1 (.q 2 (.q 3 (.q 4 (.q 5 (.q 6 (.q 7 (.q 8 (.q 9 (.q 10 (.q 11 (.q 12 (.m 13 (.q 14 (.q 15 (.q 16 (.m 17 (.fin) (.nil))))) (.nil)))))))))))))))))))
theorem ok108 : okC tab 43 true c108 a108 = true := by kernel_rfl
theorem vc108 (j_b j_o : Nat) (h : Heap) (R : Value → Heap → Prop)
  (hv : ∃ x1 : Sl, cellH h j_b (j_o + 8) = some (.slice x1.a x1.l x1.c) ∧
   ((0 : Int) ≤ 0 ∧ (0 : Int) < ((x1.l : Nat) : Int)) ∧
   NilP x1.a (fun b1 o1 =>
   ∃ n1 : Int, ∃ t1 : Bool, ∃ n2 : Int, ∃ n3 : Int, CellsAt h b1 (o1 + 1) [.int .u64 n1, .bool t1, .int .u64 n2, .int .u64 n3] ∧
   ∀ b2 h1, Fresh h (.cells #[.int .u64 0, .bool false, .int .u64 0, .int .u64 0] 103) b2 h1 →
   CanSt h1 b2 0 [.int .u64 n1, .bool t1, .int .u64 n2, .int .u64 n3] ∧ ∀ h2, Stored h1 b2 0 [.int .u64 n1, .bool t1, .int .u64 n2, .int .u64 n3] h2 →
   ∃ x2 : Sl, cellH h2 j_b (j_o + 4 + 3) = some (.slice x2.a x2.l x2.c) ∧
   CallsH Tryz.prog 75 #[.slice x2.a x2.l x2.c, .func (.func 150) #[] #[.pointer (some ⟨b2, 0, none⟩)]] h2 (fun r1 h3 => ∃ n4 : Int, r1 = .int .i64 n4 ∧
   CondP (decide ((n4 : Int) < 0)) (
   ∃ x3 : Sl, cellH h3 j_b (j_o + 4 + 3) = some (.slice x3.a x3.l x3.c) ∧
   ∃ n5 : Int, cellH h3 b2 2 = some (.int .u64 n5) ∧
   ∃ n6 : Int, cellH h3 b2 3 = some (.int .u64 n6) ∧
   ∃ x4 : Sl, cellH h3 j_b (j_o + 4 + 3) = some (.slice x4.a x4.l x4.c) ∧
   ((0 : Int) ≤ ((x3.l : Nat) : Int) ∧ ((x3.l : Nat) : Int) ≤ ((x4.l : Nat) : Int)) ∧
   CallsH Tryz.prog 89 #[.slice (subA x4.a x3.l x4.c 3) (x4.l - x3.l) (x4.c - x3.l)] h3 (fun r2 h4 => ∃ x5 : Sl, r2 = .slice x5.a x5.l x5.c ∧
   cellH h4 b2 3 = some (.int .u64 n6) ∧
   cellH h4 b2 2 = some (.int .u64 n5) ∧
   CanSt h4 j_b (j_o + 4) [.int .u64 n5, .int .u64 n6, .slice none 0 0, .slice x5.a x5.l x5.c] ∧ ∀ h5, Stored h4 j_b (j_o + 4) [.int .u64 n5, .int .u64 n6, .slice none 0 0, .slice x5.a x5.l x5.c] h5 →
   R (.tuple #[]) h5)) (
   ∃ n7 : Int, cellH h3 b2 2 = some (.int .u64 n7) ∧
   ∃ n8 : Int, cellH h3 b2 3 = some (.int .u64 n8) ∧
   ∃ x6 : Sl, cellH h3 j_b (j_o + 4 + 3) = some (.slice x6.a x6.l x6.c) ∧
   ((0 : Int) ≤ n4 ∧ n4 ≤ ((x6.l : Nat) : Int)) ∧
   CallsH Tryz.prog 89 #[.slice (subA x6.a n4.toNat x6.c 3) (x6.l - n4.toNat) (x6.c - n4.toNat)] h3 (fun r3 h6 => ∃ x7 : Sl, r3 = .slice x7.a x7.l x7.c ∧
   cellH h6 b2 3 = some (.int .u64 n8) ∧
   cellH h6 b2 2 = some (.int .u64 n7) ∧
   CanSt h6 j_b (j_o + 4) [.int .u64 n7, .int .u64 n8, .slice none 0 0, .slice x7.a x7.l x7.c] ∧ ∀ h7, Stored h6 j_b (j_o + 4) [.int .u64 n7, .int .u64 n8, .slice none 0 0, .slice x7.a x7.l x7.c] h7 →
   R (.tuple #[]) h7))))) :
  CallsH Tryz.prog 108 #[.pointer (some ⟨j_b, j_o, none⟩)] h R :=
  calls_of_vc tabOk mixed Tryz.func108 (c := c108) (by kernel_rfl) (n := 43) rfl (rs := []) (by kernel_rfl) ok108 (args := [.pointer (some ⟨j_b, j_o, none⟩)]) (Nat.le_of_ble_eq_true rfl) (Eq.mpr (by kernel_rfl) hv)
end Go.Sx.Tryz
namespace Go.Sx.Tryz
open Go Go.Sx Go.Proofs
set_option maxRecDepth 100000
set_option linter.unusedVariables false
noncomputable def c150 : Code := (Tryz.f150.body).getD .skip
def a150 : Ann := (.seq .leaf (.seq .leaf .leaf))
theorem ok150 : okC tab 9 true c150 a150 = true := by kernel_rfl
theorem vc150 (x_0 : Int) (x_1 : Int) (x_2 : Sl) (c0_b c0_o : Nat) (h : Heap) (R : Value → Heap → Prop)
  (hv : ∀ b1 h1, Fresh h (.cells #[.int .u64 x_0, .int .u64 x_1, .slice x_2.a x_2.l x_2.c] 85) b1 h1 →
   ∃ n1 : Int, cellH h1 b1 0 = some (.int .u64 n1) ∧
   ∃ n2 : Int, cellH h1 c0_b (c0_o + 2) = some (.int .u64 n2) ∧
   R (.bool (decide ((n1 : Int) > n2))) h1) :
  CallsH Tryz.prog 150 #[.agg #[.int .u64 x_0, .int .u64 x_1, .slice x_2.a x_2.l x_2.c], .pointer (some ⟨c0_b, c0_o, none⟩)] h R :=
  calls_of_vc tabOk mixed Tryz.func150 (c := c150) (by kernel_rfl) (n := 9) rfl (rs := [.tmp 3]) (by kernel_rfl) ok150 (args := [.agg #[.int .u64 x_0, .int .u64 x_1, .slice x_2.a x_2.l x_2.c], .pointer (some ⟨c0_b, c0_o, none⟩)]) (Nat.le_of_ble_eq_true rfl) (Eq.mpr (by kernel_rfl) hv)
end Go.Sx.Tryz
namespace Go.Sx.Tryz
open Go Go.Sx Go.Proofs
set_option maxRecDepth 100000
set_option linter.unusedVariables false
noncomputable def c40 : Code := (Tryz.f40.body).getD .skip
def a40 : Ann := (.seq (.join [(18, .one (.b))] .leaf (.br .leaf .leaf)) (.seq (.seq .leaf (.br (.seq .leaf .leaf) .leaf)) (.seq .leaf (.seq (.seq .leaf (.br .leaf .leaf)) .leaf))))
theorem ok40 : okC tab 58 true c40 a40 = true := by kernel_rfl
theorem vc40 (j_b j_o : Nat) (file_ : Int) (b_ : Sl) (used_ : Bool) (h : Heap) (R : Value → Heap → Prop)
  (hv : ∃ J1 : Bool → Heap → Prop, (∀ t1 : Bool, ∀ h1, J1 t1 h1 → ∀ _ : Env,
   CondP t1 (
   R (.tuple #[]) h1) (
   CondP (!used_) (
   ∃ p1 : Option Addr, cellH h1 j_b j_o = some (.pointer p1) ∧
   CallsH Tryz.prog 99 #[.pointer p1, .int .i64 file_] h1 (fun r1 h2 => ∃ n1 : Int, r1 = .int .i64 n1 ∧
   CallsH Tryz.prog 98 #[.pointer (some ⟨j_b, j_o, none⟩), .int .i64 n1] h2 (fun r2 h3 => ∃ t2 : Bool, r2 = .bool t2 ∧
   R (.tuple #[]) h3))) (
   CallsH Tryz.prog 100 #[.slice b_.a b_.l b_.c] h1 (fun r3 h4 => ∃ n2 : Int, ∃ n3 : Int, r3 = .tuple #[.int .i64 n2, .int .i64 n3] ∧
   CondP (decide ((n2 : Int) < ((b_.l : Nat) : Int))) (
   ∃ p2 : Option Addr, cellH h4 j_b j_o = some (.pointer p2) ∧
   CallsH Tryz.prog 101 #[.pointer p2, .int .i64 file_, .int .i64 n2] h4 (fun r4 h5 => ∃ n4 : Int, r4 = .int .i64 n4 ∧
   CallsH Tryz.prog 98 #[.pointer (some ⟨j_b, j_o, none⟩), .int .i64 n4] h5 (fun r5 h6 => ∃ t3 : Bool, r5 = .bool t3 ∧
   CondP (!t3) (
   R (.tuple #[]) h6) (
   ∃ p3 : Option Addr, cellH h6 j_b j_o = some (.pointer p3) ∧
   CallsH Tryz.prog 102 #[.pointer p3, .int .i64 file_] h6 (fun r6 h7 => ∃ n5 : Int, r6 = .int .i64 n5 ∧
   CallsH Tryz.prog 98 #[.pointer (some ⟨j_b, j_o, none⟩), .int .i64 n5] h7 (fun r7 h8 => ∃ t4 : Bool, r7 = .bool t4 ∧
   R (.tuple #[]) h8)))))) (
   ∃ p4 : Option Addr, cellH h4 j_b j_o = some (.pointer p4) ∧
   CallsH Tryz.prog 102 #[.pointer p4, .int .i64 file_] h4 (fun r8 h9 => ∃ n6 : Int, r8 = .int .i64 n6 ∧
   CallsH Tryz.prog 98 #[.pointer (some ⟨j_b, j_o, none⟩), .int .i64 n6] h9 (fun r9 h10 => ∃ t5 : Bool, r9 = .bool t5 ∧
   R (.tuple #[]) h10))))))) ∧
   ∃ t6 : Bool, cellH h j_b (j_o + 9) = some (.bool t6) ∧
   CondP t6 (
   J1 true h) (
   J1 ((((b_.l : Nat) : Int) : Int) == 0) h)) :
  CallsH Tryz.prog 40 #[.pointer (some ⟨j_b, j_o, none⟩), .int .i64 file_, .slice b_.a b_.l b_.c, .bool used_] h R :=
  calls_of_vc tabOk mixed Tryz.func40 (c := c40) (by kernel_rfl) (n := 58) rfl (rs := []) (by kernel_rfl) ok40 (args := [.pointer (some ⟨j_b, j_o, none⟩), .int .i64 file_, .slice b_.a b_.l b_.c, .bool used_]) (Nat.le_of_ble_eq_true rfl) (Eq.mpr (by kernel_rfl) hv)
end Go.Sx.Tryz
namespace Go.Sx.Tryz
open Go Go.Sx Go.Proofs
set_option maxRecDepth 100000
set_option linter.unusedVariables false
noncomputable def c41 : Code := (Tryz.f41.body).getD .skip
def a41 : Ann := (.seq .leaf (.seq .leaf .leaf))
theorem ok41 : okC tab 9 true c41 a41 = true := by kernel_rfl
theorem vc41 (s_ : Sl) (v_ : Int) (h : Heap) (R : Value → Heap → Prop)
  (hv : CallsH Tryz.prog 103 #[.slice s_.a s_.l s_.c, .int .i64 v_] h (fun r1 h1 => ∃ n1 : Int, r1 = .int .i64 n1 ∧
   R (.bool (decide ((n1 : Int) ≥ 0))) h1)) :
  CallsH Tryz.prog 41 #[.slice s_.a s_.l s_.c, .int .i64 v_] h R :=
  calls_of_vc tabOk mixed Tryz.func41 (c := c41) (by kernel_rfl) (n := 9) rfl (rs := [.tmp 4]) (by kernel_rfl) ok41 (args := [.slice s_.a s_.l s_.c, .int .i64 v_]) (Nat.le_of_ble_eq_true rfl) (Eq.mpr (by kernel_rfl) hv)
end Go.Sx.Tryz
namespace Go.Sx.Tryz
open Go Go.Sx Go.Proofs
set_option maxRecDepth 100000
set_option linter.unusedVariables false
noncomputable def c103 : Code := (Tryz.f103.body).getD .skip
def a103 : Ann := (.seq .leaf (.seq (.seq .leaf (.inn (.loop [(8, .one (.i .i64))] (.seq .leaf (.seq (.br .leaf .leaf) (.seq (.inn (.seq .leaf (.seq .leaf (.br (.seq .leaf .leaf) .leaf)))) .leaf)))))) (.seq .leaf .leaf)))
theorem ok103 : okC tab 19 true c103 a103 = true := by kernel_rfl
theorem vc103 (s_ : Sl) (v_ : Int) (h : Heap) (R : Value → Heap → Prop)
  (hv : ∃ (I1 : Int → Heap → Prop) (mu1 : Int → Heap → Nat), I1 0 h ∧ (∀ n1 : Int, ∀ h1, I1 n1 h1 → ∀ _ : Env,
   CondP (decide ((n1 : Int) < ((s_.l : Nat) : Int))) (
   ((0 : Int) ≤ n1 ∧ (n1 : Int) < ((s_.l : Nat) : Int)) ∧
   NilP s_.a (fun b1 o1 =>
   ∃ n2 : Int, cellH h1 b1 (o1 + n1.toNat) = some (.int .i64 n2) ∧
   CondP ((v_ : Int) == n2) (
   R (.int .i64 n1) h1) (
   I1 (IntKind.i64.wrap (n1 + 1)) h1 ∧ mu1 (IntKind.i64.wrap (n1 + 1)) h1 < mu1 n1 h1))) (
   R (.int .i64 (-1)) h1))) :
  CallsH Tryz.prog 103 #[.slice s_.a s_.l s_.c, .int .i64 v_] h R :=
  calls_of_vc tabOk mixed Tryz.func103 (c := c103) (by kernel_rfl) (n := 19) rfl (rs := [.tmp 4]) (by kernel_rfl) ok103 (args := [.slice s_.a s_.l s_.c, .int .i64 v_]) (Nat.le_of_ble_eq_true rfl) (Eq.mpr (by kernel_rfl) hv)
end Go.Sx.Tryz
namespace Go.Sx.Tryz
open Go Go.Sx Go.Proofs
set_option linter.unusedVariables false
section
variable {H H' : Heap} {S : PH} {R : List Asn} {jb : Nat} {J : Jn}
theorem cloneS_spec {v : Sl} {l : List Seg} (hs : Sat H S R) (hr : v.l = l.length ∧ (v.l = 0 ∨ ∃ b o, v.a = some ⟨b, o, none⟩ ∧ CellsAt H b o (segV l))) (hlen : l.length < 1000000000)
    {K : Value → Heap → Prop} (hk : ∀ (v' : Sl) H', Sat H' S (ownS v' l :: R) → K (.slice v'.a v'.l v'.c) H') : CallsH Tryz.prog 149 #[.slice v.a v.l v.c] H K := by
  apply vc149
  obtain ⟨hl, hr⟩ := hr
  refine CondP.of (fun hc => ?_) (fun hc => ?_)
  · have h0 : v.l = 0 := by
      rcases hr with h | ⟨b, o, h, _⟩
      · exact h
      · rw [h] at hc; cases hc
    have hx : l = [] := List.eq_nil_of_length_eq_zero (by omega)
    subst hx
    exact hk ⟨none, 0, 0⟩ H (own.new 107 5 hs)
  · intro b1 h1 hf
    have hs1 : Sat h1 S (lst b1 107 [] :: R) := hs.fresh hf
    have hs2 := own.ofLst (sz := 5) (n := 0) (c := 0) (xs := []) hs1 rfl (Nat.le_refl _) (by decide) rfl
    refine append_own el95 (v := ⟨some ⟨b1, 0, none⟩, 0, 0⟩) hs2 (m := v.l) (c := v.c) (news := segV l) (by rw [segV_len]; omega) ?_ (segV_one l) (by show (0 + v.l) * 40 ≤ _; omega) (by show 0 + v.l ≤ maxLen; unfold maxLen; omega) fun v' H' hv' hs' => hk v' H' hs'
    rcases hr with h | ⟨b, o, ha, hc⟩
    · exact .inl h
    · exact .inr ⟨b, o, ha, CellsAt.fresh hf hc⟩
theorem behind {T : TypeId} {sz : Nat} {v : Sl} {xs : List Value} {k n : Nat} (h : Sat H S (own T sz v xs :: R)) (hn : v.l = n) (hk : k ≤ n) (hsz : 0 < sz) : (⟨subA v.a k v.c sz, v.l - k, v.c - k⟩ : Sl).l = n - k ∧ ((⟨subA v.a k v.c sz, v.l - k, v.c - k⟩ : Sl).l = 0 ∨ ∃ b o, (⟨subA v.a k v.c sz, v.l - k, v.c - k⟩ : Sl).a = some ⟨b, o, none⟩ ∧ CellsAt H b o (xs.drop (k * sz))) := by
  refine ⟨by show v.l - k = _; omega, ?_⟩
  obtain ⟨hx, hc⟩ := own.len h
  rcases Nat.eq_zero_or_pos (v.l - k) with h0 | h0
  · exact .inl h0
  · right
    rcases Nat.eq_zero_or_pos xs.length with hz | hz
    · rw [hz] at hx
      rcases Nat.mul_eq_zero.1 hx.symm with h | h <;> omega
    · obtain ⟨g, ga, gc⟩ := own.cells h hz
      refine ⟨g, k * sz, ?_, ?_⟩
      · show subA v.a k v.c sz = _
        unfold subA
        rw [if_neg (by omega), ga]
        simp [addr_add]
      · have := cells_sub gc (k * sz) (xs.drop (k * sz)).length
        rw [List.take_length, Nat.zero_add] at this
        exact this
theorem drop_spec {D : Dk} (hs : Sat H S (jA jb J :: dsk J.d D :: R)) (hfl : ∀ x ∈ J.segs, x.file < 32) (hsl : J.segs.length < 1000000) (h0 : 0 < J.segs.length)
    {K : Value → Heap → Prop} (hK : ∀ H', Sat H' S (jA jb (J.dropAt D 0).2.2 :: dsk J.d (J.dropAt D 0).2.1 :: R) → K (.bool (J.dropAt D 0).1) H') : CallsH Tryz.prog 107 #[.pointer (some ⟨jb, 0, none⟩)] H K := by
  apply vc107
  obtain ⟨ve, vs, hs4⟩ := jA_open hs
  have hvl := (ownS.len (hs4.pick 2 rfl)).1
  obtain ⟨g, ga, gc⟩ := ownS.at (hs4.pick 2 rfl) (k := 0) h0
  obtain ⟨hfa, _, _⟩ := getSeg h0
  refine ⟨_, hs4.cell 0 rfl, vs, hs4.cell 8 rfl, ⟨by omega, by omega⟩, NilP.of ga ⟨_, by have := gc.get 0 _ rfl; simpa using this, ?_⟩⟩
  rw [← hfa]
  refine drp_spec (by rw [hfa]; exact hfl _ (List.getElem_mem _)) hs.swap fun h3 hs5 => ⟨_, rfl, done_spec hs5.swap fun h4 hs6 => ⟨_, rfl, CondP.of (fun hc => ?_) (fun hc => ?_)⟩⟩
  · have hz : ¬ (D.drp (fileAt J.segs 0)).1 = 0 := by simpa using hc
    have e : J.dropAt D 0 = (false, (D.drp (fileAt J.segs 0)).2, J.note (D.drp (fileAt J.segs 0)).1) := by rw [Jn.dropAt, if_neg hz]
    have := hK h4 (by rw [e]; exact hs6)
    rw [e] at this; exact this
  · have hz : (D.drp (fileAt J.segs 0)).1 = 0 := by simpa using hc
    have e : J.dropAt D 0 = (true, (D.drp (fileAt J.segs 0)).2, { J.note 0 with segs := J.segs.eraseIdx 0 }) := by rw [Jn.dropAt, if_pos hz]
    rw [hz] at hs6
    obtain ⟨ve, vs, hs7⟩ := jA_open hs6
    have hs8 := hs7.sel [2]
    have hvl := (ownS.len hs8).1
    have hvl : vs.l = J.segs.length := hvl
    refine ⟨vs, hs7.cell 8 rfl, ⟨by omega, by omega⟩, ?_⟩
    have hb := behind (k := 1) hs8 hvl (by omega) (by decide)
    have ed : (segV J.segs).drop (1 * 5) = segV (J.segs.drop 1) := flat_drop segV1_len J.segs 1
    have ee : J.segs.eraseIdx 0 = J.segs.drop 1 := by cases J.segs <;> rfl
    refine cloneS_spec (v := ⟨subA vs.a 1 vs.c 5, vs.l - 1, vs.c - 1⟩) (l := J.segs.drop 1) hs8 ⟨by rw [hb.1, List.length_drop], by have := hb.2; rw [show (J.note 0).segs = J.segs from rfl, ed] at this; exact this⟩ (by rw [List.length_drop]; omega) fun v' h5 hs9 => ⟨v', rfl, ?_⟩
    refine set_segs (J := J.note 0) (ve := ve) (vs := vs) (l := J.segs.drop 1) (hs9.sel [0, 1, 1]) fun h6 hs10 => ?_
    have := hK h6 (by rw [e, ee]; exact hs10.del 1)
    rw [e] at this; exact this
end
end Go.Sx.Tryz
namespace Go.Sx.Tryz
open Go Go.Sx Go.Proofs
set_option linter.unusedVariables false
section
variable {H H' : Heap} {S : PH} {R : List Asn} {jb : Nat} {J : Jn}
def Lg.lift (g : Lg) (h : Hd) : Lg := ⟨h.i, h.t, g.es.drop (match g.es.findIdx? (fun x => decide (h.i < x.1.i)) with | some k => k | none => g.es.length)⟩
def Jn.lift (J : Jn) : Jn := match J.segs with | [] => J | x :: _ => { J with log := J.log.lift x.head }
theorem set_log {J : Jn} {ve vs vs' : Sl} {g : Lg} {h14 : Heap} (hs : Sat h14 S (ownE vs' g.es :: lst jb 97 (jcs J ve vs) :: ownS vs J.segs :: R)) {K : Heap → Prop} (hK : ∀ H', Sat H' S (jA jb { J with log := g } :: R) → K H') :
    CanSt h14 jb 4 (lgV g.fi g.ft vs') ∧ ∀ h15, Stored h14 jb 4 (lgV g.fi g.ft vs') h15 → K h15 := by
  refine (hs.pick 1 rfl).store (by simp [jcs, lgV]) fun h15 hs2 => hK h15 (jA_shut (J := { J with log := g }) (ve := vs') (vs := vs) hs2)
theorem lift_spec (hs : Sat H S (jA jb J :: R)) (h0 : 0 < J.segs.length) (hsl : J.segs.length < 1000000) (hlen : J.log.es.length < 1000000)
    {K : Value → Heap → Prop} (hK : ∀ H', Sat H' S (jA jb J.lift :: R) → K (.tuple #[]) H') : CallsH Tryz.prog 108 #[.pointer (some ⟨jb, 0, none⟩)] H K := by
  apply vc108
  obtain ⟨ve, vs, hs4⟩ := jA_open hs
  have hvl := (ownS.len (hs4.pick 2 rfl)).1
  obtain ⟨g, ga, gc⟩ := ownS.at (hs4.pick 2 rfl) (k := 0) h0
  have hl : J.lift = { J with log := J.log.lift (J.segs[0]).head } := by
    obtain ⟨d, first, many, each, log, segs, broken⟩ := J
    cases segs with
    | nil => simp at h0
    | cons x l => rfl
  generalize hhd : (J.segs[0]).head = hd at hl
  refine ⟨vs, hs4.cell 8 rfl, ⟨by omega, by omega⟩, NilP.of ga ⟨(hd.serial : Int), hd.anew, (hd.i : Int), (hd.t : Int), ?_, ?_⟩⟩
  · have := cells_sub gc 1 4
    rw [← hhd]; exact this
  intro b2 h1 f1
  have hs5 : Sat h1 S (lst b2 103 [.int .u64 0, .bool false, .int .u64 0, .int .u64 0] :: lst jb 97 (jcs J ve vs) :: ownE ve J.log.es :: ownS vs J.segs :: R) := hs4.fresh f1
  refine hs5.store (Nat.le_refl _) fun h2 hs6 => ?_
  have hs6 : Sat h2 S (lst b2 103 (hdV hd) :: lst jb 97 (jcs J ve vs) :: ownE ve J.log.es :: ownS vs J.segs :: R) := hs6
  refine ⟨ve, hs6.swap.cell 7 rfl, ?_⟩
  have hs7 : Sat h2 S (ownE ve J.log.es :: lst b2 103 (hdV hd) :: lst jb 97 (jcs J ve vs) :: ownS vs J.segs :: R) := hs6.sel [2]
  refine index_spec (p := fun x => decide (hd.i < x.1.i)) hs7 (by omega) (fun x hx h K' hs' hK' => ?_) fun h3 hs8 => ⟨_, rfl, ?_⟩
  · refine .inl ⟨150, #[], _, rfl, call150, vc150 _ _ _ b2 0 _ _ ?_⟩
    intro b3 h5 f3
    have hs9 : Sat h5 S (lst b3 85 (eV x) :: ownE ve J.log.es :: lst b2 103 (hdV hd) :: lst jb 97 (jcs J ve vs) :: ownS vs J.segs :: R) := hs'.fresh f3
    refine ⟨_, hs9.cell 0 rfl, _, (hs9.pick 2 rfl).cell 2 rfl, ?_⟩
    have e : decide ((x.1.i : Int) > (hd.i : Int)) = decide (hd.i < x.1.i) := decide_eq_decide.2 (by omega)
    rw [e]; exact hK' h5 hs9.drop
  · have hvl2 := (ownE.len hs8).1
    have hcj := (hs8.pick 2 rfl).cell 7 (v := .slice ve.a ve.l ve.c) rfl
    have hb2 := hs8.pick 1 rfl
    have fin : ∀ (k : Nat) (hk : k ≤ J.log.es.length), k = (match J.log.es.findIdx? (fun x => decide (hd.i < x.1.i)) with | some k => k | none => J.log.es.length) →
        CallsH Tryz.prog 89 #[.slice (subA ve.a k ve.c 3) (ve.l - k) (ve.c - k)] h3 (fun r2 h4 => ∃ x5 : Sl, r2 = .slice x5.a x5.l x5.c ∧
         cellH h4 b2 3 = some (.int .u64 (hd.t : Int)) ∧ cellH h4 b2 2 = some (.int .u64 (hd.i : Int)) ∧
         CanSt h4 jb 4 [.int .u64 (hd.i : Int), .int .u64 (hd.t : Int), .slice none 0 0, .slice x5.a x5.l x5.c] ∧ ∀ h5, Stored h4 jb 4 [.int .u64 (hd.i : Int), .int .u64 (hd.t : Int), .slice none 0 0, .slice x5.a x5.l x5.c] h5 → K (.tuple #[]) h5) := by
      intro k hk hkk
      have hb := behind (k := k) hs8 hvl2 hk (by decide)
      have ed : (entV J.log.es).drop (k * 3) = entV (J.log.es.drop k) := flat_drop eV_len J.log.es k
      rw [ed] at hb
      refine cloneE_spec (v := ⟨subA ve.a k ve.c 3, ve.l - k, ve.c - k⟩) (es := J.log.es.drop k) hs8 ⟨by rw [hb.1, List.length_drop], hb.2⟩ (by rw [List.length_drop]; omega) fun v' h4 hs9 => ⟨v', rfl, (hs9.pick 2 rfl).cell 3 rfl, (hs9.pick 2 rfl).cell 2 rfl, ?_⟩
      refine set_log (S := S) (J := J) (ve := ve) (vs := vs) (vs' := v') (g := J.log.lift hd) (R := ownE ve J.log.es :: lst b2 103 (hdV hd) :: R) ?_ fun h5 hs10 => ?_
      · have e : (J.log.lift hd).es = J.log.es.drop k := by rw [hkk]; rfl
        rw [e]
        exact hs9.sel [0, 2, 2]
      · refine hK h5 ?_
        rw [hl]
        exact (hs10.del 1).del 1
    refine CondP.of (fun hc => ?_) (fun hc => ?_)
    · have hfi : J.log.es.findIdx? (fun x => decide (hd.i < x.1.i)) = none := by
        cases hf : J.log.es.findIdx? (fun x => decide (hd.i < x.1.i)) with
        | none => rfl
        | some k => rw [hf] at hc; exfalso; have h0 : ((k : Nat) : Int) < 0 := of_decide_eq_true hc; omega
      refine ⟨ve, hcj, _, hb2.cell 2 rfl, _, hb2.cell 3 rfl, ve, hcj, ⟨by omega, by omega⟩, ?_⟩
      have := fin ve.l (by omega) (by rw [hfi, hvl2])
      exact this
    · cases hf : J.log.es.findIdx? (fun x => decide (hd.i < x.1.i)) with
      | none => rw [hf] at hc; simp [idxV] at hc
      | some k =>
        have hk : k < J.log.es.length := (List.findIdx?_eq_some_iff_getElem.1 hf).1
        refine ⟨_, hb2.cell 2 rfl, _, hb2.cell 3 rfl, ve, hcj, ⟨by show (0 : Int) ≤ (k : Int); omega, by show (k : Int) ≤ _; omega⟩, ?_⟩
        exact fin k (by omega) (by rw [hf])
end
end Go.Sx.Tryz
namespace Go.Sx.Tryz
open Go Go.Sx Go.Proofs
set_option linter.unusedVariables false
section
variable {H H' : Heap} {S : PH} {R : List Asn} {jb : Nat} {J : Jn}
theorem contains_spec {v : Sl} {l : List Nat} {n : Nat} (hs : Sat H S (ownI v l :: R)) (hlen : l.length < 1000000)
    {K : Value → Heap → Prop} (hK : K (.bool (decide (n ∈ l))) H) : CallsH Tryz.prog 41 #[.slice v.a v.l v.c, .int .i64 (n : Int)] H K := by
  apply vc41
  apply vc103
  have hl := (ownI.len hs).1
  refine ⟨fun m h => ∃ i : Nat, m = i ∧ i ≤ l.length ∧ h = H ∧ n ∉ l.take i, fun m _ => l.length - m.toNat, ⟨0, rfl, Nat.zero_le _, rfl, by simp⟩, ?_⟩
  rintro m h1 ⟨i, rfl, hi, rfl, hni⟩ _
  refine CondP.of (fun hc => ?_) (fun hc => ?_)
  · have hc : i < l.length := by simp at hc; omega
    obtain ⟨g, ga, gc⟩ := ownI.at hs hc
    refine ⟨⟨by omega, by omega⟩, NilP.of ga ⟨_, gc i hc, CondP.of (fun he => ⟨_, rfl, ?_⟩) (fun he => ?_)⟩⟩
    · rw [beq_nat_int] at he
      have he : n = l[i] := by simpa using he
      have : n ∈ l := by rw [he]; exact List.getElem_mem hc
      rw [decide_eq_true (by omega : (i : Int) ≥ 0)]
      rw [decide_eq_true this] at hK; exact hK
    · rw [beq_nat_int] at he
      have he : n ≠ l[i] := by simpa using he
      rw [i64_succ (by omega)]
      refine ⟨⟨i + 1, rfl, hc, rfl, ?_⟩, ?_⟩
      · rw [List.take_succ_eq_append_getElem hc]
        intro hm
        rcases List.mem_append.1 hm with h | h
        · exact hni h
        · simp at h; exact he h
      · show l.length - (i + 1) < l.length - i; omega
  · have hc : i = l.length := by simp at hc; omega
    subst hc
    rw [List.take_length] at hni
    rw [decide_eq_false hni] at hK
    exact ⟨_, rfl, hK⟩
def Jn.tidy (J : Jn) (D : Dk) (f : Nat) (n : Nat) (len : Nat) (used : Bool) : Dk × Jn :=
  if J.broken = true ∨ len = 0 then (D, J) else
  if used = false then ((D.drp f).2, J.note (D.drp f).1) else
  if n < len then (if (D.cut f n).1 = 0 then (((D.cut f n).2.syn f).2, (J.note (D.cut f n).1).note ((D.cut f n).2.syn f).1) else ((D.cut f n).2, J.note (D.cut f n).1))
  else ((D.syn f).2, J.note (D.syn f).1)
theorem tidy_spec {D : Dk} {f : Nat} {v : Sl} {ps : List Par} {t : List UInt8} {used : Bool} (hs : Sat H S (jA jb J :: dsk J.d D :: R)) (hf : f < 32) (hv : RdB S v (pbs ps ++ t)) (hps : used = true → ∀ p ∈ ps, Pok p) (ht : used = true → Tail t) (hlen : v.l < 1000000000)
    {K : Value → Heap → Prop} (hK : ∀ H' S', PH.le S S' → Sat H' S' (jA jb (J.tidy D f (pbs ps).length v.l used).2 :: dsk J.d (J.tidy D f (pbs ps).length v.l used).1 :: R) → K (.tuple #[]) H') : CallsH Tryz.prog 40 #[.pointer (some ⟨jb, 0, none⟩), .int .i64 (f : Int), .slice v.a v.l v.c, .bool used] H K := by
  apply vc40
  obtain ⟨ve, vs, hs1⟩ := jA_open hs
  have hl := RdB.len hv
  rw [List.length_append] at hl
  refine ⟨fun t h => h = H ∧ (t = true ↔ (J.broken = true ∨ v.l = 0)), ?_, ?_⟩
  · rintro t1 h1 ⟨rfl, hiff⟩ _
    refine CondP.of (fun hc => ?_) (fun hc => ?_)
    · have e : J.tidy D f (pbs ps).length v.l used = (D, J) := by rw [Jn.tidy, if_pos (hiff.1 hc)]
      exact hK h1 S (PH.le.refl _) (by rw [e]; exact hs)
    have hn : ¬ (J.broken = true ∨ v.l = 0) := fun h => by rw [hiff.2 h] at hc; cases hc
    refine CondP.of (fun hu => ?_) (fun hu => ?_)
    · have hu : used = false := by simpa using hu
      have e : J.tidy D f (pbs ps).length v.l used = ((D.drp f).2, J.note (D.drp f).1) := by rw [Jn.tidy, if_neg hn, if_pos hu]
      refine ⟨_, hs1.cell 0 rfl, drp_spec hf hs.swap fun h2 hs2 => ⟨_, rfl, done_spec hs2.swap fun h3 hs3 => ⟨_, rfl, hK h3 S (PH.le.refl _) (by rw [e]; exact hs3)⟩⟩⟩
    have hu : used = true := by simpa using hu
    have hu' : ¬ used = false := by rw [hu]; simp
    refine end_spec hs hv (hps hu) (ht hu) hlen fun h2 S1 hS1 hs2 => ⟨_, _, rfl, ?_⟩
    obtain ⟨ve, vs, hs3⟩ := jA_open hs2
    refine CondP.of (fun hc => ?_) (fun hc => ?_)
    · have hlt : (pbs ps).length < v.l := by simp at hc; omega
      refine ⟨_, hs3.cell 0 rfl, cut_spec hf hs2.swap (by omega) fun h3 hs4 => ⟨_, rfl, done_spec hs4.swap fun h4 hs5 => ⟨_, rfl, CondP.of (fun hc => ?_) (fun hc => ?_)⟩⟩⟩
      · have hz : ¬ (D.cut f (pbs ps).length).1 = 0 := by simpa using hc
        have e : J.tidy D f (pbs ps).length v.l used = ((D.cut f (pbs ps).length).2, J.note (D.cut f (pbs ps).length).1) := by rw [Jn.tidy, if_neg hn, if_neg hu', if_pos hlt, if_neg hz]
        exact hK h4 S1 hS1 (by rw [e]; exact hs5)
      · have hz : (D.cut f (pbs ps).length).1 = 0 := by simpa using hc
        have e : J.tidy D f (pbs ps).length v.l used = (((D.cut f (pbs ps).length).2.syn f).2, (J.note (D.cut f (pbs ps).length).1).note ((D.cut f (pbs ps).length).2.syn f).1) := by rw [Jn.tidy, if_neg hn, if_neg hu', if_pos hlt, if_pos hz]
        obtain ⟨ve, vs, hs6⟩ := jA_open hs5
        refine ⟨_, hs6.cell 0 rfl, syn_spec hf hs5.swap fun h5 hs7 => ⟨_, rfl, done_spec hs7.swap fun h6 hs8 => ⟨_, rfl, hK h6 S1 hS1 (by rw [e]; exact hs8)⟩⟩⟩
    · have hlt : ¬ (pbs ps).length < v.l := by simp at hc; omega
      have e : J.tidy D f (pbs ps).length v.l used = ((D.syn f).2, J.note (D.syn f).1) := by rw [Jn.tidy, if_neg hn, if_neg hu', if_neg hlt]
      refine ⟨_, hs3.cell 0 rfl, syn_spec hf hs2.swap fun h5 hs7 => ⟨_, rfl, done_spec hs7.swap fun h6 hs8 => ⟨_, rfl, hK h6 S1 hS1 (by rw [e]; exact hs8)⟩⟩⟩
  · refine ⟨_, hs1.cell 9 rfl, CondP.of (fun hc => ⟨rfl, ⟨fun _ => .inl hc, fun _ => rfl⟩⟩) (fun hc => ⟨rfl, ?_⟩)⟩
    rw [hc]
    constructor
    · intro h; right; simp at h; omega
    · rintro (h | h)
      · cases h
      · simp; omega
end
end Go.Sx.Tryz
namespace Go.Sx.Tryz
open Go Go.Sx Go.Proofs
set_option maxRecDepth 100000
set_option linter.unusedVariables false
noncomputable def c36 : Code := (Tryz.f36.body).getD .skip
def a36 : Ann := (.seq .leaf (.seq (.seq .leaf (.br (.seq .leaf .leaf) .leaf)) (.seq (.seq .leaf (.inn (.loop [(2, .one (.sl)), (13, .one (.i .i64))] (.seq .leaf (.seq (.br .leaf .leaf) (.seq (.inn (.seq .leaf (.seq .leaf .leaf))) .leaf)))))) (.seq .leaf .leaf))))
theorem ok36 : okC tab 27 true c36 a36 = true := by kernel_rfl
theorem vc36 (j_b j_o : Nat) (h : Heap) (R : Value → Heap → Prop)
  (hv : CallsH Tryz.prog 92 #[.pointer (some ⟨j_b, j_o, none⟩)] h (fun r1 h1 => ∃ t1 : Bool, r1 = .bool t1 ∧
   CondP t1 (
   R (.slice none 0 0) h1) (
   ∃ x1 : Sl, cellH h1 j_b (j_o + 4 + 3) = some (.slice x1.a x1.l x1.c) ∧
   ∃ (I1 : Sl → Int → Heap → Prop) (mu1 : Sl → Int → Heap → Nat), I1 ⟨none, 0, 0⟩ 0 h1 ∧ (∀ x2 : Sl, ∀ n1 : Int, ∀ h2, I1 x2 n1 h2 → ∀ _ : Env,
   CondP (decide ((n1 : Int) < ((x1.l : Nat) : Int))) (
   ((0 : Int) ≤ n1 ∧ (n1 : Int) < ((x1.l : Nat) : Int)) ∧
   NilP x1.a (fun b1 o1 =>
   ∃ n2 : Int, ∃ n3 : Int, ∃ x3 : Sl, CellsAt h2 b1 (o1 + n1.toNat * 3) [.int .u64 n2, .int .u64 n3, .slice x3.a x3.l x3.c] ∧
   ∀ b2 h3, Fresh h2 (.cells #[.int .u64 0, .int .u64 0, .slice none 0 0] 85) b2 h3 →
   CanSt h3 b2 0 [.int .u64 n2, .int .u64 n3, .slice x3.a x3.l x3.c] ∧ ∀ h4, Stored h3 b2 0 [.int .u64 n2, .int .u64 n3, .slice x3.a x3.l x3.c] h4 →
   ∃ x4 : Sl, cellH h4 b2 2 = some (.slice x4.a x4.l x4.c) ∧
   CallsH Tryz.prog 71 #[.slice x4.a x4.l x4.c] h4 (fun r2 h5 => ∃ x5 : Sl, r2 = .slice x5.a x5.l x5.c ∧
   CanSt h5 b2 2 [.slice x5.a x5.l x5.c] ∧ ∀ h6, Stored h5 b2 2 [.slice x5.a x5.l x5.c] h6 →
   ∃ n4 : Int, ∃ n5 : Int, ∃ x6 : Sl, CellsAt h6 b2 0 [.int .u64 n4, .int .u64 n5, .slice x6.a x6.l x6.c] ∧
   ∀ b3 h7, Fresh h6 (.cells #[.int .u64 n4, .int .u64 n5, .slice x6.a x6.l x6.c] 85) b3 h7 →
   RunK Tryz.prog (.sl) (Builtin.append_ #[81, 81] 81 #[.slice x2.a x2.l x2.c, .slice (some ⟨b3, 0, none⟩) 1 1]) h7 (fun x7 h8 =>
   I1 x7 (IntKind.i64.wrap (n1 + 1)) h8 ∧ mu1 x7 (IntKind.i64.wrap (n1 + 1)) h8 < mu1 x2 n1 h2)))) (
   R (.slice x2.a x2.l x2.c) h2))))) :
  CallsH Tryz.prog 36 #[.pointer (some ⟨j_b, j_o, none⟩)] h R :=
  calls_of_vc tabOk mixed Tryz.func36 (c := c36) (by kernel_rfl) (n := 27) rfl (rs := [.tmp 2]) (by kernel_rfl) ok36 (args := [.pointer (some ⟨j_b, j_o, none⟩)]) (Nat.le_of_ble_eq_true rfl) (Eq.mpr (by kernel_rfl) hv)
end Go.Sx.Tryz
namespace Go.Sx.Tryz
open Go Go.Sx Go.Proofs
set_option maxRecDepth 100000
set_option linter.unusedVariables false
noncomputable def c46 : Code := (Tryz.f46.body).getD .skip
def a46 : Ann := (.seq .leaf (.seq (.seq .leaf (.seq .leaf (.br (.seq .leaf .leaf) .leaf))) (.seq (.join [(19, .one (.b))] .leaf (.br (.seq .leaf .leaf) .leaf)) (.seq (.seq .leaf (.seq .leaf (.br (.seq .leaf .leaf) .leaf))) (.seq .leaf (.seq (.inn (.loop [] (.seq (.seq .leaf (.br .leaf .leaf)) (.inn .leaf)))) (.seq .leaf .leaf)))))))
theorem ok46 : okC tab 47 true c46 a46 = true := by kernel_rfl
theorem vc46 (j_b j_o : Nat) (index_ : Int) (term_ : Int) (h : Heap) (R : Value → Heap → Prop)
  (hv : CallsH Tryz.prog 77 #[.pointer (some ⟨j_b, j_o, none⟩)] h (fun r1 h1 => ∃ n1 : Int, r1 = .int .i64 n1 ∧
   CondP ((n1 : Int) != 0) (
   R (.int .i64 n1) h1) (
   ∃ J1 : Bool → Heap → Prop, (∀ t1 : Bool, ∀ h2, J1 t1 h2 → ∀ _ : Env,
   CondP t1 (
   R (.int .i64 2) h2) (
   CallsH Tryz.prog 90 #[.pointer (some ⟨j_b, j_o, none⟩), .agg #[.int .u64 0, .bool true, .int .u64 index_, .int .u64 term_]] h2 (fun r2 h3 => ∃ n2 : Int, r2 = .int .i64 n2 ∧
   CondP ((n2 : Int) != 0) (
   R (.int .i64 n2) h3) (
   CanSt h3 j_b (j_o + 4) [.int .u64 index_, .int .u64 term_, .slice none 0 0, .slice none 0 0] ∧ ∀ h4, Stored h3 j_b (j_o + 4) [.int .u64 index_, .int .u64 term_, .slice none 0 0, .slice none 0 0] h4 →
   ∃ (I1 : Heap → Prop) (mu1 : Heap → Nat), I1  h4 ∧ (∀ h5, I1  h5 → ∀ _ : Env,
   ∃ x1 : Sl, cellH h5 j_b (j_o + 8) = some (.slice x1.a x1.l x1.c) ∧
   CondP (decide ((((x1.l : Nat) : Int) : Int) > 1)) (
   CallsH Tryz.prog 107 #[.pointer (some ⟨j_b, j_o, none⟩)] h5 (fun r3 h6 => ∃ t2 : Bool, r3 = .bool t2 ∧
   CondP t2 (
   I1  h6 ∧ mu1  h6 < mu1  h5) (
   CallsH Tryz.prog 91 #[.pointer (some ⟨j_b, j_o, none⟩)] h6 (fun r4 h7 => ∃ n3 : Int, r4 = .int .i64 n3 ∧
   R (.int .i64 n3) h7)))) (
   CallsH Tryz.prog 91 #[.pointer (some ⟨j_b, j_o, none⟩)] h5 (fun r5 h8 => ∃ n4 : Int, r5 = .int .i64 n4 ∧
   R (.int .i64 n4) h8))))))) ∧
   CondP (decide ((index_ : Int) > 4611686018427387904)) (
   J1 true h1) (
   J1 (decide ((term_ : Int) > 4611686018427387904)) h1)))) :
  CallsH Tryz.prog 46 #[.pointer (some ⟨j_b, j_o, none⟩), .int .u64 index_, .int .u64 term_] h R :=
  calls_of_vc tabOk mixed Tryz.func46 (c := c46) (by kernel_rfl) (n := 47) rfl (rs := [.tmp 6]) (by kernel_rfl) ok46 (args := [.pointer (some ⟨j_b, j_o, none⟩), .int .u64 index_, .int .u64 term_]) (Nat.le_of_ble_eq_true rfl) (Eq.mpr (by kernel_rfl) hv)
end Go.Sx.Tryz
namespace Go.Sx.Tryz
open Go Go.Sx Go.Proofs
set_option maxRecDepth 100000
set_option linter.unusedVariables false
noncomputable def c47 : Code := (Tryz.f47.body).getD .skip
def a47 : Ann := (.seq .leaf (.seq (.seq .leaf (.seq .leaf (.br (.seq .leaf .leaf) .leaf))) (.seq (.inn (.loop [] (.seq (.seq .leaf (.br .leaf .leaf)) (.inn (.seq (.seq .leaf (.br (.seq .leaf .leaf) .leaf)) .leaf))))) (.seq .leaf .leaf))))
theorem ok47 : okC tab 36 true c47 a47 = true := by kernel_rfl
theorem vc47 (j_b j_o : Nat) (index_ : Int) (h : Heap) (R : Value → Heap → Prop)
  (hv : CallsH Tryz.prog 77 #[.pointer (some ⟨j_b, j_o, none⟩)] h (fun r1 h1 => ∃ n1 : Int, r1 = .int .i64 n1 ∧
   CondP ((n1 : Int) != 0) (
   R (.int .i64 n1) h1) (
   ∃ (I1 : Heap → Prop) (mu1 : Heap → Nat), I1  h1 ∧ (∀ h2, I1  h2 → ∀ _ : Env,
   ∃ x1 : Sl, cellH h2 j_b (j_o + 8) = some (.slice x1.a x1.l x1.c) ∧
   CondP (decide ((((x1.l : Nat) : Int) : Int) > 1)) (
   ∃ x2 : Sl, cellH h2 j_b (j_o + 8) = some (.slice x2.a x2.l x2.c) ∧
   ((0 : Int) ≤ 1 ∧ (1 : Int) < ((x2.l : Nat) : Int)) ∧
   NilP x2.a (fun b1 o1 =>
   ∃ n2 : Int, cellH h2 b1 (o1 + 5 + 1 + 2) = some (.int .u64 n2) ∧
   CondP (decide ((n2 : Int) ≤ index_)) (
   CallsH Tryz.prog 107 #[.pointer (some ⟨j_b, j_o, none⟩)] h2 (fun r2 h3 => ∃ t1 : Bool, r2 = .bool t1 ∧
   CondP (!t1) (
   R (.int .i64 70) h3) (
   CallsH Tryz.prog 108 #[.pointer (some ⟨j_b, j_o, none⟩)] h3 (fun r3 h4 => r3 = .tuple #[] ∧
   I1  h4 ∧ mu1  h4 < mu1  h2)))) (
   CallsH Tryz.prog 91 #[.pointer (some ⟨j_b, j_o, none⟩)] h2 (fun r4 h5 => ∃ n3 : Int, r4 = .int .i64 n3 ∧
   R (.int .i64 n3) h5)))) (
   CallsH Tryz.prog 91 #[.pointer (some ⟨j_b, j_o, none⟩)] h2 (fun r5 h6 => ∃ n4 : Int, r5 = .int .i64 n4 ∧
   R (.int .i64 n4) h6)))))) :
  CallsH Tryz.prog 47 #[.pointer (some ⟨j_b, j_o, none⟩), .int .u64 index_] h R :=
  calls_of_vc tabOk mixed Tryz.func47 (c := c47) (by kernel_rfl) (n := 36) rfl (rs := [.tmp 4]) (by kernel_rfl) ok47 (args := [.pointer (some ⟨j_b, j_o, none⟩), .int .u64 index_]) (Nat.le_of_ble_eq_true rfl) (Eq.mpr (by kernel_rfl) hv)
end Go.Sx.Tryz
namespace Go.Sx.Tryz
open Go Go.Sx Go.Proofs
set_option linter.unusedVariables false
section
variable {H H' : Heap} {S : PH} {R : List Asn} {jb : Nat} {J : Jn}
def EL (S : PH) (v : Sl) (l : List Ent) : Prop := ∃ xs : List EB, xs.map (·.1) = l ∧ Rd S v 3 (entV xs) ∧ ∀ x ∈ xs, RdB S x.2 x.1.b
theorem EL.mono {S S' : PH} {v : Sl} {l : List Ent} (h : EL S v l) (hs : PH.le S S') : EL S' v l := by
  obtain ⟨xs, h1, h2, h3⟩ := h
  exact ⟨xs, h1, h2.mono hs, fun x hx => (h3 x hx).mono hs⟩
theorem EL.len {v : Sl} {l : List Ent} (h : EL S v l) : v.l = l.length ∧ v.l ≤ v.c := by
  obtain ⟨xs, h1, h2, h3⟩ := h
  have := h2.1
  rw [entV_len] at this
  refine ⟨?_, h2.2.1⟩
  rw [← h1, List.length_map]; omega
theorem EL.nil (S : PH) : EL S ⟨none, 0, 0⟩ [] := ⟨[], rfl, Rd.nil _ _, fun x hx => by cases hx⟩
theorem EL.at {v : Sl} {l : List Ent} (h : EL S v l) {L : List Asn} (hs : Sat H S L) {k : Nat} (hk : k < l.length) : ∃ g o x, v.a = some ⟨g, o, none⟩ ∧ CellsAt H g (o + k * 3) (eV (l[k], x)) ∧ RdB S x l[k].b := by
  obtain ⟨xs, h1, h2, h3⟩ := h
  subst h1
  have hk' : k < xs.length := by simpa using hk
  have hl := h2.1
  rw [entV_len] at hl
  obtain ⟨g, o, ga, gc⟩ := Rd.at h2 hs (by omega)
  refine ⟨g, o, xs[k].2, ga, ?_, ?_⟩
  · have := cells_sub gc (k * 3) 3
    rw [entV, flat_at eV_len hk'] at this
    simpa using this
  · simpa using h3 _ (List.getElem_mem hk')
theorem eV_one (y : EB) : ∀ u ∈ eV y, u.oneCell' = true := by
  intro u hu; simp only [eV, List.mem_cons, List.not_mem_nil, or_false] at hu; rcases hu with rfl | rfl | rfl <;> rfl
theorem entries_spec (hs : Sat H S (jA jb J :: R)) (he : eok S J.log.es) (hlen : J.log.es.length < 1000000)
    {K : Value → Heap → Prop} (hK : ∀ (v : Sl) H' S', PH.le S S' → EL S' v (J.log.es.map (·.1)) → Sat H' S' (jA jb J :: R) → K (.slice v.a v.l v.c) H') : CallsH Tryz.prog 36 #[.pointer (some ⟨jb, 0, none⟩)] H K := by
  apply vc36
  refine none_spec hs ⟨_, rfl, CondP.of (fun hc => by cases hc) fun _ => ?_⟩
  obtain ⟨ve, vs, hs1⟩ := jA_open hs
  have hvl := (ownE.len (hs1.pick 1 rfl)).1
  refine ⟨ve, hs1.cell 7 rfl, fun x n h => ∃ i : Nat, n = i ∧ i ≤ J.log.es.length ∧ ∃ S' ys, PH.le S S' ∧ ys.map (·.1) = (J.log.es.take i).map (·.1) ∧ (∀ y ∈ ys, RdB S' y.2 y.1.b) ∧ Sat h S' (ownE x ys :: lst jb 97 (jcs J ve vs) :: ownE ve J.log.es :: ownS vs J.segs :: R), fun _ n _ => J.log.es.length - n.toNat, ⟨0, rfl, Nat.zero_le _, S, [], PH.le.refl _, rfl, (fun y hy => by cases hy), own.new 85 3 hs1⟩, ?_⟩
  rintro x n h1 ⟨i, rfl, hi, S1, ys, hS1, hy1, hy2, hs2⟩ _
  have hyl : ys.length = i := by have := congrArg List.length hy1; simp at this; omega
  have hxl := (ownE.len hs2).1
  refine CondP.of (fun hc => ?_) (fun hc => ?_)
  · have hc : i < J.log.es.length := by simp at hc; omega
    obtain ⟨g, ga, gc⟩ := ownE.at (hs2.pick 2 rfl) hc
    refine ⟨⟨by omega, by omega⟩, NilP.of ga ⟨_, _, _, gc, ?_⟩⟩
    intro b2 h2 f2
    have hs3 := hs2.fresh f2
    refine Sat.store (T := 85) (l := [.int .u64 0, .int .u64 0, .slice none 0 0]) hs3 (Nat.le_refl _) fun h3 hs4 => ?_
    have hs4 : Sat h3 S1 (lst b2 85 (eV J.log.es[i]) :: ownE x ys :: lst jb 97 (jcs J ve vs) :: ownE ve J.log.es :: ownS vs J.segs :: R) := hs4
    have hb := he _ (List.getElem_mem hc)
    refine ⟨_, hs4.cell 2 rfl, ?_⟩
    refine clone_spec hs4 ((hb.1.mono hS1).reads hs4) (by omega) fun x5 h5 hx5 hs5 => ⟨x5, rfl, ?_⟩
    obtain ⟨S2, q1, q2, q3⟩ := own.fixd hs5
    refine q3.store (by simp [eV]) fun h6 hs6 => ?_
    have hs6 : Sat h6 S2 (lst b2 85 (eV (J.log.es[i].1, x5)) :: ownE x ys :: lst jb 97 (jcs J ve vs) :: ownE ve J.log.es :: ownS vs J.segs :: R) := hs6
    refine ⟨_, _, _, hs6.cells 0 rfl, ?_⟩
    intro b3 h7 f3
    have hs7 : Sat h7 S2 (lst b3 85 (eV (J.log.es[i].1, x5)) :: lst b2 85 (eV (J.log.es[i].1, x5)) :: ownE x ys :: lst jb 97 (jcs J ve vs) :: ownE ve J.log.es :: ownS vs J.segs :: R) := hs6.fresh f3
    refine append_one el81 (v := x) (xs := entV ys) (hs7.sel [0, 1]) rfl (eV_one _) (by omega) (by unfold maxLen; omega) fun v' H' hv' hs8 => ?_
    have e1 : entV ys ++ eV (J.log.es[i].1, x5) = entV (ys ++ [(J.log.es[i].1, x5)]) := by simp [entV]
    rw [e1] at hs8
    rw [i64_succ (by omega)]
    refine ⟨⟨i + 1, rfl, hc, S2, ys ++ [(J.log.es[i].1, x5)], hS1.trans q1, ?_, fun y hy => ?_, hs8.del 1⟩, ?_⟩
    · rw [List.take_succ_eq_append_getElem hc, List.map_append, List.map_append, hy1]; rfl
    · rcases List.mem_append.1 hy with h | h
      · exact (hy2 y h).mono q1
      · simp only [List.mem_singleton] at h
        subst h; exact q2
    · show J.log.es.length - (i + 1) < J.log.es.length - i; omega
  · have hc : i = J.log.es.length := by simp at hc; omega
    subst hc
    rw [List.take_length] at hy1
    obtain ⟨S2, q1, q2, q3⟩ := own.fixd hs2
    exact hK x h1 S2 (hS1.trans q1) ⟨ys, hy1, q2, fun y hy => (hy2 y hy).mono q1⟩ (jA_shut q3)
def Jn.ans (J : Jn) : Nat := if J.broken = true then 70 else 0
def Jn.trimN (ix : Nat) : Nat → Jn → Dk → Nat × Dk × Jn
  | 0, J, D => (J.ans, D, J)
  | k + 1, J, D => if idxAt J.segs 1 ≤ ix then (if (J.dropAt D 0).1 = true then Jn.trimN ix k (J.dropAt D 0).2.2.lift (J.dropAt D 0).2.1 else (70, (J.dropAt D 0).2)) else (J.ans, D, J)
def Jn.trim (J : Jn) (D : Dk) (ix : Nat) : Nat × Dk × Jn := if J.broken = true then (70, D, J) else J.trimN ix (J.segs.length - 1) D
def segN (jb : Nat) (h : Heap) : Nat := match cellH h jb 8 with | some (.slice _ l _) => l | _ => 0
theorem segN_eq (hs : Sat H S (jA jb J :: R)) : segN jb H = J.segs.length := by
  obtain ⟨ve, vs, hs1⟩ := jA_open hs
  have hvl := (ownS.len (hs1.pick 2 rfl)).1
  unfold segN
  rw [hs1.cell 8 (v := .slice vs.a vs.l vs.c) rfl]
  exact hvl
theorem lift_facts (J : Jn) : J.lift.d = J.d ∧ J.lift.segs = J.segs ∧ J.lift.first = J.first ∧ J.lift.many = J.many ∧ J.lift.each = J.each ∧ J.lift.broken = J.broken ∧ J.lift.log.es.length ≤ J.log.es.length := by
  unfold Jn.lift
  split
  · exact ⟨rfl, rfl, rfl, rfl, rfl, rfl, Nat.le_refl _⟩
  · refine ⟨rfl, rfl, rfl, rfl, rfl, rfl, ?_⟩
    show (List.drop _ _).length ≤ _
    rw [List.length_drop]; omega
theorem dropAt_len {J : Jn} {D : Dk} {k : Nat} (hk : k < J.segs.length) (h : (J.dropAt D k).1 = true) : (J.dropAt D k).2.2.segs = J.segs.eraseIdx k := by
  unfold Jn.dropAt at h ⊢
  split
  · rfl
  · rename_i hc; rw [if_neg hc] at h; cases h
theorem trim_spec {D : Dk} {ix : Nat} (hs : Sat H S (jA jb J :: dsk J.d D :: R)) (hfl : ∀ x ∈ J.segs, x.file < 32) (hsl : J.segs.length < 100000) (h0 : 0 < J.segs.length) (hlen : J.log.es.length < 1000000)
    {K : Value → Heap → Prop} (hK : ∀ H', Sat H' S (jA jb (J.trim D ix).2.2 :: dsk J.d (J.trim D ix).2.1 :: R) → K (.int .i64 ((J.trim D ix).1 : Int)) H') : CallsH Tryz.prog 47 #[.pointer (some ⟨jb, 0, none⟩), .int .u64 (ix : Int)] H K := by
  apply vc47
  refine ready_spec hs ⟨_, rfl, CondP.of (fun hc => ?_) (fun hc => ?_)⟩
  · have hb : J.broken = true := by
      cases h : J.broken with
      | true => rfl
      | false => rw [h] at hc; simp at hc
    have e : J.trim D ix = (70, D, J) := by rw [Jn.trim, if_pos hb]
    have := hK H (by rw [e]; exact hs)
    rw [e] at this
    rw [if_pos hb]; exact this
  have hb : ¬ J.broken = true := by
    intro h; rw [h] at hc; simp at hc
  have e : J.trim D ix = J.trimN ix (J.segs.length - 1) D := by rw [Jn.trim, if_neg hb]
  rw [e] at hK
  refine ⟨fun h => ∃ (k : Nat) (J' : Jn) (D' : Dk), J'.d = J.d ∧ J'.segs.length = k + 1 ∧ k < 100000 ∧ (∀ x ∈ J'.segs, x.file < 32) ∧ J'.log.es.length < 1000000 ∧ J'.trimN ix k D' = J.trimN ix (J.segs.length - 1) D ∧ Sat h S (jA jb J' :: dsk J.d D' :: R), fun h => segN jb h, ⟨J.segs.length - 1, J, D, rfl, by omega, by omega, hfl, hlen, rfl, hs⟩, ?_⟩
  rintro h2 ⟨k, J', D', hd, hk, hk2, hf', hle', he, hs2⟩ _
  have hn := segN_eq hs2
  have fin : J'.trimN ix k D' = (J'.ans, D', J') → CallsH Tryz.prog 91 #[.pointer (some ⟨jb, 0, none⟩)] h2 (fun r4 h5 => ∃ n3 : Int, r4 = .int .i64 n3 ∧ K (.int .i64 n3) h5) := by
    intro h
    rw [h] at he
    refine answer_spec hs2 ⟨_, rfl, ?_⟩
    have := hK h2 (by rw [← he]; exact hs2)
    rw [← he] at this; exact this
  obtain ⟨ve, vs, hs3⟩ := jA_open hs2
  have hvl := (ownS.len (hs3.pick 2 rfl)).1
  have hc8 := hs3.cell 8 (v := .slice vs.a vs.l vs.c) rfl
  refine ⟨vs, hc8, CondP.of (fun hc => ?_) (fun hc => ?_)⟩
  · obtain ⟨k, rfl⟩ : ∃ m, k = m + 1 := ⟨k - 1, by simp at hc; omega⟩
    obtain ⟨g, ga, gc⟩ := ownS.at (hs3.pick 2 rfl) (k := 1) (by omega)
    obtain ⟨_, _, hix⟩ := getSeg (l := J'.segs) (i := 1) (by omega)
    refine ⟨vs, hc8, ⟨by omega, by omega⟩, NilP.of ga ⟨((J'.segs[1]'(by omega)).head.i : Int), ?_, ?_⟩⟩
    · have := gc.get 3 _ rfl
      simpa using this
    have ed : decide (((J'.segs[1]'(by omega)).head.i : Int) ≤ (ix : Int)) = decide (idxAt J'.segs 1 ≤ ix) := decide_eq_decide.2 (by rw [hix]; exact Int.ofNat_le)
    rw [ed]
    refine CondP.of (fun hc2 => ?_) (fun hc2 => ?_)
    · have hc2 : idxAt J'.segs 1 ≤ ix := of_decide_eq_true hc2
      rw [Jn.trimN, if_pos hc2] at he
      rw [← hd] at hs2
      refine drop_spec hs2 hf' (by omega) (by omega) fun h3 hs4 => ⟨_, rfl, CondP.of (fun hc3 => ?_) (fun hc3 => ?_)⟩
      · have hz : ¬ (J'.dropAt D' 0).1 = true := by simpa using hc3
        rw [if_neg hz] at he
        have := hK h3 (by rw [← he, ← hd]; exact hs4)
        rw [← he] at this; exact this
      · have hz : (J'.dropAt D' 0).1 = true := by simpa using hc3
        rw [if_pos hz] at he
        obtain ⟨f1, f2, f3, f4, f5⟩ := dropAt_facts J' D' 0 (by omega)
        have f6 := dropAt_len (by omega) hz
        have hel : (J'.segs.eraseIdx 0).length = J'.segs.length - 1 := List.length_eraseIdx_of_lt (by omega)
        obtain ⟨l1, l2, l3, l4, l5, l6, l7⟩ := lift_facts (J'.dropAt D' 0).2.2
        refine lift_spec hs4 (by rw [f6]; omega) (by rw [f6]; omega) (by rw [f5]; omega) fun h4 hs5 => ⟨rfl, ?_⟩
        have hn5 := segN_eq hs5
        rw [hd] at hs5
        refine ⟨⟨k, _, _, l1.trans (f1.trans hd), by rw [l2, f6]; omega, by omega, fun x hx => hf' x (f4 x (by rw [← l2]; exact hx)), by rw [f5] at l7; omega, he, hs5⟩, ?_⟩
        show segN jb h4 < segN jb h2
        rw [hn5, hn, l2, f6]; omega
    · have hc2 : ¬ idxAt J'.segs 1 ≤ ix := of_decide_eq_false hc2
      exact fin (by rw [Jn.trimN, if_neg hc2])
  · obtain rfl : k = 0 := by simp at hc; omega
    exact fin rfl
theorem start_cases (J : Jn) (D : Dk) (h : Hd) : (J.start D h).2.2.d = J.d ∧ (J.start D h).2.2.first = J.first ∧ (J.start D h).2.2.many = J.many ∧ (J.start D h).2.2.each = J.each ∧ (J.start D h).2.2.log = J.log ∧
    ((J.start D h).1 = false ∧ (J.start D h).2.2.segs = J.segs ∨ ∃ n, n ∈ J.free ∧ (J.start D h).1 = true ∧ (J.start D h).2.2.segs = J.segs ++ [⟨n, J.fix h⟩]) := by
  unfold Jn.start
  split
  · exact ⟨rfl, rfl, rfl, rfl, rfl, .inl ⟨rfl, rfl⟩⟩
  · rename_i n l hf
    obtain ⟨w1, w2, w3, w4, w5, w6⟩ := write_segs J D n (parcelB 1 (J.fix h).body)
    split
    · refine ⟨w2, w4, w5, w6, w3, .inr ⟨n, by rw [hf]; exact List.mem_cons_self, rfl, ?_⟩⟩
      show (J.write D n (parcelB 1 (J.fix h).body)).2.2.segs ++ _ = _
      rw [w1]
    · exact ⟨w2, w4, w5, w6, w3, .inl ⟨rfl, w1⟩⟩
theorem another_cases (J : Jn) (D : Dk) (h : Hd) : (J.another D h).2.2.d = J.d ∧ (J.another D h).2.2.first = J.first ∧ (J.another D h).2.2.many = J.many ∧ (J.another D h).2.2.each = J.each ∧ (J.another D h).2.2.log = J.log ∧
    ((J.another D h).1 ≠ 0 ∧ (J.another D h).2.2.segs = J.segs ∨ ∃ n, n ∈ J.free ∧ (J.another D h).1 = 0 ∧ (J.another D h).2.2.segs = J.segs ++ [⟨n, J.fix h⟩]) := by
  unfold Jn.another
  split
  · exact ⟨rfl, rfl, rfl, rfl, rfl, .inl ⟨by simp, rfl⟩⟩
  · obtain ⟨h1, h2, h3, h4, h5, h6⟩ := start_cases J D h
    refine ⟨h1, h2, h3, h4, h5, ?_⟩
    rcases h6 with ⟨g1, g2⟩ | ⟨n, g0, g1, g2⟩
    · exact .inl ⟨by simp [g1], g2⟩
    · exact .inr ⟨n, g0, by simp [g1], g2⟩
def Jn.beginJ (J : Jn) (D : Dk) (i t : Nat) : Nat × Dk × Jn :=
  if J.broken = true then (70, D, J) else if MaxI < i ∨ MaxI < t then (2, D, J) else
  if (J.another D ⟨0, true, i, t⟩).1 ≠ 0 then J.another D ⟨0, true, i, t⟩ else
  ((Jn.dropN ((J.another D ⟨0, true, i, t⟩).2.2.segs.length - 1) { (J.another D ⟨0, true, i, t⟩).2.2 with log := ⟨i, t, []⟩ } (J.another D ⟨0, true, i, t⟩).2.1).2.ans,
   Jn.dropN ((J.another D ⟨0, true, i, t⟩).2.2.segs.length - 1) { (J.another D ⟨0, true, i, t⟩).2.2 with log := ⟨i, t, []⟩ } (J.another D ⟨0, true, i, t⟩).2.1)
theorem begin_specJ {D : Dk} {i t : Nat} (hs : Sat H S (jA jb J :: dsk J.d D :: R)) (hb : J.first + J.many ≤ 32) (hfl : ∀ x ∈ J.segs, x.file < 32) (hsl : J.segs.length < 100000) (hi : i < 18446744073709551616) (ht : t < 18446744073709551616) (hok : i ≤ MaxI → t ≤ MaxI → J.free ≠ [] → (J.fix ⟨0, true, i, t⟩).ok)
    {K : Value → Heap → Prop} (hK : ∀ H' S', PH.le S S' → Sat H' S' (jA jb (J.beginJ D i t).2.2 :: dsk J.d (J.beginJ D i t).2.1 :: R) → K (.int .i64 ((J.beginJ D i t).1 : Int)) H') : CallsH Tryz.prog 46 #[.pointer (some ⟨jb, 0, none⟩), .int .u64 (i : Int), .int .u64 (t : Int)] H K := by
  apply vc46
  refine ready_spec hs ⟨_, rfl, CondP.of (fun hc => ?_) (fun hc => ?_)⟩
  · have hb : J.broken = true := by
      cases h : J.broken with
      | true => rfl
      | false => rw [h] at hc; simp at hc
    have e : J.beginJ D i t = (70, D, J) := by rw [Jn.beginJ, if_pos hb]
    have := hK H S (PH.le.refl _) (by rw [e]; exact hs)
    rw [e] at this
    rw [if_pos hb]; exact this
  have hbr : ¬ J.broken = true := by
    intro h; rw [h] at hc; simp at hc
  refine ⟨fun tt h => h = H ∧ tt = decide (MaxI < i ∨ MaxI < t), ?_, ?_⟩
  · rintro tt h1 ⟨rfl, rfl⟩ _
    refine CondP.of (fun hc => ?_) (fun hc => ?_)
    · have hc := of_decide_eq_true hc
      have e : J.beginJ D i t = (2, D, J) := by rw [Jn.beginJ, if_neg hbr, if_pos hc]
      have := hK h1 S (PH.le.refl _) (by rw [e]; exact hs)
      rw [e] at this; exact this
    have hc := of_decide_eq_false hc
    have hc' : i ≤ MaxI ∧ t ≤ MaxI := by omega
    refine another_spec (h := ⟨0, true, i, t⟩) hs hb (by omega) (hok hc'.1 hc'.2) fun h2 S1 hS1 hs2 => ⟨_, rfl, ?_⟩
    obtain ⟨a1, a2, a3, a4, a5, a6⟩ := another_cases J D ⟨0, true, i, t⟩
    have hbe : J.beginJ D i t = if (J.another D ⟨0, true, i, t⟩).1 ≠ 0 then J.another D ⟨0, true, i, t⟩ else
        ((Jn.dropN ((J.another D ⟨0, true, i, t⟩).2.2.segs.length - 1) { (J.another D ⟨0, true, i, t⟩).2.2 with log := ⟨i, t, []⟩ } (J.another D ⟨0, true, i, t⟩).2.1).2.ans,
         Jn.dropN ((J.another D ⟨0, true, i, t⟩).2.2.segs.length - 1) { (J.another D ⟨0, true, i, t⟩).2.2 with log := ⟨i, t, []⟩ } (J.another D ⟨0, true, i, t⟩).2.1) := by
      rw [Jn.beginJ, if_neg hbr, if_neg hc]
    generalize J.another D ⟨0, true, i, t⟩ = W at *
    refine CondP.of (fun hc2 => ?_) (fun hc2 => ?_)
    · have hz : W.1 ≠ 0 := by
        intro h; rw [h] at hc2; simp at hc2
      rw [if_pos hz] at hbe
      have := hK h2 S1 hS1 (by rw [hbe]; exact hs2)
      rw [hbe] at this; exact this
    have hz : W.1 = 0 := by
      have : (W.1 : Int) = 0 := by simpa using hc2
      omega
    rw [if_neg (by rw [hz]; simp)] at hbe
    rcases a6 with ⟨h, _⟩ | ⟨n, hn, _, hsg⟩
    · exact absurd hz h
    obtain ⟨ve, vs, hs3⟩ := jA_open hs2
    refine set_log (S := S1) (J := W.2.2) (ve := ve) (vs := vs) (vs' := ⟨none, 0, 0⟩) (g := ⟨i, t, []⟩) (R := ownE ve W.2.2.log.es :: dsk J.d W.2.1 :: R) ?_ fun h3 hs4 => ?_
    · exact ((own.new 85 3 hs3).sel [0, 0, 1])
    have hs4 := hs4.del 1
    have hs4 : Sat h3 S1 (jA jb { W.2.2 with log := ⟨i, t, []⟩ } :: dsk J.d W.2.1 :: R) := hs4
    have hlen : W.2.2.segs.length = J.segs.length + 1 := by rw [hsg]; simp
    have hfl2 : ∀ x ∈ W.2.2.segs, x.file < 32 := by
      intro x hx
      rw [hsg] at hx
      rcases List.mem_append.1 hx with h | h
      · exact hfl x h
      · simp only [List.mem_singleton] at h
        subst h; exact free_lt hb hn
    generalize hJ0 : ({ W.2.2 with log := ⟨i, t, []⟩ } : Jn) = J0 at *
    have hJ0s : J0.segs = W.2.2.segs := by rw [← hJ0]
    have hJ0d : J0.d = J.d := by rw [← hJ0]; exact a1
    refine ⟨fun h => ∃ (k : Nat) (J' : Jn) (D' : Dk), J'.d = J.d ∧ J'.segs.length = k + 1 ∧ k < 100000 ∧ (∀ x ∈ J'.segs, x.file < 32) ∧ J'.dropN k D' = J0.dropN (W.2.2.segs.length - 1) W.2.1 ∧ Sat h S1 (jA jb J' :: dsk J.d D' :: R), fun h => segN jb h, ⟨W.2.2.segs.length - 1, J0, W.2.1, hJ0d, by rw [hJ0s]; omega, by omega, (by rw [hJ0s]; exact hfl2), rfl, hs4⟩, ?_⟩
    rintro h5 ⟨k, J', D', hd, hk, hk2, hf', he, hs5⟩ _
    have hn5 := segN_eq hs5
    have fin : ∀ (h6 : Heap) (X : Dk × Jn), X = J0.dropN (W.2.2.segs.length - 1) W.2.1 → Sat h6 S1 (jA jb X.2 :: dsk J.d X.1 :: R) → CallsH Tryz.prog 91 #[.pointer (some ⟨jb, 0, none⟩)] h6 (fun r4 h5 => ∃ n3 : Int, r4 = .int .i64 n3 ∧ K (.int .i64 n3) h5) := by
      intro h6 X hX hs6
      refine answer_spec hs6 ⟨_, rfl, ?_⟩
      rw [← hX] at hbe
      have := hK h6 S1 hS1 (by rw [hbe]; exact hs6)
      rw [hbe] at this; exact this
    obtain ⟨ve, vs, hs6⟩ := jA_open hs5
    have hvl := (ownS.len (hs6.pick 2 rfl)).1
    refine ⟨vs, hs6.cell 8 rfl, CondP.of (fun hc => ?_) (fun hc => ?_)⟩
    · obtain ⟨k, rfl⟩ : ∃ m, k = m + 1 := ⟨k - 1, by simp at hc; omega⟩
      rw [Jn.dropN] at he
      have hs5 : Sat h5 S1 (jA jb J' :: dsk J'.d D' :: R) := by rw [hd]; exact hs5
      refine drop_spec hs5 hf' (by omega) (by omega) fun h7 hs7 => ⟨_, rfl, CondP.of (fun hc3 => ?_) (fun hc3 => ?_)⟩
      · rw [if_pos hc3] at he
        obtain ⟨f1, f2, f3, f4, f5⟩ := dropAt_facts J' D' 0 (by omega)
        have f6 := dropAt_len (by omega) hc3
        have hel : (J'.segs.eraseIdx 0).length = J'.segs.length - 1 := List.length_eraseIdx_of_lt (by omega)
        have hn7 := segN_eq hs7
        rw [hd] at hs7
        refine ⟨⟨k, _, _, f1.trans hd, by rw [f6]; omega, by omega, fun x hx => hf' x (f4 x hx), he, hs7⟩, ?_⟩
        show segN jb h7 < segN jb h5
        rw [hn7, hn5, f6]; omega
      · rw [if_neg (by rw [hc3]; simp)] at he
        rw [hd] at hs7
        exact fin h7 _ he hs7
    · obtain rfl : k = 0 := by simp at hc; omega
      exact fin h5 (D', J') he hs5
  · have e1 : decide ((i : Int) > 4611686018427387904) = decide (MaxI < i) := decide_eq_decide.2 (by unfold MaxI; omega)
    have e2 : decide ((t : Int) > 4611686018427387904) = decide (MaxI < t) := decide_eq_decide.2 (by unfold MaxI; omega)
    rw [e1, e2]
    refine CondP.of (fun hc => ⟨rfl, ?_⟩) (fun hc => ⟨rfl, ?_⟩)
    · rw [decide_eq_true (.inl (of_decide_eq_true hc))]
    · have := of_decide_eq_false hc
      exact decide_eq_decide.2 ⟨fun h => .inr h, fun h => h.resolve_left this⟩
end
end Go.Sx.Tryz
namespace Go.Sx.Tryz
open Go Go.Sx Go.Proofs
set_option maxRecDepth 100000
set_option linter.unusedVariables false
noncomputable def c35 : Code := (Tryz.f35.body).getD .skip
def a35 : Ann := (.seq .leaf (.seq (.seq .leaf (.seq .leaf (.br (.seq .leaf .leaf) .leaf))) (.seq (.seq .leaf (.br (.seq .leaf .leaf) .leaf)) (.seq .leaf (.seq .leaf (.seq (.seq (.reg (.q 0 (.q 1 (.q 2 (.q 3 (.q 4 (.q 5 (.q 6 (.q 7 (.q 8 (.q 9 (.q 10 (.q 11 (.q 12 (.q 13 (.q 14 (.q 15 (.fin)))))))))))))))))) (.br (.seq .leaf (.seq (.seq .leaf (.seq .leaf (.br (.seq .leaf .leaf) .leaf))) (.seq .leaf (.seq .leaf (.seq .leaf .leaf))))) .leaf)) (.seq .leaf (.seq .leaf (.seq .leaf (.seq (.seq .leaf (.br (.seq .leaf .leaf) .leaf)) (.seq .leaf (.seq .leaf .leaf))))))))))))
theorem ok35 : okC tab 91 true c35 a35 = true := by kernel_rfl
theorem vc35 (j_b j_o : Nat) (from_ : Int) (h : Heap) (R : Value → Heap → Prop)
  (hv : CallsH Tryz.prog 77 #[.pointer (some ⟨j_b, j_o, none⟩)] h (fun r1 h1 => ∃ n1 : Int, r1 = .int .i64 n1 ∧
   CondP ((n1 : Int) != 0) (
   R (.int .i64 n1) h1) (
   CallsH Tryz.prog 88 #[.pointer (some ⟨j_b, j_o + 4, none⟩), .int .u64 from_] h1 (fun r2 h2 => ∃ t1 : Bool, r2 = .bool t1 ∧
   CondP (!t1) (
   R (.int .i64 2) h2) (
   ∃ n2 : Int, ∃ n3 : Int, ∃ x1 : Sl, ∃ x2 : Sl, CellsAt h2 j_b (j_o + 4) [.int .u64 n2, .int .u64 n3, .slice x1.a x1.l x1.c, .slice x2.a x2.l x2.c] ∧
   ∀ b1 h3, Fresh h2 (.cells #[.int .u64 0, .int .u64 0, .slice none 0 0, .slice none 0 0] 94) b1 h3 →
   CanSt h3 b1 0 [.int .u64 n2, .int .u64 n3, .slice x1.a x1.l x1.c, .slice x2.a x2.l x2.c] ∧ ∀ h4, Stored h3 b1 0 [.int .u64 n2, .int .u64 n3, .slice x1.a x1.l x1.c, .slice x2.a x2.l x2.c] h4 →
   ∃ x3 : Sl, cellH h4 b1 3 = some (.slice x3.a x3.l x3.c) ∧
   ∃ n4 : Int, cellH h4 b1 0 = some (.int .u64 n4) ∧
   ((0 : Int) ≤ (0 : Int) ∧ (0 : Int) ≤ IntKind.u64.wrap ((IntKind.u64.wrap (from_ - 1)) - n4) ∧ IntKind.u64.wrap ((IntKind.u64.wrap (from_ - 1)) - n4) ≤ ((x3.c : Nat) : Int)) ∧
   CallsH Tryz.prog 89 #[.slice (subA x3.a 0 x3.c 3) ((IntKind.u64.wrap ((IntKind.u64.wrap (from_ - 1)) - n4)).toNat) x3.c] h4 (fun r3 h5 => ∃ x4 : Sl, r3 = .slice x4.a x4.l x4.c ∧
   CanSt h5 b1 3 [.slice x4.a x4.l x4.c] ∧ ∀ h6, Stored h5 b1 3 [.slice x4.a x4.l x4.c] h6 →
   ∃ x5 : Sl, cellH h6 j_b (j_o + 8) = some (.slice x5.a x5.l x5.c) ∧
   ∃ x6 : Sl, cellH h6 j_b (j_o + 8) = some (.slice x6.a x6.l x6.c) ∧
   ((0 : Int) ≤ IntKind.i64.wrap (((x6.l : Nat) : Int) - 1) ∧ (IntKind.i64.wrap (((x6.l : Nat) : Int) - 1) : Int) < ((x5.l : Nat) : Int)) ∧
   NilP x5.a (fun b2 o1 =>
   ∃ n5 : Int, cellH h6 b2 (o1 + ((IntKind.i64.wrap (((x6.l : Nat) : Int) - 1)).toNat) * 5 + 1 + 2) = some (.int .u64 n5) ∧
   CondP (decide ((from_ : Int) ≤ n5)) (
   CallsH Tryz.prog 78 #[.pointer (some ⟨b1, 0, none⟩)] h6 (fun r4 h7 => ∃ n6 : Int, ∃ n7 : Int, ∃ x7 : Sl, r4 = .agg #[.int .u64 n6, .int .u64 n7, .slice x7.a x7.l x7.c] ∧
   ∀ b3 h8, Fresh h7 (.cells #[.int .u64 0, .int .u64 0, .slice none 0 0] 85) b3 h8 →
   CanSt h8 b3 0 [.int .u64 n6, .int .u64 n7, .slice x7.a x7.l x7.c] ∧ ∀ h9, Stored h8 b3 0 [.int .u64 n6, .int .u64 n7, .slice x7.a x7.l x7.c] h9 →
   ∃ n8 : Int, cellH h9 b3 0 = some (.int .u64 n8) ∧
   ∃ n9 : Int, cellH h9 b3 1 = some (.int .u64 n9) ∧
   CallsH Tryz.prog 90 #[.pointer (some ⟨j_b, j_o, none⟩), .agg #[.int .u64 0, .bool false, .int .u64 n8, .int .u64 n9]] h9 (fun r5 h10 => ∃ n10 : Int, r5 = .int .i64 n10 ∧
   CondP ((n10 : Int) != 0) (
   R (.int .i64 n10) h10) (
   ∃ n11 : Int, ∃ n12 : Int, ∃ x8 : Sl, ∃ x9 : Sl, CellsAt h10 b1 0 [.int .u64 n11, .int .u64 n12, .slice x8.a x8.l x8.c, .slice x9.a x9.l x9.c] ∧
   CanSt h10 j_b (j_o + 4) [.int .u64 n11, .int .u64 n12, .slice x8.a x8.l x8.c, .slice x9.a x9.l x9.c] ∧ ∀ h11, Stored h10 j_b (j_o + 4) [.int .u64 n11, .int .u64 n12, .slice x8.a x8.l x8.c, .slice x9.a x9.l x9.c] h11 →
   CallsH Tryz.prog 43 #[.pointer (some ⟨j_b, j_o, none⟩)] h11 (fun r6 h12 => r6 = .tuple #[] ∧
   CallsH Tryz.prog 91 #[.pointer (some ⟨j_b, j_o, none⟩)] h12 (fun r7 h13 => ∃ n13 : Int, r7 = .int .i64 n13 ∧
   R (.int .i64 n13) h13)))))) (
   ∀ b4 h14, Fresh h6 (.cells #[.slice none 0 0] 145) b4 h14 →
   ∀ b5 h15, Fresh h14 (.cells #[.int .u64 from_] 32) b5 h15 →
   CallsH Tryz.prog 80 #[.pointer (some ⟨b4, 0, none⟩), .slice (some ⟨b5, 0, none⟩) 1 1] h15 (fun r8 h16 => r8 = .tuple #[] ∧
   CallsH Tryz.prog 83 #[.pointer (some ⟨b4, 0, none⟩)] h16 (fun r9 h17 => ∃ x10 : Sl, r9 = .slice x10.a x10.l x10.c ∧
   CallsH Tryz.prog 82 #[.int .u8 3, .slice x10.a x10.l x10.c] h17 (fun r10 h18 => ∃ x11 : Sl, ∃ n14 : Int, r10 = .tuple #[.slice x11.a x11.l x11.c, .int .i64 n14] ∧
   CallsH Tryz.prog 85 #[.pointer (some ⟨j_b, j_o, none⟩)] h18 (fun r11 h19 => ∃ n15 : Int, r11 = .int .i64 n15 ∧
   CallsH Tryz.prog 87 #[.pointer (some ⟨j_b, j_o, none⟩), .int .i64 n15, .slice x11.a x11.l x11.c] h19 (fun r12 h20 => ∃ t2 : Bool, r12 = .bool t2 ∧
   CondP (!t2) (
   R (.int .i64 70) h20) (
   ∃ n16 : Int, ∃ n17 : Int, ∃ x12 : Sl, ∃ x13 : Sl, CellsAt h20 b1 0 [.int .u64 n16, .int .u64 n17, .slice x12.a x12.l x12.c, .slice x13.a x13.l x13.c] ∧
   CanSt h20 j_b (j_o + 4) [.int .u64 n16, .int .u64 n17, .slice x12.a x12.l x12.c, .slice x13.a x13.l x13.c] ∧ ∀ h21, Stored h20 j_b (j_o + 4) [.int .u64 n16, .int .u64 n17, .slice x12.a x12.l x12.c, .slice x13.a x13.l x13.c] h21 →
   R (.int .i64 0) h21)))))))))))))) :
  CallsH Tryz.prog 35 #[.pointer (some ⟨j_b, j_o, none⟩), .int .u64 from_] h R :=
  calls_of_vc tabOk mixed Tryz.func35 (c := c35) (by kernel_rfl) (n := 91) rfl (rs := [.tmp 4]) (by kernel_rfl) ok35 (args := [.pointer (some ⟨j_b, j_o, none⟩), .int .u64 from_]) (Nat.le_of_ble_eq_true rfl) (Eq.mpr (by kernel_rfl) hv)
end Go.Sx.Tryz
namespace Go.Sx.Tryz
open Go Go.Sx Go.Proofs
set_option linter.unusedVariables false
section
variable {H H' : Heap} {S : PH} {R : List Asn} {jb : Nat} {J : Jn}
def Lg.upto (g : Lg) (fr : Nat) : Lg := { g with es := g.es.take (fr - 1 - g.fi) }
def Jn.cutJ (J : Jn) (D : Dk) (fr : Nat) : Nat × Dk × Jn :=
  if J.broken = true then (70, D, J) else if mayB J.log.fi J.log.last.1.i fr = false then (2, D, J) else
  if fr ≤ idxAt J.segs (J.segs.length - 1) then
    (if (J.another D ⟨0, false, (J.log.upto fr).last.1.i, (J.log.upto fr).last.1.t⟩).1 ≠ 0 then J.another D ⟨0, false, (J.log.upto fr).last.1.i, (J.log.upto fr).last.1.t⟩ else
      ((Jn.idle { (J.another D ⟨0, false, (J.log.upto fr).last.1.i, (J.log.upto fr).last.1.t⟩).2.2 with log := J.log.upto fr } (J.another D ⟨0, false, (J.log.upto fr).last.1.i, (J.log.upto fr).last.1.t⟩).2.1).2.ans,
       Jn.idle { (J.another D ⟨0, false, (J.log.upto fr).last.1.i, (J.log.upto fr).last.1.t⟩).2.2 with log := J.log.upto fr } (J.another D ⟨0, false, (J.log.upto fr).last.1.i, (J.log.upto fr).last.1.t⟩).2.1))
  else if (J.write D (fileAt J.segs (J.segs.length - 1)) (parcelB 3 (natB fr))).1 = true then
    (0, (J.write D (fileAt J.segs (J.segs.length - 1)) (parcelB 3 (natB fr))).2.1, { (J.write D (fileAt J.segs (J.segs.length - 1)) (parcelB 3 (natB fr))).2.2 with log := J.log.upto fr })
  else (70, (J.write D (fileAt J.segs (J.segs.length - 1)) (parcelB 3 (natB fr))).2)
theorem ready_cases {b : Bool} (h : (((if b = true then 70 else 0 : Nat) : Int) != 0) = true) : b = true := by
  cases b with
  | true => rfl
  | false => simp at h
theorem ready_cases' {b : Bool} (h : (((if b = true then 70 else 0 : Nat) : Int) != 0) = false) : b = false := by
  cases b with
  | false => rfl
  | true => simp at h
theorem ne_cases {n : Nat} (h : ((n : Int) != 0) = true) : n ≠ 0 := by
  intro h0; rw [h0] at h; simp at h
theorem ne_cases' {n : Nat} (h : ((n : Int) != 0) = false) : n = 0 := by
  have : (n : Int) = 0 := by simpa using h
  omega
theorem cut_specJ {D : Dk} {fr : Nat} (hs : Sat H S (jA jb J :: dsk J.d D :: R)) (hb : J.first + J.many ≤ 32) (hfl : ∀ x ∈ J.segs, x.file < 32) (hsl : J.segs.length < 100000) (h0 : 0 < J.segs.length) (hlen : J.log.es.length < 1000000) (hfr : fr < 18446744073709551616) (hcon : J.log.Con)
    (hok : J.free ≠ [] → (J.fix ⟨0, false, (J.log.upto fr).last.1.i, (J.log.upto fr).last.1.t⟩).ok)
    {K : Value → Heap → Prop} (hK : ∀ H' S', PH.le S S' → Sat H' S' (jA jb (J.cutJ D fr).2.2 :: dsk J.d (J.cutJ D fr).2.1 :: R) → K (.int .i64 ((J.cutJ D fr).1 : Int)) H') : CallsH Tryz.prog 35 #[.pointer (some ⟨jb, 0, none⟩), .int .u64 (fr : Int)] H K := by
  apply vc35
  refine ready_spec hs ⟨_, rfl, CondP.of (fun hc => ?_) (fun hc => ?_)⟩
  · have hb := ready_cases hc
    have e : J.cutJ D fr = (70, D, J) := by rw [Jn.cutJ, if_pos hb]
    have := hK H S (PH.le.refl _) (by rw [e]; exact hs)
    rw [e] at this
    rw [if_pos hb]; exact this
  have hbr := ready_cases' hc
  have hbr' : ¬ J.broken = true := by rw [hbr]; simp
  obtain ⟨ve, vs, hs1⟩ := jA_open hs
  refine may_spec (pre := [.pointer (some ⟨J.d, 0, none⟩), .int .i64 (J.first : Int), .int .i64 (J.many : Int), .int .i64 (J.each : Int)]) (post := [.slice vs.a vs.l vs.c, .bool J.broken]) hs1 (by omega) hfr fun h2 hs2 => ⟨_, rfl, ?_⟩
  have hs2 : Sat h2 S (lst jb 97 (jcs J ve vs) :: ownE ve J.log.es :: ownS vs J.segs :: dsk J.d D :: R) := hs2
  have hml : mayB J.log.fi (lastE J.log.fi J.log.ft J.log.es).1.i fr = mayB J.log.fi J.log.last.1.i fr := rfl
  rw [hml]
  refine CondP.of (fun hc => ?_) (fun hc => ?_)
  · have hm : mayB J.log.fi J.log.last.1.i fr = false := by simpa using hc
    have e : J.cutJ D fr = (2, D, J) := by rw [Jn.cutJ, if_neg hbr', if_pos hm]
    have := hK h2 S (PH.le.refl _) (by rw [e]; exact jA_shut hs2)
    rw [e] at this; exact this
  have hm : mayB J.log.fi J.log.last.1.i fr = true := by simpa using hc
  have hm' : ¬ mayB J.log.fi J.log.last.1.i fr = false := by rw [hm]; simp
  have hmm : J.log.fi < fr ∧ fr - 1 ≤ J.log.last.1.i := by
    unfold mayB at hm
    rw [Bool.and_eq_true] at hm
    exact ⟨of_decide_eq_true hm.1, of_decide_eq_true hm.2⟩
  unfold Lg.Con at hcon
  have hce : J.cutJ D fr = if fr ≤ idxAt J.segs (J.segs.length - 1) then
    (if (J.another D ⟨0, false, (J.log.upto fr).last.1.i, (J.log.upto fr).last.1.t⟩).1 ≠ 0 then J.another D ⟨0, false, (J.log.upto fr).last.1.i, (J.log.upto fr).last.1.t⟩ else
      ((Jn.idle { (J.another D ⟨0, false, (J.log.upto fr).last.1.i, (J.log.upto fr).last.1.t⟩).2.2 with log := J.log.upto fr } (J.another D ⟨0, false, (J.log.upto fr).last.1.i, (J.log.upto fr).last.1.t⟩).2.1).2.ans,
       Jn.idle { (J.another D ⟨0, false, (J.log.upto fr).last.1.i, (J.log.upto fr).last.1.t⟩).2.2 with log := J.log.upto fr } (J.another D ⟨0, false, (J.log.upto fr).last.1.i, (J.log.upto fr).last.1.t⟩).2.1))
    else if (J.write D (fileAt J.segs (J.segs.length - 1)) (parcelB 3 (natB fr))).1 = true then
      (0, (J.write D (fileAt J.segs (J.segs.length - 1)) (parcelB 3 (natB fr))).2.1, { (J.write D (fileAt J.segs (J.segs.length - 1)) (parcelB 3 (natB fr))).2.2 with log := J.log.upto fr })
    else (70, (J.write D (fileAt J.segs (J.segs.length - 1)) (parcelB 3 (natB fr))).2) := by
    rw [Jn.cutJ, if_neg hbr', if_neg hm']
  refine ⟨_, _, ⟨none, 0, 0⟩, ve, hs2.cells 4 rfl, ?_⟩
  intro b1 h3 f3
  have hs3 := hs2.fresh f3
  have hs3 : Sat h3 S (lst b1 94 [.int .u64 0, .int .u64 0, .slice none 0 0, .slice none 0 0] :: lst jb 97 (jcs J ve vs) :: ownE ve J.log.es :: ownS vs J.segs :: dsk J.d D :: R) := hs3
  refine hs3.store (Nat.le_refl _) fun h4 hs4 => ?_
  have hs4 : Sat h4 S (lst b1 94 (lgV J.log.fi J.log.ft ve) :: lst jb 97 (jcs J ve vs) :: ownE ve J.log.es :: ownS vs J.segs :: dsk J.d D :: R) := hs4
  have ew : IntKind.u64.wrap (IntKind.u64.wrap ((fr : Int) - 1) - (J.log.fi : Int)) = ((fr - 1 - J.log.fi : Nat) : Int) := by
    rw [u64_in (n := (fr : Int) - 1) (by omega) (by omega), u64_in (by omega) (by omega)]; omega
  obtain ⟨hl, hlc⟩ := ownE.len (hs4.pick 2 rfl)
  refine ⟨ve, hs4.cell 3 rfl, _, hs4.cell 0 rfl, ?_⟩
  rw [ew]
  simp only [Int.toNat_natCast]
  refine ⟨⟨by omega, by omega, by omega⟩, ?_⟩
  have hcl := ownE.reads (hs4.pick 2 rfl) (fr - 1 - J.log.fi) (by omega) ve.c
  refine cloneE_spec (v := ⟨subA ve.a 0 ve.c 3, fr - 1 - J.log.fi, ve.c⟩) hs4 hcl (by rw [List.length_take]; omega) fun w h5 hs5 => ⟨w, rfl, ?_⟩
  refine hs5.swap.store (by simp [lgV]) fun h6 hs6 => ?_
  have hs6 : Sat h6 S (lst b1 94 (lgV (J.log.upto fr).fi (J.log.upto fr).ft w) :: ownE w (J.log.upto fr).es :: lst jb 97 (jcs J ve vs) :: ownE ve J.log.es :: ownS vs J.segs :: dsk J.d D :: R) := hs6
  have hjb := hs6.pick 2 rfl
  have hc8 := hjb.cell 8 (v := .slice vs.a vs.l vs.c) rfl
  have hvl := (ownS.len (hs6.pick 4 rfl)).1
  have ew2 : IntKind.i64.wrap (((vs.l : Nat) : Int) - 1) = ((J.segs.length - 1 : Nat) : Int) := by rw [i64_in (by omega) (by omega)]; omega
  refine ⟨vs, hc8, vs, hc8, ?_⟩
  rw [ew2]
  simp only [Int.toNat_natCast]
  obtain ⟨g, ga, gc⟩ := ownS.at (hs6.pick 4 rfl) (k := J.segs.length - 1) (by omega)
  obtain ⟨hfa, _, hix⟩ := getSeg (l := J.segs) (i := J.segs.length - 1) (by omega)
  refine ⟨⟨by omega, by omega⟩, NilP.of ga ⟨((J.segs[J.segs.length - 1]'(by omega)).head.i : Int), ?_, ?_⟩⟩
  · have := gc.get 3 _ rfl
    simpa using this
  have ed : decide ((fr : Int) ≤ ((J.segs[J.segs.length - 1]'(by omega)).head.i : Int)) = decide (fr ≤ idxAt J.segs (J.segs.length - 1)) := decide_eq_decide.2 (by rw [hix]; exact Int.ofNat_le)
  rw [ed]
  have hs7 : Sat h6 S (jA jb J :: dsk J.d D :: lst b1 94 (lgV (J.log.upto fr).fi (J.log.upto fr).ft w) :: ownE w (J.log.upto fr).es :: R) := by
    have := (hs6.sel [2, 2, 2])
    exact (jA_shut this).sel [0, 2]
  have setl : ∀ (hh : Heap) (SS : PH) (D' : Dk) (J' : Jn), Sat hh SS (jA jb J' :: dsk J.d D' :: lst b1 94 (lgV (J.log.upto fr).fi (J.log.upto fr).ft w) :: ownE w (J.log.upto fr).es :: R) →
      ∀ (Q : Heap → Prop), (∀ H', Sat H' SS (jA jb { J' with log := J.log.upto fr } :: dsk J.d D' :: R) → Q H') →
      ∃ n11 : Int, ∃ n12 : Int, ∃ x8 : Sl, ∃ x9 : Sl, CellsAt hh b1 0 [.int .u64 n11, .int .u64 n12, .slice x8.a x8.l x8.c, .slice x9.a x9.l x9.c] ∧
       CanSt hh jb 4 [.int .u64 n11, .int .u64 n12, .slice x8.a x8.l x8.c, .slice x9.a x9.l x9.c] ∧ ∀ h11, Stored hh jb 4 [.int .u64 n11, .int .u64 n12, .slice x8.a x8.l x8.c, .slice x9.a x9.l x9.c] h11 → Q h11 := by
    intro hh SS D' J' hx Q hQ
    obtain ⟨ve', vs', hy⟩ := jA_open hx
    refine ⟨_, _, ⟨none, 0, 0⟩, w, (hy.pick 4 rfl).cells 0 rfl, ?_⟩
    refine set_log (S := SS) (J := J') (ve := ve') (vs := vs') (vs' := w) (g := J.log.upto fr) (R := ownE ve' J'.log.es :: dsk J.d D' :: lst b1 94 (lgV (J.log.upto fr).fi (J.log.upto fr).ft w) :: R) ?_ fun h8 hz => hQ h8 ?_
    · exact hy.sel [5, 0, 1]
    · exact (hz.del 1).del 2
  refine CondP.of (fun hc => ?_) (fun hc => ?_)
  · have hle := of_decide_eq_true hc
    rw [if_pos hle] at hce
    refine last_spec (pre := []) (post := []) (v := w) (fi := (J.log.upto fr).fi) (ft := (J.log.upto fr).ft) (es := (J.log.upto fr).es) (S := S) (T := 94) (gb := b1) (R := jA jb J :: dsk J.d D :: R) (hs7.sel [2, 2]) (by show (List.take _ _).length < _; rw [List.length_take]; omega) fun h7 hs8 => ⟨_, _, _, rfl, ?_⟩
    intro b3 h8 f8
    have hs9 := hs8.fresh f8
    refine Sat.store (T := 85) (l := [.int .u64 0, .int .u64 0, .slice none 0 0]) hs9 (Nat.le_refl _) fun h9 hs10 => ?_
    have hs10 : Sat h9 S (lst b3 85 (eV (J.log.upto fr).last) :: lst b1 94 (lgV (J.log.upto fr).fi (J.log.upto fr).ft w) :: ownE w (J.log.upto fr).es :: jA jb J :: dsk J.d D :: R) := hs10
    refine ⟨_, hs10.cell 0 rfl, _, hs10.cell 1 rfl, ?_⟩
    refine another_spec (h := ⟨0, false, (J.log.upto fr).last.1.i, (J.log.upto fr).last.1.t⟩) (hs10.sel [3, 3]) hb (by omega) hok fun h10 S1 hS1 hs11 => ⟨_, rfl, ?_⟩
    obtain ⟨a1, a2, a3, a4, a5, a6⟩ := another_cases J D ⟨0, false, (J.log.upto fr).last.1.i, (J.log.upto fr).last.1.t⟩
    generalize J.another D ⟨0, false, (J.log.upto fr).last.1.i, (J.log.upto fr).last.1.t⟩ = W at *
    refine CondP.of (fun hc2 => ?_) (fun hc2 => ?_)
    · have hz := ne_cases hc2
      rw [if_pos hz] at hce
      have := hK h10 S1 hS1 (by rw [hce]; exact (((hs11.del 2).del 2).del 2))
      rw [hce] at this; exact this
    have hz := ne_cases' hc2
    rw [if_neg (by rw [hz]; simp)] at hce
    rcases a6 with ⟨h, _⟩ | ⟨n, hn, _, hsg⟩
    · exact absurd hz h
    refine setl h10 S1 W.2.1 W.2.2 (hs11.del 2) _ fun h11 hs12 => ?_
    have hfl2 : ∀ x ∈ W.2.2.segs, x.file < 32 := by
      intro x hx
      rw [hsg] at hx
      rcases List.mem_append.1 hx with h | h
      · exact hfl x h
      · simp only [List.mem_singleton] at h
        subst h; exact free_lt hb hn
    have hln : W.2.2.segs.length = J.segs.length + 1 := by rw [hsg]; simp
    rw [← a1] at hs12
    refine idle_spec (J := { W.2.2 with log := J.log.upto fr }) hs12 hfl2 (by show W.2.2.segs.length < _; omega) (by show 0 < W.2.2.segs.length; omega) fun h12 hs13 => ⟨rfl, ?_⟩
    refine answer_spec hs13 ⟨_, rfl, ?_⟩
    have := hK h12 S1 hS1 (by rw [hce]; rw [← a1]; exact hs13)
    rw [hce] at this; exact this
  · have hle := of_decide_eq_false hc
    rw [if_neg hle] at hce
    intro b4 h7 f7
    have hs8 : Sat h7 S (lst b4 145 [.slice none 0 0] :: jA jb J :: dsk J.d D :: lst b1 94 (lgV (J.log.upto fr).fi (J.log.upto fr).ft w) :: ownE w (J.log.upto fr).es :: R) := hs7.fresh f7
    have hw : Sat h7 S (wr b4 [] :: jA jb J :: dsk J.d D :: lst b1 94 (lgV (J.log.upto fr).fi (J.log.upto fr).ft w) :: ownE w (J.log.upto fr).es :: R) := wr_shut (v := ⟨none, 0, 0⟩) (own.new 5 1 hs8).swap
    intro b5 h8 f8
    refine Nat_new f8 hw (ns := [fr]) rfl (by intro m hm; simp at hm; omega) (by simp) (by simp) rfl fun h9 hs9 => ⟨rfl, ?_⟩
    have e1 : ([] ++ nats [fr]) = natB fr := by simp [nats]
    rw [e1] at hs9
    have hnl := natB_le hfr
    refine Bytes_spec hs9 (by omega) fun x2 h10 S1 hS1 hs10 hr10 => ⟨x2, rfl, ?_⟩
    refine Wrap_spec hs10 hr10 (kind := 3) (by decide) (by omega) fun x3 h11 S2 hS2 hs11 => ⟨x3, _, rfl, ?_⟩
    obtain ⟨S3, q1, q2, q3⟩ := own.fixd hs11
    have hs12 := q3.sel [1, 1]
    refine current_spec hs12 (k := J.segs.length - 1) (by omega) (by omega) ⟨_, rfl, ?_⟩
    rw [← hfa]
    have hpl := parcelB_len 3 (natB fr)
    have hn10 := natB_le (n := (natB fr).length) (by omega)
    have hf32 : fileAt J.segs (J.segs.length - 1) < 32 := by rw [hfa]; exact hfl _ (List.getElem_mem _)
    refine write_spec (f := fileAt J.segs (J.segs.length - 1)) hf32 hs12 q2 (by rw [hpl]; omega) fun h12 hs13 => ⟨_, rfl, ?_⟩
    have hle' := (hS1.trans hS2).trans q1
    generalize J.write D (fileAt J.segs (J.segs.length - 1)) (parcelB 3 (natB fr)) = W at *
    refine CondP.of (fun hc2 => ?_) (fun hc2 => ?_)
    · have hz : ¬ W.1 = true := by simpa using hc2
      rw [if_neg hz] at hce
      have := hK h12 S3 hle' (by rw [hce]; exact (((hs13.del 2).del 2).del 2))
      rw [hce] at this; exact this
    · have hz : W.1 = true := by simpa using hc2
      rw [if_pos hz] at hce
      refine setl h12 S3 W.2.1 W.2.2 (hs13.del 2) _ fun h13 hs14 => ?_
      have := hK h13 S3 hle' (by rw [hce]; exact hs14)
      rw [hce] at this; exact this
end
end Go.Sx.Tryz
namespace Go.Sx.Tryz
open Go Go.Sx Go.Proofs
set_option maxRecDepth 100000
set_option linter.unusedVariables false
noncomputable def c33 : Code := (Tryz.f33.body).getD .skip
def a33 : Ann := (.seq .leaf (.seq (.seq .leaf (.seq .leaf (.br (.seq .leaf .leaf) .leaf))) (.seq .leaf (.seq .leaf (.seq (.seq .leaf (.inn (.loop [(7, .one (.sl)), (27, .one (.i .i64))] (.seq .leaf (.seq (.br .leaf .leaf) (.seq (.inn (.seq .leaf (.seq (.seq .leaf (.br (.seq .leaf .leaf) .leaf)) (.seq .leaf (.seq .leaf (.seq .leaf (.seq .leaf (.seq .leaf .leaf)))))))) .leaf)))))) (.join [] (.join [(72, .one (.b))] (.reg (.q 0 (.q 1 (.q 2 (.q 3 (.q 4 (.q 7 (.q 8 (.q 9 (.q 10 (.m 5 (.m 6 (.q 11 (.q 12 (.q 13 (.m 14 (.q 15 (.q 16 (.q 17 (.fin)))) (.nil))))) (.nil)) (.nil)))))))))))) (.br (.seq .leaf .leaf) .leaf)) (.seq (.join [(95, .one (.b))] .leaf (.br (.seq .leaf .leaf) .leaf)) (.seq (.seq .leaf (.inn (.loop [(98, .one (.i .i64))] (.seq .leaf (.seq (.br .leaf .leaf) (.seq (.inn (.seq .leaf (.seq .leaf (.reg (.q 0 (.q 1 (.q 2 (.q 3 (.q 4 (.q 5 (.q 6 (.m 7 (.m 8 (.q 9 (.q 10 (.q 11 (.m 12 (.fin) (.nil))))) (.nil)) (.nil))))))))))))) .leaf)))))) (.seq .leaf .leaf)))))))))
theorem ok33 : okC tab 119 true c33 a33 = true := by kernel_rfl
theorem vc33 (j_b j_o : Nat) (l_ : Sl) (h : Heap) (R : Value → Heap → Prop)
  (hv : CallsH Tryz.prog 77 #[.pointer (some ⟨j_b, j_o, none⟩)] h (fun r1 h1 => ∃ n1 : Int, r1 = .int .i64 n1 ∧
   CondP ((n1 : Int) != 0) (
   R (.int .i64 n1) h1) (
   CallsH Tryz.prog 78 #[.pointer (some ⟨j_b, j_o + 4, none⟩)] h1 (fun r2 h2 => ∃ n2 : Int, ∃ n3 : Int, ∃ x1 : Sl, r2 = .agg #[.int .u64 n2, .int .u64 n3, .slice x1.a x1.l x1.c] ∧
   ∀ b1 h3, Fresh h2 (.cells #[.int .u64 0, .int .u64 0, .slice none 0 0] 85) b1 h3 →
   CanSt h3 b1 0 [.int .u64 n2, .int .u64 n3, .slice x1.a x1.l x1.c] ∧ ∀ h4, Stored h3 b1 0 [.int .u64 n2, .int .u64 n3, .slice x1.a x1.l x1.c] h4 →
   ∃ (I1 : Sl → Int → Heap → Prop) (mu1 : Sl → Int → Heap → Nat), I1 ⟨none, 0, 0⟩ 0 h4 ∧ (∀ x2 : Sl, ∀ n4 : Int, ∀ h5, I1 x2 n4 h5 → ∀ _ : Env,
   CondP (decide ((n4 : Int) < ((l_.l : Nat) : Int))) (
   ((0 : Int) ≤ n4 ∧ (n4 : Int) < ((l_.l : Nat) : Int)) ∧
   NilP l_.a (fun b2 o1 =>
   ∃ n5 : Int, ∃ n6 : Int, ∃ x3 : Sl, CellsAt h5 b2 (o1 + n4.toNat * 3) [.int .u64 n5, .int .u64 n6, .slice x3.a x3.l x3.c] ∧
   ∀ b3 h6, Fresh h5 (.cells #[.int .u64 0, .int .u64 0, .slice none 0 0] 85) b3 h6 →
   CanSt h6 b3 0 [.int .u64 n5, .int .u64 n6, .slice x3.a x3.l x3.c] ∧ ∀ h7, Stored h6 b3 0 [.int .u64 n5, .int .u64 n6, .slice x3.a x3.l x3.c] h7 →
   ∃ n7 : Int, ∃ n8 : Int, ∃ x4 : Sl, CellsAt h7 b3 0 [.int .u64 n7, .int .u64 n8, .slice x4.a x4.l x4.c] ∧
   ∃ n9 : Int, ∃ n10 : Int, ∃ x5 : Sl, CellsAt h7 b1 0 [.int .u64 n9, .int .u64 n10, .slice x5.a x5.l x5.c] ∧
   CallsH Tryz.prog 79 #[.agg #[.int .u64 n7, .int .u64 n8, .slice x4.a x4.l x4.c], .agg #[.int .u64 n9, .int .u64 n10, .slice x5.a x5.l x5.c]] h7 (fun r3 h8 => ∃ t1 : Bool, r3 = .bool t1 ∧
   CondP (!t1) (
   R (.int .i64 2) h8) (
   ∀ b4 h9, Fresh h8 (.cells #[.slice none 0 0] 145) b4 h9 →
   ∃ n11 : Int, cellH h9 b3 0 = some (.int .u64 n11) ∧
   ∃ n12 : Int, cellH h9 b3 1 = some (.int .u64 n12) ∧
   ∀ b5 h10, Fresh h9 (.cells #[.int .u64 n11, .int .u64 n12] 32) b5 h10 →
   CallsH Tryz.prog 80 #[.pointer (some ⟨b4, 0, none⟩), .slice (some ⟨b5, 0, none⟩) 2 2] h10 (fun r4 h11 => r4 = .tuple #[] ∧
   ∃ x6 : Sl, cellH h11 b3 2 = some (.slice x6.a x6.l x6.c) ∧
   ∃ s1 : ByteArray, StrOf h11 x6.a x6.l s1 ∧
   CallsH Tryz.prog 81 #[.pointer (some ⟨b4, 0, none⟩), .string s1] h11 (fun r5 h12 => r5 = .tuple #[] ∧
   CallsH Tryz.prog 83 #[.pointer (some ⟨b4, 0, none⟩)] h12 (fun r6 h13 => ∃ x7 : Sl, r6 = .slice x7.a x7.l x7.c ∧
   CallsH Tryz.prog 82 #[.int .u8 2, .slice x7.a x7.l x7.c] h13 (fun r7 h14 => ∃ x8 : Sl, ∃ n13 : Int, r7 = .tuple #[.slice x8.a x8.l x8.c, .int .i64 n13] ∧
   RunK Tryz.prog (.sl) (Builtin.append_ #[33, 33] 33 #[.slice x2.a x2.l x2.c, .slice x8.a x8.l x8.c]) h14 (fun x9 h15 =>
   ∃ n14 : Int, ∃ n15 : Int, ∃ x10 : Sl, CellsAt h15 b3 0 [.int .u64 n14, .int .u64 n15, .slice x10.a x10.l x10.c] ∧
   CanSt h15 b1 0 [.int .u64 n14, .int .u64 n15, .slice x10.a x10.l x10.c] ∧ ∀ h16, Stored h15 b1 0 [.int .u64 n14, .int .u64 n15, .slice x10.a x10.l x10.c] h16 →
   I1 x9 (IntKind.i64.wrap (n4 + 1)) h16 ∧ mu1 x9 (IntKind.i64.wrap (n4 + 1)) h16 < mu1 x2 n4 h5))))))))) (
   ∃ J1 : Heap → Prop, (∀ h17, J1  h17 → ∀ _ : Env,
   ∃ J2 : Bool → Heap → Prop, (∀ t2 : Bool, ∀ h18, J2 t2 h18 → ∀ _ : Env,
   CondP t2 (
   R (.int .i64 70) h18) (
   ∃ (I2 : Int → Heap → Prop) (mu2 : Int → Heap → Nat), I2 0 h18 ∧ (∀ n16 : Int, ∀ h19, I2 n16 h19 → ∀ _ : Env,
   CondP (decide ((n16 : Int) < ((l_.l : Nat) : Int))) (
   ((0 : Int) ≤ n16 ∧ (n16 : Int) < ((l_.l : Nat) : Int)) ∧
   NilP l_.a (fun b6 o2 =>
   ∃ n17 : Int, ∃ n18 : Int, ∃ x11 : Sl, CellsAt h19 b6 (o2 + n16.toNat * 3) [.int .u64 n17, .int .u64 n18, .slice x11.a x11.l x11.c] ∧
   ∀ b7 h20, Fresh h19 (.cells #[.int .u64 0, .int .u64 0, .slice none 0 0] 85) b7 h20 →
   CanSt h20 b7 0 [.int .u64 n17, .int .u64 n18, .slice x11.a x11.l x11.c] ∧ ∀ h21, Stored h20 b7 0 [.int .u64 n17, .int .u64 n18, .slice x11.a x11.l x11.c] h21 →
   ∃ x12 : Sl, cellH h21 b7 2 = some (.slice x12.a x12.l x12.c) ∧
   CallsH Tryz.prog 71 #[.slice x12.a x12.l x12.c] h21 (fun r8 h22 => ∃ x13 : Sl, r8 = .slice x13.a x13.l x13.c ∧
   CanSt h22 b7 2 [.slice x13.a x13.l x13.c] ∧ ∀ h23, Stored h22 b7 2 [.slice x13.a x13.l x13.c] h23 →
   ∃ x14 : Sl, cellH h23 j_b (j_o + 4 + 3) = some (.slice x14.a x14.l x14.c) ∧
   ∃ n19 : Int, ∃ n20 : Int, ∃ x15 : Sl, CellsAt h23 b7 0 [.int .u64 n19, .int .u64 n20, .slice x15.a x15.l x15.c] ∧
   ∀ b8 h24, Fresh h23 (.cells #[.int .u64 n19, .int .u64 n20, .slice x15.a x15.l x15.c] 85) b8 h24 →
   cellH h24 j_b (j_o + 4 + 3) = some (.slice x14.a x14.l x14.c) ∧
   RunK Tryz.prog (.sl) (Builtin.append_ #[81, 81] 81 #[.slice x14.a x14.l x14.c, .slice (some ⟨b8, 0, none⟩) 1 1]) h24 (fun x16 h25 =>
   CanSt h25 j_b (j_o + 4 + 3) [.slice x16.a x16.l x16.c] ∧ ∀ h26, Stored h25 j_b (j_o + 4 + 3) [.slice x16.a x16.l x16.c] h26 →
   I2 (IntKind.i64.wrap (n16 + 1)) h26 ∧ mu2 (IntKind.i64.wrap (n16 + 1)) h26 < mu2 n16 h19)))) (
   R (.int .i64 0) h19)))) ∧
   ∃ t3 : Bool, cellH h17 j_b (j_o + 9) = some (.bool t3) ∧
   CondP t3 (
   J2 true h17) (
   CallsH Tryz.prog 85 #[.pointer (some ⟨j_b, j_o, none⟩)] h17 (fun r9 h27 => ∃ n21 : Int, r9 = .int .i64 n21 ∧
   CallsH Tryz.prog 87 #[.pointer (some ⟨j_b, j_o, none⟩), .int .i64 n21, .slice x2.a x2.l x2.c] h27 (fun r10 h28 => ∃ t4 : Bool, r10 = .bool t4 ∧
   J2 (!t4) h28)))) ∧
   ∃ J3 : Bool → Heap → Prop, (∀ t5 : Bool, ∀ h29, J3 t5 h29 → ∀ _ : Env,
   CondP t5 (
   CallsH Tryz.prog 78 #[.pointer (some ⟨j_b, j_o + 4, none⟩)] h29 (fun r11 h30 => ∃ n22 : Int, ∃ n23 : Int, ∃ x17 : Sl, r11 = .agg #[.int .u64 n22, .int .u64 n23, .slice x17.a x17.l x17.c] ∧
   ∀ b9 h31, Fresh h30 (.cells #[.int .u64 0, .int .u64 0, .slice none 0 0] 85) b9 h31 →
   CanSt h31 b9 0 [.int .u64 n22, .int .u64 n23, .slice x17.a x17.l x17.c] ∧ ∀ h32, Stored h31 b9 0 [.int .u64 n22, .int .u64 n23, .slice x17.a x17.l x17.c] h32 →
   ∃ n24 : Int, cellH h32 b9 0 = some (.int .u64 n24) ∧
   ∃ n25 : Int, cellH h32 b9 1 = some (.int .u64 n25) ∧
   CallsH Tryz.prog 42 #[.pointer (some ⟨j_b, j_o, none⟩), .agg #[.int .u64 0, .bool false, .int .u64 n24, .int .u64 n25]] h32 (fun r12 h33 => ∃ t6 : Bool, r12 = .bool t6 ∧
   J1  h33))) (
   J1  h29)) ∧
   ∃ p1 : Option Addr, cellH h5 j_b j_o = some (.pointer p1) ∧
   ∃ n26 : Int, cellH h5 j_b (j_o + 3) = some (.int .i64 n26) ∧
   CallsH Tryz.prog 85 #[.pointer (some ⟨j_b, j_o, none⟩)] h5 (fun r13 h34 => ∃ n27 : Int, r13 = .int .i64 n27 ∧
   cellH h34 j_b (j_o + 3) = some (.int .i64 n26) ∧
   cellH h34 j_b j_o = some (.pointer p1) ∧
   CallsH Tryz.prog 84 #[.pointer p1, .int .i64 n27] h34 (fun r14 h35 => ∃ n28 : Int, r14 = .int .i64 n28 ∧
   cellH h35 j_b (j_o + 3) = some (.int .i64 n26) ∧
   CondP (decide ((n28 : Int) ≥ n26)) (
   CallsH Tryz.prog 86 #[.pointer (some ⟨j_b, j_o, none⟩)] h35 (fun r15 h36 => ∃ x18 : Sl, r15 = .slice x18.a x18.l x18.c ∧
   J3 (decide ((((x18.l : Nat) : Int) : Int) > 1)) h36)) (
   J3 false h35))))))))) :
  CallsH Tryz.prog 33 #[.pointer (some ⟨j_b, j_o, none⟩), .slice l_.a l_.l l_.c] h R :=
  calls_of_vc tabOk mixed Tryz.func33 (c := c33) (by kernel_rfl) (n := 119) rfl (rs := [.tmp 4]) (by kernel_rfl) ok33 (args := [.pointer (some ⟨j_b, j_o, none⟩), .slice l_.a l_.l l_.c]) (Nat.le_of_ble_eq_true rfl) (Eq.mpr (by kernel_rfl) hv)
end Go.Sx.Tryz
namespace Go.Sx.Tryz
open Go Go.Sx Go.Proofs
set_option maxRecDepth 100000
set_option linter.unusedVariables false
noncomputable def c79 : Code := (Tryz.f79.body).getD .skip
def a79 : Ann := (.seq .leaf (.seq .leaf .leaf))
theorem ok79 : okC tab 34 true c79 a79 = true := by kernel_rfl
theorem vc79 (x_0 : Int) (x_1 : Int) (x_2 : Sl) (last_0 : Int) (last_1 : Int) (last_2 : Sl) (h : Heap) (R : Value → Heap → Prop)
  (hv : ∀ b1 h1, Fresh h (.cells #[.int .u64 x_0, .int .u64 x_1, .slice x_2.a x_2.l x_2.c] 85) b1 h1 →
   ∀ b2 h2, Fresh h1 (.cells #[.int .u64 last_0, .int .u64 last_1, .slice last_2.a last_2.l last_2.c] 85) b2 h2 →
   ∃ n1 : Int, cellH h2 b1 0 = some (.int .u64 n1) ∧
   CondP (decide ((n1 : Int) ≤ 4611686018427387904)) (
   ∃ n2 : Int, cellH h2 b1 1 = some (.int .u64 n2) ∧
   CondP (decide ((n2 : Int) ≤ 4611686018427387904)) (
   ∃ n3 : Int, cellH h2 b1 0 = some (.int .u64 n3) ∧
   ∃ n4 : Int, cellH h2 b2 0 = some (.int .u64 n4) ∧
   CondP ((n3 : Int) == (IntKind.u64.wrap (n4 + 1))) (
   ∃ n5 : Int, cellH h2 b1 1 = some (.int .u64 n5) ∧
   ∃ n6 : Int, cellH h2 b2 1 = some (.int .u64 n6) ∧
   CondP (decide ((n5 : Int) ≥ n6)) (
   ∃ x1 : Sl, cellH h2 b1 2 = some (.slice x1.a x1.l x1.c) ∧
   R (.bool (decide ((((x1.l : Nat) : Int) : Int) ≤ 512))) h2) (
   R (.bool false) h2)) (
   R (.bool false) h2)) (
   R (.bool false) h2)) (
   R (.bool false) h2)) :
  CallsH Tryz.prog 79 #[.agg #[.int .u64 x_0, .int .u64 x_1, .slice x_2.a x_2.l x_2.c], .agg #[.int .u64 last_0, .int .u64 last_1, .slice last_2.a last_2.l last_2.c]] h R :=
  calls_of_vc tabOk mixed Tryz.func79 (c := c79) (by kernel_rfl) (n := 34) rfl (rs := [.tmp 4]) (by kernel_rfl) ok79 (args := [.agg #[.int .u64 x_0, .int .u64 x_1, .slice x_2.a x_2.l x_2.c], .agg #[.int .u64 last_0, .int .u64 last_1, .slice last_2.a last_2.l last_2.c]]) (Nat.le_of_ble_eq_true rfl) (Eq.mpr (by kernel_rfl) hv)
end Go.Sx.Tryz
